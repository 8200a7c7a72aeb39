import Derived.Test.YtabdohophompiaaGreatDoorFiM
namespace Go.Av
set_option linter.unusedVariables false
set_option linter.unusedSimpArgs false
def z41 (c:UInt8):UInt8:=qcl c
end Go.Av
