import Derived.Test.YtcbimkaeoojceaaGreatDoorFiM
namespace Go.Av
set_option linter.unusedSimpArgs false
set_option linter.unusedVariables false
def z16 (c:UInt8):UInt8:=z44 c
end Go.Av
