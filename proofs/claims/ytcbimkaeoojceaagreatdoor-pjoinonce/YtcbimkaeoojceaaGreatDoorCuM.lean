import Derived.Test.YtcbimkaeoojceaaGreatDoorEfM
import Derived.KernelRfl
import Derived.Lib.TrailingZeros
namespace Go.Av
set_option linter.unusedVariables false
set_option linter.unusedSimpArgs false
def z20 (s:List Int):List Int:=s
def qzT (s:List Int):Bool:=lenOk s
end Go.Av
