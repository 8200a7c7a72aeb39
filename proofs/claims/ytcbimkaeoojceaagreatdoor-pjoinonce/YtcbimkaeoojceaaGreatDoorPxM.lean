import Derived.Test.YtcbimkaeoojceaaGreatDoorCuM
namespace Go.Av
set_option linter.unusedVariables false
set_option linter.unusedSimpArgs false
abbrev qd:=List UInt8×(Int×(Bool×(List UInt8×Unit)))
def z12 (t:List Int):Int:=qdf z21 t 0
def qyq (t:List Int):Bool:=lenOk t
abbrev PutT:=Bool×(List UInt8×List (List UInt8))
end Go.Av
