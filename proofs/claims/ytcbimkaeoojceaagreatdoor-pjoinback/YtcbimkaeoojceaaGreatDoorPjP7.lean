import Derived.Test.YtcbimkaeoojceaaGreatDoorPjP6
namespace Go.Av
set_option linter.unusedSimpArgs false
set_option linter.unusedVariables false
theorem qEv (a b:LU):z19 a b=(z28 a==z28 b):=rfl
end Go.Av
