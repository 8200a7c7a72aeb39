import Derived.Test.YtcbimkaeoojceaaGreatDoorPjP6
namespace Go.Av
theorem qEv (a b:LU):z19 a b=(z28 a==z28 b):=rfl
end Go.Av
