import Derived.Test.YtcbimkaeoojceaaGreatDoorEfB2
namespace Go.Av
end Go.Av
