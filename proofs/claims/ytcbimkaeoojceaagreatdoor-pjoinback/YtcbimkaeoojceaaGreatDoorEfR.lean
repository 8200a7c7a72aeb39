import Derived.Test.YtcbimkaeoojceaaGreatDoorEfQ
namespace Go.Av
end Go.Av
