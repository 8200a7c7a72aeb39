import Derived.Test.YtopepdfipgfakaaGreatDoorEfQ
namespace Go.Av
end Go.Av
