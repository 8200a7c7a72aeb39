import Derived.Test.YtnfehbljinflbaaGreatDoorRRRREfB2
namespace Go.Av
end Go.Av
