import Derived.Test.YtnfehbljinflbaaGreatDoorRRRREfQ
namespace Go.Av
end Go.Av
