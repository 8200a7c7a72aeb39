import Derived.Test.YtcbimkaeoojceaaGreatDoorEfB2
namespace Go.Av
set_option linter.unusedSimpArgs false
set_option linter.unusedVariables false
end Go.Av
