import Derived.Test.YtcbimkaeoojceaaGreatDoorEfB2
namespace Go.Av
set_option linter.unusedVariables false
set_option linter.unusedSimpArgs false
end Go.Av
