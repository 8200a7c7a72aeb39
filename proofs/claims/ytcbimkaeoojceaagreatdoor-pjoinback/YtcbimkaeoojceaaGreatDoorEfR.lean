import Derived.Test.YtcbimkaeoojceaaGreatDoorEfQ
namespace Go.Av
set_option linter.unusedSimpArgs false
set_option linter.unusedVariables false
end Go.Av
