import Derived.Test.YtcbimkaeoojceaaGreatDoorPjP4
namespace Go.Av
set_option linter.unusedSimpArgs false
set_option linter.unusedVariables false
theorem qEA:∃ n,z5_sh n  = qux z5:=⟨0,by kernel_rfl⟩
end Go.Av
