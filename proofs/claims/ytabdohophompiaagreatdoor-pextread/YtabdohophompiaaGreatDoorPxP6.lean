import Derived.Test.YtabdohophompiaaGreatDoorPxP5
namespace Go.Av
set_option linter.unusedSimpArgs false
set_option linter.unusedVariables false
theorem qED {name:List UInt8} {t:List Int} (h1:name.length≤100) (h2:t.length≤100):ok36 name t=true:=by
 unfold ok36;rw [dT h1,dT h2];rfl
end Go.Av
