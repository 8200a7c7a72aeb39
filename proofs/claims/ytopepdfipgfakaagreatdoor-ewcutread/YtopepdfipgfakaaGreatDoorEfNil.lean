import Derived.Shelf.Bytes.SlIndexWhole
namespace Go.Proofs
set_option linter.unusedVariables false
set_option linter.unusedSimpArgs false
open Go.Shelf Go.RowKit Go.Lib
variable {P:Program} {ρ:Ren}
end Go.Proofs
