/- Contracts: what a scan chain does. Conditions: none; lemmas. -/
import Derived.Test.YtabdiinahgeghaaC16
set_option maxRecDepth 20000
set_option linter.unusedVariables false
set_option linter.unusedSimpArgs false
namespace Go.Proofs
open Go Go.VL

/-! ### The values -/
end Go.Proofs
