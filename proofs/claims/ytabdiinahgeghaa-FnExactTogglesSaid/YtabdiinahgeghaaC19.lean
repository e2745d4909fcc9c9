/- Contracts: scan chains, the rows, and the laws. Conditions: none; lemmas. -/
import Derived.Test.YtabdiinahgeghaaC18
set_option maxRecDepth 20000
set_option linter.unusedVariables false
set_option linter.unusedSimpArgs false
namespace Go.Proofs
open Go Go.VL

def scanRowsOk (c : Circ) (st : List Bool) : Prop := canScan c ∧ st.length = c.next.length
noncomputable instance (c : Circ) (st : List Bool) : Decidable (scanRowsOk c st) := Classical.propDecidable _
end Go.Proofs
