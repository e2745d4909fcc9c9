/- Contracts: simulation, the program's. Conditions: none; lemmas. -/
import Derived.Test.YtaegedoalbnafaaC7
set_option maxRecDepth 20000
set_option linter.unusedVariables false
set_option linter.unusedSimpArgs false
namespace Go.Proofs
open Go Go.VL

def rowsOk (c : Circ) (rows : List (List Bool)) : Prop := c.Valid ∧ rows.length ≤ 40 ∧ ∀ r ∈ rows, (r.length : Int) = c.inputs
noncomputable instance (c : Circ) (rows : List (List Bool)) : Decidable (rowsOk c rows) := Classical.propDecidable _
end Go.Proofs
