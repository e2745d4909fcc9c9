/- Contracts: scan chains. Conditions: none; lemmas. -/
import Derived.Test.YtabdiinahgeghaaC14
set_option maxRecDepth 20000
set_option linter.unusedVariables false
set_option linter.unusedSimpArgs false
namespace Go.Proofs
open Go Go.VL

def canScan (c : Circ) : Prop := c.Valid ∧ 0 < c.next.length ∧ c.inputs ≤ 2 ∧ c.outs.length < 3 ∧ c.gates.length + 3 * c.next.length ≤ 14
noncomputable instance (c : Circ) : Decidable (canScan c) := Classical.propDecidable _
@[go_sem] theorem views_ds {H : List R} {ds : List D} : views H (ds.map .d) = some (True, ds) := by
  induction ds with
  | nil => rfl
  | cons x r ih =>
    rw [List.map_cons, views_cons, ih]
    simp [go_sem]
end Go.Proofs
