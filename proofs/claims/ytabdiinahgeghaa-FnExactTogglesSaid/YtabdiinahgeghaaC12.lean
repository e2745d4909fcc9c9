/- Contracts: ternary simulation. Conditions: none; lemmas. -/
import Derived.Test.YtabdiinahgeghaaC11
set_option maxRecDepth 20000
set_option linter.unusedVariables false
set_option linter.unusedSimpArgs false
namespace Go.Proofs
open Go Go.VL

/-! ### The values -/
def tern (x : Int) : Prop := 0 ≤ x ∧ x ≤ 2
instance (x : Int) : Decidable (tern x) := by unfold tern; infer_instance
def ternL (l : List Int) : Prop := ∀ x ∈ l, tern x
noncomputable instance (l : List Int) : Decidable (ternL l) := Classical.propDecidable _
def evOk (c : Circ) (st ins : List Int) : Prop := c.Valid ∧ st.length = c.next.length ∧ (ins.length : Int) = c.inputs ∧ ternL st ∧ ternL ins
noncomputable instance (c : Circ) (st ins : List Int) : Decidable (evOk c st ins) := Classical.propDecidable _

end Go.Proofs
