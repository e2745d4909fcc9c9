/- Contracts: circuits that are drawn. Conditions: none; lemmas. -/
import Derived.Test.YtabdiinahgeghaaC12
set_option maxRecDepth 20000
set_option linter.unusedVariables false
set_option linter.unusedSimpArgs false
namespace Go.Proofs
open Go Go.VL

@[go_sem] theorem two_get {k : IntKind} {a b z : Int} {m : Nat} : [D.int k a, D.int k b].getD m (D.int k z) = D.int k ([a, b].getD m z) := by
  rcases m with _ | _ | m <;> rfl
end Go.Proofs
