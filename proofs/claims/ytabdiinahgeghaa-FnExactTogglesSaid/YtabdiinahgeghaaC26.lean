/- Contracts: runs in the reference model, tests through a scan chain. Conditions: none; lemmas. -/
import Derived.Test.YtabdiinahgeghaaC25
import Derived.Test.YtabdiinahgeghaaC23
import Derived.Test.YtabdiinahgeghaaC13
import Derived.Test.YtabdiinahgeghaaC20
set_option maxRecDepth 20000
set_option linter.unusedVariables false
set_option linter.unusedSimpArgs false
namespace Go.Proofs
open Go Go.VL

/-! ### What a test shows -/
section test
def testOk (c : Circ) (st ins : List Bool) : Prop := canScan c ∧ st.length = c.next.length ∧ (ins.length : Int) = c.inputs
noncomputable instance (c : Circ) (st ins : List Bool) : Decidable (testOk c st ins) := Classical.propDecidable _
variable {c : Circ} {st ins : List Bool}
end test
end Go.Proofs
