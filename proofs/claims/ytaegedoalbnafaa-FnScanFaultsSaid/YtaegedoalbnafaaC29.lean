/- Contracts: adders, counters and decoders. Conditions: none; lemmas. -/
import Derived.Test.YtaegedoalbnafaaC28
import Derived.Test.YtaegedoalbnafaaC11
import Derived.Test.YtaegedoalbnafaaVM8

set_option maxRecDepth 20000
set_option linter.unusedVariables false
set_option linter.unusedSimpArgs false
namespace Go.Proofs
open Go Go.VL

/-! ### The adder -/
structure AdS where
  b : Bld
  carry : Int
  outs : List Int
structure AdOk (n i : Nat) (s : AdS) : Prop where
  ok : s.b.Ok
  fst : s.b.first = 1 + 2 * n
  len : s.b.gates.length ≤ 9 * i
  c : 0 ≤ s.carry ∧ s.carry < 2 * ((s.b.first + s.b.gates.length : Nat) : Int)
  o : s.outs.length = i
def Bld.lit (b : Bld) (x : Int) : Prop := 0 ≤ x ∧ x < 2 * ((b.first + b.gates.length : Nat) : Int)
/-! ### The reference -/
def cFst (c : Circ) : Nat := c.inputs.toNat + c.next.length + 1
/-- A circuit in the making. -/
structure Mk (c : Circ) : Prop where
  i : 0 ≤ c.inputs ∧ c.inputs ≤ 1000
  n : c.next.length ≤ 1000
end Go.Proofs
