/- Contracts: the reference's optimization of circuits, as a whole. Conditions: none; lemmas. -/
import Derived.Test.YtaegedoalbnafaaC34
set_option maxRecDepth 20000
set_option linter.unusedVariables false
set_option linter.unusedSimpArgs false
namespace Go.Proofs
open Go Go.VL

structure BdS where
  gates : List (Int × Int)
  m : List Int
structure BdOk (c : Circ) (i : Nat) (s : BdS) : Prop where
  ml : s.m.length = cFst c + i
  mb : ∀ x ∈ s.m, 0 ≤ x ∧ x < 2 * ((cFst c : Int) + (s.gates.length : Int))
  gl : s.gates.length ≤ i
end Go.Proofs
