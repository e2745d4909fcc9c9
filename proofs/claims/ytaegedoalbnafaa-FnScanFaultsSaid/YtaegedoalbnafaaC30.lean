/- Contracts: the laws of adders, counters and decoders. Conditions: none; lemmas. -/
import Derived.Test.YtaegedoalbnafaaC29
import Derived.Test.YtaegedoalbnafaaC19
import Derived.Test.YtaegedoalbnafaaC13
set_option maxRecDepth 20000
set_option linter.unusedVariables false
set_option linter.unusedSimpArgs false
namespace Go.Proofs
open Go Go.VL

def numN (l : List Bool) : Nat → Int
  | 0 => 0
  | i + 1 => numN l i + if l.getD i false then 2 ^ i else 0
theorem numN_bd (l : List Bool) : ∀ i, 0 ≤ numN l i ∧ numN l i < 2 ^ i
  | 0 => by simp [numN]
  | i + 1 => by
    have := numN_bd l i
    have h2 : (2 : Int) ^ (i + 1) = 2 * 2 ^ i := by rw [Int.pow_succ]; omega
    simp only [numN]
    split <;> omega
end Go.Proofs
