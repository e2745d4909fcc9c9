/- Contracts: the laws of scan chains. Conditions: none; lemmas. -/
import Derived.Test.YtligdkhdnebaoaaC20
import Derived.Test.YtligdkhdnebaoaaC19
import Derived.Test.YtligdkhdnebaoaaC21
set_option maxRecDepth 20000
set_option linter.unusedVariables false
set_option linter.unusedSimpArgs false
namespace Go.Proofs
open Go Go.VL

theorem pow_small {e : Nat} (h : e ≤ 6) : 1 ≤ 2 ^ e ∧ 2 ^ e ≤ 64 := ⟨Nat.one_le_two_pow, by have := Nat.pow_le_pow_right (n := 2) (by omega) h; simpa using this⟩
end Go.Proofs
