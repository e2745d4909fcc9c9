/- Contracts: circuits that are the same. Conditions: none; lemmas. -/
import Derived.Test.YtaegedoalbnafaaC7
set_option maxRecDepth 20000
set_option linter.unusedVariables false
set_option linter.unusedSimpArgs false
namespace Go.Proofs
open Go Go.VL

theorem upto_ex {P : Nat → Prop} {n i : Nat} (h1 : i < n) (h2 : P i) (hinv : ∀ j, j < i → P j) : ∃ s', (s' ≤ n ∧ ∀ j, j < s' → P j) ∧ n - s' < n - i ∧ i + 1 = s' :=
  ⟨i + 1, ⟨by omega, fun j hj => by
    by_cases h : j = i
    · subst h; exact h2
    · exact hinv j (by omega)⟩, by omega, rfl⟩
end Go.Proofs
