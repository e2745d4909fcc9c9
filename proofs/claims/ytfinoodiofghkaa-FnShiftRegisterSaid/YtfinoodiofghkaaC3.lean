/- Contracts: lists of defects. Conditions: none; lemmas. -/
import Derived.Test.YtfinoodiofghkaaC2
set_option maxRecDepth 20000
set_option linter.unusedVariables false
set_option linter.unusedSimpArgs false
namespace Go.Proofs
open Go Go.VL

def Try.defectOk (d : Int × Int) : Bool := (decide (0 ≤ d.1) && decide (d.1 ≤ 24)) && (decide (0 ≤ d.2) && decide (d.2 ≤ 7))
theorem Try.defectOk_iff {d : Int × Int} : Try.defectOk d = true ↔ (0 ≤ d.1 ∧ d.1 ≤ 24) ∧ 0 ≤ d.2 ∧ d.2 ≤ 7 := by simp [Try.defectOk]
theorem Try.defectOk_no {d : Int × Int} (h : ¬ ((0 ≤ d.1 ∧ d.1 ≤ 24) ∧ 0 ≤ d.2 ∧ d.2 ≤ 7)) : Try.defectOk d = false := by
  rw [Bool.eq_false_iff]
  exact fun e => h (Try.defectOk_iff.1 e)
def Try.defectsValid (l : List (Int × Int)) : Bool := decide (l.length ≤ 12) && l.all Try.defectOk
theorem all_getDb {α : Type} (p : α → Bool) (l : List α) (z : α) : l.all p = true ↔ ∀ j, j < l.length → p (l.getD j z) = true := by
  rw [List.all_eq_true]
  constructor
  · intro h j hj
    exact h _ (by simp [List.getD, hj])
  · intro h x hx
    obtain ⟨j, hj, rfl⟩ := List.getElem_of_mem hx
    have := h j hj
    simpa [List.getD, hj] using this
theorem all_false {α : Type} {p : α → Bool} {l : List α} {z : α} {j : Nat} (hj : j < l.length) (h : p (l.getD j z) = false) : l.all p = false := by
  rw [Bool.eq_false_iff]
  intro ha
  have := (all_getDb p l z).1 ha j hj
  rw [h] at this
  exact absurd this (by simp)

end Go.Proofs
