/- Contracts: what is exact about the frames that differ. Conditions: none; lemmas. -/
import Derived.Test.YtbnocdngcmimaaaC47
import Derived.Test.YtbnocdngcmimaaaC49
set_option maxRecDepth 20000
set_option linter.unusedVariables false
set_option linter.unusedSimpArgs false
namespace Go.Proofs
open Go Go.VL

--@walk getD_tc, getD_q, getD_fp, getD_set_same
theorem wT_le (t : Tcfg) : wM t = 2 + wT t := by simp only [wM, wT]; omega
theorem sumB_wM (l : List Tcfg) : sumB wM l = 2 * l.length + sumB wT l := by
  induction l with
  | nil => rfl
  | cons x r ih =>
    have e1 : sumB wM (x :: r) = wM x + sumB wM r := by simp [sumB]
    have e2 : sumB wT (x :: r) = wT x + sumB wT r := by simp [sumB]
    rw [e1, e2, ih, wT_le, List.length_cons]; omega
theorem wKM_le (c : Kcfg) : wKM c ≤ 3 * wK c := by
  have e1 : wKM c = sumB wM c.tiles + 2 * c.pads.length := rfl
  have e2 : wK c = c.tiles.length + sumB wT c.tiles + c.pads.length := rfl
  rw [e1, e2, sumB_wM]; omega
theorem sumB_bd {α : Type} {f : α → Nat} {n : Nat} {l : List α} (h : ∀ x ∈ l, f x ≤ n) : sumB f l ≤ l.length * n := by
  induction l with
  | nil => simp [sumB]
  | cons x r ih =>
    have e1 : sumB f (x :: r) = f x + sumB f r := by simp [sumB]
    have := ih fun y hy => h y (by simp [hy])
    have := h x (by simp)
    rw [e1, List.length_cons, Nat.add_mul]; omega
theorem diffs_mem {a b : Kcfg} {n : Nat} {p : Int × Tcfg} (h : p ∈ diffs a b n) : ∃ i, i < n ∧ p = ((i : Int), b.tiles.getD i tc0) := by
  unfold diffs at h
  obtain ⟨i, hi, hp⟩ := List.mem_flatMap.1 h
  unfold frameAt at hp
  split at hp
  · simp at hp
  · exact ⟨i, List.mem_range.1 hi, by simpa using hp⟩
end Go.Proofs
