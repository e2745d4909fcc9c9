/- Contracts: lists of defects. Conditions: none; lemmas. -/
import Derived.Test.YtbnocdngcmimaaaC2
set_option maxRecDepth 20000
set_option linter.unusedVariables false
set_option linter.unusedSimpArgs false
namespace Go.Proofs
open Go Go.VL

def Try.defectOk (d : Int × Int) : Bool := (decide (0 ≤ d.1) && decide (d.1 ≤ 24)) && (decide (0 ≤ d.2) && decide (d.2 ≤ 7))
theorem Try.defectOk_iff {d : Int × Int} : Try.defectOk d = true ↔ (0 ≤ d.1 ∧ d.1 ≤ 24) ∧ 0 ≤ d.2 ∧ d.2 ≤ 7 := by simp [Try.defectOk]
theorem Try.defectOk_no {d : Int × Int} (h : ¬ ((0 ≤ d.1 ∧ d.1 ≤ 24) ∧ 0 ≤ d.2 ∧ d.2 ≤ 7)) : Try.defectOk d = false := by
  rw [Bool.eq_false_iff]
  exact fun e => h (Try.defectOk_iff.1 e)
def Try.defectsValid (l : List (Int × Int)) : Bool := decide (l.length ≤ 12) && l.all Try.defectOk
theorem all_getDb {α : Type} (p : α → Bool) (l : List α) (z : α) : l.all p = true ↔ ∀ j, j < l.length → p (l.getD j z) = true := by
  rw [List.all_eq_true]
  constructor
  · intro h j hj
    exact h _ (by simp [List.getD, hj])
  · intro h x hx
    obtain ⟨j, hj, rfl⟩ := List.getElem_of_mem hx
    have := h j hj
    simpa [List.getD, hj] using this
theorem all_false {α : Type} {p : α → Bool} {l : List α} {z : α} {j : Nat} (hj : j < l.length) (h : p (l.getD j z) = false) : l.all p = false := by
  rw [Bool.eq_false_iff]
  intro ha
  have := (all_getDb p l z).1 ha j hj
  rw [h] at this
  exact absurd this (by simp)

theorem Try.c_DefectsValid (l : List (Int × Int)) : Pure Try.prog 73 [dPs l] (.bool (Try.defectsValid l)) := by
  refine pure_of' (E := Try.env 0) Try.tok rfl 1000 Try.func73 rfl rfl Try.ntmps73 (by simp) fun ok => ?_
  simp only [go_sem, Nat.reduceBEq, Nat.reduceLT, Nat.reduceLeDiff, Nat.reduceEqDiff, Nat.reduceAdd, Nat.reduceSub, Nat.reduceMul, ↓reduceIte, Int.reduceLE, Int.reduceLT, Int.reduceNeg, Int.reduceToNat, Int.reduceAdd, Int.reduceSub, Int.reduceMul, reduceCtorEq] at ok
  simp only [go_sem, Nat.reduceBEq, Nat.reduceLT, Nat.reduceLeDiff, Nat.reduceEqDiff, Nat.reduceAdd, Nat.reduceSub, Nat.reduceMul, ↓reduceIte, Int.reduceLE, Int.reduceLT, Int.reduceNeg, Int.reduceToNat, Int.reduceAdd, Int.reduceSub, Int.reduceMul, reduceCtorEq, Try.results73]
  refine ⟨fun h => by simp [Try.defectsValid]; omega, fun h => ?_⟩
  refine loop_of (E := Try.env 0) Try.tok (σ := Nat) (fun i => [(8, .d (dPs l)), (9, .d (dI l.length)), (10, .d (dI i))]) (fun i => []) (fun i => i ≤ l.length ∧ ∀ j, j < i → Try.defectOk (l.getD j (0, 0)) = true) (fun i => l.length - i) [] 1000 1000 ?_ ?_ ?_
  · simp only [go_sem, Nat.reduceBEq, Nat.reduceLT, Nat.reduceLeDiff, Nat.reduceEqDiff, Nat.reduceAdd, Nat.reduceSub, Nat.reduceMul, ↓reduceIte, Int.reduceLE, Int.reduceLT, Int.reduceNeg, Int.reduceToNat, Int.reduceAdd, Int.reduceSub, Int.reduceMul, reduceCtorEq]
  · simp only [go_sem, Nat.reduceBEq, Nat.reduceLT, Nat.reduceLeDiff, Nat.reduceEqDiff, Nat.reduceAdd, Nat.reduceSub, Nat.reduceMul, ↓reduceIte, Int.reduceLE, Int.reduceLT, Int.reduceNeg, Int.reduceToNat, Int.reduceAdd, Int.reduceSub, Int.reduceMul, reduceCtorEq]
    exact ⟨0, by simp⟩
  · rintro i ⟨hi, hinv⟩
    simp only [go_sem, Nat.reduceBEq, Nat.reduceLT, Nat.reduceLeDiff, Nat.reduceEqDiff, Nat.reduceAdd, Nat.reduceSub, Nat.reduceMul, ↓reduceIte, Int.reduceLE, Int.reduceLT, Int.reduceNeg, Int.reduceToNat, Int.reduceAdd, Int.reduceSub, Int.reduceMul, reduceCtorEq, Try.results73]
    refine ⟨fun h1 => ⟨h1, fun h2 => ?_, fun h2 => ⟨by rw [inK_i64]; omega, i + 1, ⟨by omega, fun j hj => ?_⟩, by omega, rfl⟩⟩, fun h1 => ?_⟩
    · have : Try.defectOk (l.getD i (0, 0)) = false := Try.defectOk_no (by omega)
      simp [Try.defectsValid, all_false h1 this]
    · by_cases hji : j = i
      · subst hji; exact Try.defectOk_iff.2 (by omega)
      · exact hinv j (by omega)
    · have : l.all Try.defectOk = true := (all_getDb _ _ (0, 0)).2 fun j hj => hinv j (by omega)
      simp [Try.defectsValid, this]; omega
theorem Try.c_sDefectsValid (l : List (Int × Int)) : Pure Try.prog 54 [dPs l] (.bool (Try.defectsValid l)) := by
  refine pure_of' (E := Try.env 0) Try.tok rfl 1000 Try.func54 rfl rfl Try.ntmps54 (by simp) fun ok => ?_
  simp only [go_sem, Nat.reduceBEq, Nat.reduceLT, Nat.reduceLeDiff, Nat.reduceEqDiff, Nat.reduceAdd, Nat.reduceSub, Nat.reduceMul, ↓reduceIte, Int.reduceLE, Int.reduceLT, Int.reduceNeg, Int.reduceToNat, Int.reduceAdd, Int.reduceSub, Int.reduceMul, reduceCtorEq] at ok
  simp only [go_sem, Nat.reduceBEq, Nat.reduceLT, Nat.reduceLeDiff, Nat.reduceEqDiff, Nat.reduceAdd, Nat.reduceSub, Nat.reduceMul, ↓reduceIte, Int.reduceLE, Int.reduceLT, Int.reduceNeg, Int.reduceToNat, Int.reduceAdd, Int.reduceSub, Int.reduceMul, reduceCtorEq, Try.results54]
  refine loop_of (E := Try.env 0) Try.tok (σ := Nat) (fun i => [(0, .d (dPs l)), (3, .d (dI i))]) (fun i => []) (fun i => i ≤ l.length ∧ ∀ j, j < i → Try.defectOk (l.getD j (0, 0)) = true) (fun i => l.length - i) [] 1000 1000 ?_ ?_ ?_
  · simp only [go_sem, Nat.reduceBEq, Nat.reduceLT, Nat.reduceLeDiff, Nat.reduceEqDiff, Nat.reduceAdd, Nat.reduceSub, Nat.reduceMul, ↓reduceIte, Int.reduceLE, Int.reduceLT, Int.reduceNeg, Int.reduceToNat, Int.reduceAdd, Int.reduceSub, Int.reduceMul, reduceCtorEq]
  · simp only [go_sem, Nat.reduceBEq, Nat.reduceLT, Nat.reduceLeDiff, Nat.reduceEqDiff, Nat.reduceAdd, Nat.reduceSub, Nat.reduceMul, ↓reduceIte, Int.reduceLE, Int.reduceLT, Int.reduceNeg, Int.reduceToNat, Int.reduceAdd, Int.reduceSub, Int.reduceMul, reduceCtorEq]
    exact ⟨0, by simp⟩
  · rintro i ⟨hi, hinv⟩
    simp only [go_sem, Nat.reduceBEq, Nat.reduceLT, Nat.reduceLeDiff, Nat.reduceEqDiff, Nat.reduceAdd, Nat.reduceSub, Nat.reduceMul, ↓reduceIte, Int.reduceLE, Int.reduceLT, Int.reduceNeg, Int.reduceToNat, Int.reduceAdd, Int.reduceSub, Int.reduceMul, reduceCtorEq, Try.results54]
    refine ⟨fun h1 => ⟨h1, pcall_fz (Try.c_l1In _ _ _) ?_⟩, fun h1 => ?_⟩
    · simp only [go_sem, Nat.reduceBEq, Nat.reduceLT, Nat.reduceLeDiff, Nat.reduceEqDiff, Nat.reduceAdd, Nat.reduceSub, Nat.reduceMul, ↓reduceIte, Int.reduceLE, Int.reduceLT, Int.reduceNeg, Int.reduceToNat, Int.reduceAdd, Int.reduceSub, Int.reduceMul, reduceCtorEq, Try.results54]
      refine ⟨fun h2 => ⟨h2, h1⟩, gcall_of (fun _ => Try.c_l1In _ _ _) ?_⟩
      simp only [go_sem, Nat.reduceBEq, Nat.reduceLT, Nat.reduceLeDiff, Nat.reduceEqDiff, Nat.reduceAdd, Nat.reduceSub, Nat.reduceMul, ↓reduceIte, Int.reduceLE, Int.reduceLT, Int.reduceNeg, Int.reduceToNat, Int.reduceAdd, Int.reduceSub, Int.reduceMul, reduceCtorEq, Try.results54]
      refine ⟨fun h2 => ?_, fun h2 => ⟨by rw [inK_i64]; omega, i + 1, ⟨by omega, fun j hj => ?_⟩, by omega, rfl⟩⟩
      · have : Try.defectOk (l.getD i (0, 0)) = false := Try.defectOk_no (by omega)
        simp [Try.defectsValid, all_false h1 this]
      · by_cases hji : j = i
        · subst hji; exact Try.defectOk_iff.2 (by omega)
        · exact hinv j (by omega)
    · have : l.all Try.defectOk = true := (all_getDb _ _ (0, 0)).2 fun j hj => hinv j (by omega)
      simp [Try.defectsValid, this]; omega
theorem Try.c_toDefect (p : Int × Int) : Pure Try.prog 72 [dP p] (dP p) := by
  refine pure_of' (E := Try.env 0) Try.tok rfl 1000 Try.func72 rfl rfl Try.ntmps72 (by simp) fun ok => ?_
  simp only [go_sem, Nat.reduceBEq, Nat.reduceLT, Nat.reduceLeDiff, Nat.reduceEqDiff, Nat.reduceAdd, Nat.reduceSub, Nat.reduceMul, ↓reduceIte, Int.reduceLE, Int.reduceLT, Int.reduceNeg, Int.reduceToNat, Int.reduceAdd, Int.reduceSub, Int.reduceMul, reduceCtorEq] at ok
  simp only [go_sem, Nat.reduceBEq, Nat.reduceLT, Nat.reduceLeDiff, Nat.reduceEqDiff, Nat.reduceAdd, Nat.reduceSub, Nat.reduceMul, ↓reduceIte, Int.reduceLE, Int.reduceLT, Int.reduceNeg, Int.reduceToNat, Int.reduceAdd, Int.reduceSub, Int.reduceMul, reduceCtorEq, Try.results72]
theorem Try.c_toDefectS (l : List (Int × Int)) (hl : l.length ≤ 1048576) : Pure Try.prog 26 [dPs l] (dPs l) := by
  refine pure_of' (E := Try.env 0) Try.tok rfl 1000 Try.func26 rfl rfl Try.ntmps26 (by simp) fun ok => ?_
  simp only [go_sem, Nat.reduceBEq, Nat.reduceLT, Nat.reduceLeDiff, Nat.reduceEqDiff, Nat.reduceAdd, Nat.reduceSub, Nat.reduceMul, ↓reduceIte, Int.reduceLE, Int.reduceLT, Int.reduceNeg, Int.reduceToNat, Int.reduceAdd, Int.reduceSub, Int.reduceMul, reduceCtorEq] at ok
  simp only [go_sem, Nat.reduceBEq, Nat.reduceLT, Nat.reduceLeDiff, Nat.reduceEqDiff, Nat.reduceAdd, Nat.reduceSub, Nat.reduceMul, ↓reduceIte, Int.reduceLE, Int.reduceLT, Int.reduceNeg, Int.reduceToNat, Int.reduceAdd, Int.reduceSub, Int.reduceMul, reduceCtorEq, Try.results26]
  refine ⟨by omega, ?_⟩
  refine loop_of (E := Try.env 0) Try.tok (σ := Nat × List (Int × Int)) (fun s => [(0, .d (dPs l)), (3, .sl 0 0 2 0 l.length), (4, .d (dI s.1))]) (fun s => [.row 0 2 true (s.2.map dP)]) (fun s => s.1 ≤ l.length ∧ s.2.length = l.length ∧ ∀ j, j < s.1 → s.2.getD j (0, 0) = l.getD j (0, 0)) (fun s => l.length - s.1) [] 1000 1000 ?_ ?_ ?_
  · simp only [go_sem, Nat.reduceBEq, Nat.reduceLT, Nat.reduceLeDiff, Nat.reduceEqDiff, Nat.reduceAdd, Nat.reduceSub, Nat.reduceMul, ↓reduceIte, Int.reduceLE, Int.reduceLT, Int.reduceNeg, Int.reduceToNat, Int.reduceAdd, Int.reduceSub, Int.reduceMul, reduceCtorEq]
  · simp only [go_sem, Nat.reduceBEq, Nat.reduceLT, Nat.reduceLeDiff, Nat.reduceEqDiff, Nat.reduceAdd, Nat.reduceSub, Nat.reduceMul, ↓reduceIte, Int.reduceLE, Int.reduceLT, Int.reduceNeg, Int.reduceToNat, Int.reduceAdd, Int.reduceSub, Int.reduceMul, reduceCtorEq]
    exact ⟨(0, List.replicate l.length (0, 0)), ⟨by omega, by simp, fun j hj => absurd hj (by simp)⟩, by simp⟩
  · rintro ⟨i, b⟩ ⟨hi, hb, hinv⟩
    simp only at hi hb hinv
    simp only [go_sem, Nat.reduceBEq, Nat.reduceLT, Nat.reduceLeDiff, Nat.reduceEqDiff, Nat.reduceAdd, Nat.reduceSub, Nat.reduceMul, ↓reduceIte, Int.reduceLE, Int.reduceLT, Int.reduceNeg, Int.reduceToNat, Int.reduceAdd, Int.reduceSub, Int.reduceMul, reduceCtorEq, Try.results26]
    refine ⟨fun h1 => ⟨h1, pcall_fz (Try.c_toDefect _) ?_⟩, fun h1 => ?_⟩
    · simp only [go_sem, Nat.reduceBEq, Nat.reduceLT, Nat.reduceLeDiff, Nat.reduceEqDiff, Nat.reduceAdd, Nat.reduceSub, Nat.reduceMul, ↓reduceIte, Int.reduceLE, Int.reduceLT, Int.reduceNeg, Int.reduceToNat, Int.reduceAdd, Int.reduceSub, Int.reduceMul, reduceCtorEq, Try.results26]
      refine ⟨h1, by omega, by rw [inK_i64]; omega, (i + 1, b.set i (l.getD i (0, 0))), ⟨by omega, by simpa using hb, fun j hj => ?_⟩, by omega, rfl, rfl⟩
      simp only at hj ⊢
      by_cases hji : j = i
      · subst hji; rw [lget_set_eq _ (by omega)]
      · rw [lget_set_ne _ (by omega)]; exact hinv j (by omega)
    · exact ⟨hb.symm, ext_getD (0, 0) hb fun j hj => hinv j (by omega)⟩
theorem Try.c_szDefectS (l : List (Int × Int)) (k : Int) (hk : 0 ≤ k ∧ k ≤ 1048576) : Pure Try.prog 24 [dPs l, dI k] (dI (if k < l.length then -1 else k - (l.length : Int))) := by
  refine pure_of' (E := Try.env 0) Try.tok rfl 1000 Try.func24 rfl rfl Try.ntmps24 (by simp) fun ok => ?_
  simp only [go_sem, Nat.reduceBEq, Nat.reduceLT, Nat.reduceLeDiff, Nat.reduceEqDiff, Nat.reduceAdd, Nat.reduceSub, Nat.reduceMul, ↓reduceIte, Int.reduceLE, Int.reduceLT, Int.reduceNeg, Int.reduceToNat, Int.reduceAdd, Int.reduceSub, Int.reduceMul, reduceCtorEq] at ok
  simp only [go_sem, Nat.reduceBEq, Nat.reduceLT, Nat.reduceLeDiff, Nat.reduceEqDiff, Nat.reduceAdd, Nat.reduceSub, Nat.reduceMul, ↓reduceIte, Int.reduceLE, Int.reduceLT, Int.reduceNeg, Int.reduceToNat, Int.reduceAdd, Int.reduceSub, Int.reduceMul, reduceCtorEq, Try.results24]
  refine ⟨by rw [inK_i64]; omega, fun h => ?_, fun h => ?_⟩
  · rw [if_pos (by omega)]
  · rw [if_neg (by omega)]
theorem Try.c_eqDefect (p q : Int × Int) : Pure Try.prog 75 [dP p, dP q] (.bool (decide (p = q))) := by
  refine pure_of' (E := Try.env 0) Try.tok rfl 1000 Try.func75 rfl rfl Try.ntmps75 (by simp) fun ok => ?_
  simp only [go_sem, Nat.reduceBEq, Nat.reduceLT, Nat.reduceLeDiff, Nat.reduceEqDiff, Nat.reduceAdd, Nat.reduceSub, Nat.reduceMul, ↓reduceIte, Int.reduceLE, Int.reduceLT, Int.reduceNeg, Int.reduceToNat, Int.reduceAdd, Int.reduceSub, Int.reduceMul, reduceCtorEq] at ok
  simp only [go_sem, Nat.reduceBEq, Nat.reduceLT, Nat.reduceLeDiff, Nat.reduceEqDiff, Nat.reduceAdd, Nat.reduceSub, Nat.reduceMul, ↓reduceIte, Int.reduceLE, Int.reduceLT, Int.reduceNeg, Int.reduceToNat, Int.reduceAdd, Int.reduceSub, Int.reduceMul, reduceCtorEq, Try.results75]
  obtain ⟨a, b⟩ := p
  obtain ⟨c, d⟩ := q
  simp only [Prod.mk.injEq, false_eq_decide_iff, true_eq_decide_iff]
  exact ⟨fun h => by simp [h], fun h => ⟨fun h2 => by simp [h2], fun h2 => ⟨h, h2⟩⟩⟩
theorem Try.c_eqDefectS (a b : List (Int × Int)) : Pure Try.prog 28 [dPs a, dPs b] (.bool (decide (a = b))) := by
  refine pure_of' (E := Try.env 0) Try.tok rfl 1000 Try.func28 rfl rfl Try.ntmps28 (by simp) fun ok => ?_
  simp only [go_sem, Nat.reduceBEq, Nat.reduceLT, Nat.reduceLeDiff, Nat.reduceEqDiff, Nat.reduceAdd, Nat.reduceSub, Nat.reduceMul, ↓reduceIte, Int.reduceLE, Int.reduceLT, Int.reduceNeg, Int.reduceToNat, Int.reduceAdd, Int.reduceSub, Int.reduceMul, reduceCtorEq] at ok
  simp only [go_sem, Nat.reduceBEq, Nat.reduceLT, Nat.reduceLeDiff, Nat.reduceEqDiff, Nat.reduceAdd, Nat.reduceSub, Nat.reduceMul, ↓reduceIte, Int.reduceLE, Int.reduceLT, Int.reduceNeg, Int.reduceToNat, Int.reduceAdd, Int.reduceSub, Int.reduceMul, reduceCtorEq, Try.results28]
  refine ⟨fun h => ?_, fun hlen => ?_⟩
  · simp only [false_eq_decide_iff]
    rintro rfl
    exact h rfl
  refine loop_of (E := Try.env 0) Try.tok (σ := Nat) (fun i => [(0, .d (dPs a)), (1, .d (dPs b)), (5, .d (dI i))]) (fun _ => []) (fun i => i ≤ a.length ∧ ∀ j, j < i → a.getD j (0, 0) = b.getD j (0, 0)) (fun i => a.length - i) [] 1000 1000 ?_ ?_ ?_
  · simp only [go_sem, Nat.reduceBEq, Nat.reduceLT, Nat.reduceLeDiff, Nat.reduceEqDiff, Nat.reduceAdd, Nat.reduceSub, Nat.reduceMul, ↓reduceIte, Int.reduceLE, Int.reduceLT, Int.reduceNeg, Int.reduceToNat, Int.reduceAdd, Int.reduceSub, Int.reduceMul, reduceCtorEq]
  · simp only [go_sem, Nat.reduceBEq, Nat.reduceLT, Nat.reduceLeDiff, Nat.reduceEqDiff, Nat.reduceAdd, Nat.reduceSub, Nat.reduceMul, ↓reduceIte, Int.reduceLE, Int.reduceLT, Int.reduceNeg, Int.reduceToNat, Int.reduceAdd, Int.reduceSub, Int.reduceMul, reduceCtorEq]
    exact ⟨0, ⟨by omega, by omega⟩, rfl⟩
  · intro i hi
    simp only [go_sem, Nat.reduceBEq, Nat.reduceLT, Nat.reduceLeDiff, Nat.reduceEqDiff, Nat.reduceAdd, Nat.reduceSub, Nat.reduceMul, ↓reduceIte, Int.reduceLE, Int.reduceLT, Int.reduceNeg, Int.reduceToNat, Int.reduceAdd, Int.reduceSub, Int.reduceMul, reduceCtorEq, Try.results28]
    refine ⟨fun h1 => ⟨by kernel_rfl, h1, by omega, qcall_of (fun _ => ⟨Try.c_eqDefect _ _, trivial⟩) ?_⟩, fun h1 => ?_⟩
    · simp only [go_sem, Nat.reduceBEq, Nat.reduceLT, Nat.reduceLeDiff, Nat.reduceEqDiff, Nat.reduceAdd, Nat.reduceSub, Nat.reduceMul, ↓reduceIte, Int.reduceLE, Int.reduceLT, Int.reduceNeg, Int.reduceToNat, Int.reduceAdd, Int.reduceSub, Int.reduceMul, reduceCtorEq, Try.results28]
      refine ⟨fun h2 => ?_, fun h2 => ⟨by rw [inK_i64]; omega, i + 1, ⟨by omega, fun j hj => ?_⟩, by omega, rfl⟩⟩
      · simp only [false_eq_decide_iff]
        rintro rfl
        exact h2 rfl
      · by_cases hji : j = i
        · subst hji; exact h2
        · exact hi.2 j (by omega)
    · simp only [true_eq_decide_iff]
      exact ext_getD (0, 0) hlen fun j hj => hi.2 j (by omega)
end Go.Proofs
