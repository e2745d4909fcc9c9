/- Contracts: circuits that are the same. Conditions: none; lemmas. -/
import Derived.Test.YtaegedoalbnafaaC7
set_option maxRecDepth 20000
set_option linter.unusedVariables false
set_option linter.unusedSimpArgs false
namespace Go.Proofs
open Go Go.VL

theorem upto_ex {P : Nat → Prop} {n i : Nat} (h1 : i < n) (h2 : P i) (hinv : ∀ j, j < i → P j) : ∃ s', (s' ≤ n ∧ ∀ j, j < s' → P j) ∧ n - s' < n - i ∧ i + 1 = s' :=
  ⟨i + 1, ⟨by omega, fun j hj => by
    by_cases h : j = i
    · subst h; exact h2
    · exact hinv j (by omega)⟩, by omega, rfl⟩
theorem Try.c_sameCircuit (a b : Circ) : Pure Try.prog 17 [dC a, dC b] (.bool (decide (a = b))) := by
  refine pure_of' (E := Try.env 0) Try.tok rfl 1000 Try.func17 rfl rfl Try.ntmps17 (by simp) fun ok => ?_
  simp only [go_sem, Nat.reduceBEq, Nat.reduceLT, Nat.reduceLeDiff, Nat.reduceEqDiff, Nat.reduceAdd, Nat.reduceSub, Nat.reduceMul, ↓reduceIte, Int.reduceLE, Int.reduceLT, Int.reduceNeg, Int.reduceToNat, Int.reduceAdd, Int.reduceSub, Int.reduceMul, reduceCtorEq] at ok
  simp only [go_sem, Nat.reduceBEq, Nat.reduceLT, Nat.reduceLeDiff, Nat.reduceEqDiff, Nat.reduceAdd, Nat.reduceSub, Nat.reduceMul, ↓reduceIte, Int.reduceLE, Int.reduceLT, Int.reduceNeg, Int.reduceToNat, Int.reduceAdd, Int.reduceSub, Int.reduceMul, reduceCtorEq, Try.results17]
  refine gcall_of (fun _ => Try.c_sameInts _ _) ?_
  simp only [go_sem, Nat.reduceBEq, Nat.reduceLT, Nat.reduceLeDiff, Nat.reduceEqDiff, Nat.reduceAdd, Nat.reduceSub, Nat.reduceMul, ↓reduceIte, Int.reduceLE, Int.reduceLT, Int.reduceNeg, Int.reduceToNat, Int.reduceAdd, Int.reduceSub, Int.reduceMul, reduceCtorEq, Try.results17]
  refine gcall_of (fun _ => Try.c_sameInts _ _) ?_
  simp only [go_sem, Nat.reduceBEq, Nat.reduceLT, Nat.reduceLeDiff, Nat.reduceEqDiff, Nat.reduceAdd, Nat.reduceSub, Nat.reduceMul, ↓reduceIte, Int.reduceLE, Int.reduceLT, Int.reduceNeg, Int.reduceToNat, Int.reduceAdd, Int.reduceSub, Int.reduceMul, reduceCtorEq, Try.results17]
  have hab : a = b ↔ a.inputs = b.inputs ∧ a.next = b.next ∧ a.gates = b.gates ∧ a.outs = b.outs := by
    constructor
    · rintro rfl; exact ⟨rfl, rfl, rfl, rfl⟩
    · obtain ⟨x1, x2, x3, x4⟩ := a
      obtain ⟨y1, y2, y3, y4⟩ := b
      rintro ⟨rfl, rfl, rfl, rfl⟩
      rfl
  repeat' first | assumption | (simp (disch := first | assumption | omega | (simp; done) | (simp; omega)) only [getD_bss, getD_iss, List.take_of_length_le, remV_pos]; try simp only [go_sem, Nat.reduceBEq, Nat.reduceLT, Nat.reduceLeDiff, Nat.reduceEqDiff, Nat.reduceAdd, Nat.reduceSub, Nat.reduceMul, ↓reduceIte, Int.reduceLE, Int.reduceLT, Int.reduceNeg, Int.reduceToNat, Int.reduceAdd, Int.reduceSub, Int.reduceMul, reduceCtorEq, Try.results17]) | (with_reducible refine And.intro ?_ ?_) | (with_reducible intro _) | (refine @Exists.intro I _ (I.d D.nil) ?_; simp only [go_sem, Nat.reduceBEq, Nat.reduceLT, Nat.reduceLeDiff, Nat.reduceEqDiff, Nat.reduceAdd, Nat.reduceSub, Nat.reduceMul, ↓reduceIte, Int.reduceLE, Int.reduceLT, Int.reduceNeg, Int.reduceToNat, Int.reduceAdd, Int.reduceSub, Int.reduceMul, reduceCtorEq, Try.results17]) | ((with_reducible (show Region.lexB _ _ = true)); kernel_rfl) | ((try rw [inK_i64]); omega)
  · rename_i h
    simp only [false_eq_decide_iff]
    rintro rfl
    simp at h
  rename_i h
  refine loop_of (E := Try.env 0) Try.tok (σ := Nat) (fun i => [(2, .ptr 0 0), (3, .ptr 1 0), (5, .d (dI i))]) (fun _ => [.box [.d (dI a.inputs), .d (dIs a.next), .d (dPs a.gates), .d (dIs a.outs)], .box [.d (dI b.inputs), .d (dIs b.next), .d (dPs b.gates), .d (dIs b.outs)]]) (fun i => i ≤ a.gates.length ∧ ∀ j, j < i → a.gates.getD j (0, 0) = b.gates.getD j (0, 0)) (fun i => a.gates.length - i) [] 1000 1000 ?_ ?_ ?_
  · simp only [go_sem, Nat.reduceBEq, Nat.reduceLT, Nat.reduceLeDiff, Nat.reduceEqDiff, Nat.reduceAdd, Nat.reduceSub, Nat.reduceMul, ↓reduceIte, Int.reduceLE, Int.reduceLT, Int.reduceNeg, Int.reduceToNat, Int.reduceAdd, Int.reduceSub, Int.reduceMul, reduceCtorEq]
  · simp only [go_sem, Nat.reduceBEq, Nat.reduceLT, Nat.reduceLeDiff, Nat.reduceEqDiff, Nat.reduceAdd, Nat.reduceSub, Nat.reduceMul, ↓reduceIte, Int.reduceLE, Int.reduceLT, Int.reduceNeg, Int.reduceToNat, Int.reduceAdd, Int.reduceSub, Int.reduceMul, reduceCtorEq]
    exact ⟨0, ⟨by omega, fun j hj => absurd hj (by omega)⟩, rfl⟩
  · rintro i ⟨hi, hinv⟩
    simp only [go_sem, Nat.reduceBEq, Nat.reduceLT, Nat.reduceLeDiff, Nat.reduceEqDiff, Nat.reduceAdd, Nat.reduceSub, Nat.reduceMul, ↓reduceIte, Int.reduceLE, Int.reduceLT, Int.reduceNeg, Int.reduceToNat, Int.reduceAdd, Int.reduceSub, Int.reduceMul, reduceCtorEq, Try.results17]
    repeat' first | assumption | (simp (disch := first | assumption | omega | (simp; done) | (simp; omega)) only [getD_bss, getD_iss, List.take_of_length_le, remV_pos]; try simp only [go_sem, Nat.reduceBEq, Nat.reduceLT, Nat.reduceLeDiff, Nat.reduceEqDiff, Nat.reduceAdd, Nat.reduceSub, Nat.reduceMul, ↓reduceIte, Int.reduceLE, Int.reduceLT, Int.reduceNeg, Int.reduceToNat, Int.reduceAdd, Int.reduceSub, Int.reduceMul, reduceCtorEq, Try.results17]) | (with_reducible refine And.intro ?_ ?_) | (with_reducible intro _) | (refine @Exists.intro I _ (I.d D.nil) ?_; simp only [go_sem, Nat.reduceBEq, Nat.reduceLT, Nat.reduceLeDiff, Nat.reduceEqDiff, Nat.reduceAdd, Nat.reduceSub, Nat.reduceMul, ↓reduceIte, Int.reduceLE, Int.reduceLT, Int.reduceNeg, Int.reduceToNat, Int.reduceAdd, Int.reduceSub, Int.reduceMul, reduceCtorEq, Try.results17]) | ((with_reducible (show Region.lexB _ _ = true)); kernel_rfl) | ((try rw [inK_i64]); omega)
    · rename_i h1 h2
      simp only [false_eq_decide_iff]
      rintro rfl
      simp at h2
    · rename_i h1 h2
      exact upto_ex h1 (Prod.ext (by simpa using h2.1) (by simpa using h2.2)) hinv
    · simp only [true_eq_decide_iff]
      exact hab.2 ⟨h.1.1.1, h.1.1.2, ext_getD (0, 0) (by omega) fun j hj => hinv j (by omega), h.2⟩
end Go.Proofs
