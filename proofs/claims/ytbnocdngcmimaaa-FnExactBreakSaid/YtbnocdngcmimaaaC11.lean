/- Contracts: simulation, the specification's. Conditions: none; lemmas. -/
import Derived.Test.YtbnocdngcmimaaaC8
set_option maxRecDepth 20000
set_option linter.unusedVariables false
set_option linter.unusedSimpArgs false
namespace Go.Proofs
open Go Go.VL

theorem upto_step {P : Nat → Prop} {n i : Nat} (h1 : i < n) (h2 : P i) (hinv : ∀ j, j < i → P j) : ∃ s', (s' ≤ n ∧ ∀ j, j < s' → P j) ∧ n - s' < n - i ∧ i + 1 = s' :=
  ⟨i + 1, ⟨by omega, fun j hj => by
    by_cases h : j = i
    · subst h; exact h2
    · exact hinv j (by omega)⟩, by omega, rfl⟩
theorem Try.c_toIntS (l : List Int) (hl : l.length ≤ 1048576) : Pure Try.prog 116 [dIs l] (dIs l) := by
  refine pure_of' (E := Try.env 0) Try.tok rfl 1000 Try.func116 rfl rfl Try.ntmps116 (by simp) fun ok => ?_
  simp only [go_sem, Nat.reduceBEq, Nat.reduceLT, Nat.reduceLeDiff, Nat.reduceEqDiff, Nat.reduceAdd, Nat.reduceSub, Nat.reduceMul, ↓reduceIte, Int.reduceLE, Int.reduceLT, Int.reduceNeg, Int.reduceToNat, Int.reduceAdd, Int.reduceSub, Int.reduceMul, reduceCtorEq] at ok
  simp only [go_sem, Nat.reduceBEq, Nat.reduceLT, Nat.reduceLeDiff, Nat.reduceEqDiff, Nat.reduceAdd, Nat.reduceSub, Nat.reduceMul, ↓reduceIte, Int.reduceLE, Int.reduceLT, Int.reduceNeg, Int.reduceToNat, Int.reduceAdd, Int.reduceSub, Int.reduceMul, reduceCtorEq, Try.results116]
  refine ⟨by omega, ?_⟩
  refine loop_of (E := Try.env 0) Try.tok (σ := Nat × List Int) (fun s => [(0, .d (dIs l)), (3, .sl 0 0 1 0 l.length), (4, .d (dI s.1))]) (fun s => [.row 0 1 true (s.2.map (D.int .i64))]) (fun s => s.1 ≤ l.length ∧ s.2.length = l.length ∧ ∀ j, j < s.1 → s.2.getD j 0 = l.getD j 0) (fun s => l.length - s.1) [] 1000 1000 ?_ ?_ ?_
  · simp only [go_sem, Nat.reduceBEq, Nat.reduceLT, Nat.reduceLeDiff, Nat.reduceEqDiff, Nat.reduceAdd, Nat.reduceSub, Nat.reduceMul, ↓reduceIte, Int.reduceLE, Int.reduceLT, Int.reduceNeg, Int.reduceToNat, Int.reduceAdd, Int.reduceSub, Int.reduceMul, reduceCtorEq]
  · simp only [go_sem, Nat.reduceBEq, Nat.reduceLT, Nat.reduceLeDiff, Nat.reduceEqDiff, Nat.reduceAdd, Nat.reduceSub, Nat.reduceMul, ↓reduceIte, Int.reduceLE, Int.reduceLT, Int.reduceNeg, Int.reduceToNat, Int.reduceAdd, Int.reduceSub, Int.reduceMul, reduceCtorEq]
    exact ⟨(0, List.replicate l.length 0), ⟨by omega, by simp, fun j hj => absurd hj (by simp)⟩, by simp⟩
  · rintro ⟨i, b⟩ ⟨hi, hb, hinv⟩
    simp only at hi hb hinv
    simp only [go_sem, Nat.reduceBEq, Nat.reduceLT, Nat.reduceLeDiff, Nat.reduceEqDiff, Nat.reduceAdd, Nat.reduceSub, Nat.reduceMul, ↓reduceIte, Int.reduceLE, Int.reduceLT, Int.reduceNeg, Int.reduceToNat, Int.reduceAdd, Int.reduceSub, Int.reduceMul, reduceCtorEq, Try.results116]
    repeat' first | assumption | (simp (disch := first | assumption | omega | (simp; done) | (simp; omega)) only [getD_bss, getD_iss, List.take_of_length_le, remV_pos]; try simp only [go_sem, Nat.reduceBEq, Nat.reduceLT, Nat.reduceLeDiff, Nat.reduceEqDiff, Nat.reduceAdd, Nat.reduceSub, Nat.reduceMul, ↓reduceIte, Int.reduceLE, Int.reduceLT, Int.reduceNeg, Int.reduceToNat, Int.reduceAdd, Int.reduceSub, Int.reduceMul, reduceCtorEq, Try.results116]) | (with_reducible refine And.intro ?_ ?_) | (with_reducible intro _) | (refine @Exists.intro I _ (I.d D.nil) ?_; simp only [go_sem, Nat.reduceBEq, Nat.reduceLT, Nat.reduceLeDiff, Nat.reduceEqDiff, Nat.reduceAdd, Nat.reduceSub, Nat.reduceMul, ↓reduceIte, Int.reduceLE, Int.reduceLT, Int.reduceNeg, Int.reduceToNat, Int.reduceAdd, Int.reduceSub, Int.reduceMul, reduceCtorEq, Try.results116]) | ((with_reducible (show Region.lexB _ _ = true)); kernel_rfl) | ((try rw [inK_i64]); omega)
    · refine ⟨(i + 1, b.set i (l.getD i 0)), ⟨by omega, by simpa using hb, fun j hj => ?_⟩, by omega, rfl, rfl⟩
      simp only at hj ⊢
      by_cases hji : j = i
      · subst hji; rw [lget_set_eq _ (by omega)]
      · rw [lget_set_ne _ (by omega)]; exact hinv j (by omega)
    · exact ext_getD 0 hb fun j hj => hinv j (by omega)
theorem Try.c_szIntS (l : List Int) (k : Int) (hk : 0 ≤ k ∧ k ≤ 1048576) : Pure Try.prog 115 [dIs l, dI k] (dI (if k < l.length then -1 else k - (l.length : Int))) := by
  refine pure_of' (E := Try.env 0) Try.tok rfl 1000 Try.func115 rfl rfl Try.ntmps115 (by simp) fun ok => ?_
  simp only [go_sem, Nat.reduceBEq, Nat.reduceLT, Nat.reduceLeDiff, Nat.reduceEqDiff, Nat.reduceAdd, Nat.reduceSub, Nat.reduceMul, ↓reduceIte, Int.reduceLE, Int.reduceLT, Int.reduceNeg, Int.reduceToNat, Int.reduceAdd, Int.reduceSub, Int.reduceMul, reduceCtorEq] at ok
  simp only [go_sem, Nat.reduceBEq, Nat.reduceLT, Nat.reduceLeDiff, Nat.reduceEqDiff, Nat.reduceAdd, Nat.reduceSub, Nat.reduceMul, ↓reduceIte, Int.reduceLE, Int.reduceLT, Int.reduceNeg, Int.reduceToNat, Int.reduceAdd, Int.reduceSub, Int.reduceMul, reduceCtorEq, Try.results115]
  refine ⟨by rw [inK_i64]; omega, fun h => ?_, fun h => ?_⟩
  · rw [if_pos (by omega)]
  · rw [if_neg (by omega)]
end Go.Proofs
