/- Contracts: the laws of tests through a scan chain. Conditions: none; lemmas. -/
import Derived.Test.YtabdiinahgeghaaC26
set_option maxRecDepth 20000
set_option linter.unusedVariables false
set_option linter.unusedSimpArgs false
namespace Go.Proofs
open Go Go.VL

theorem Try.c_markBoolS (g : Nat) (a : List Bool) (k : Int) (hk : 0 ≤ k ∧ k + a.length ≤ 9000000000000000000) (ha : a.length ≤ 281474976710656) :
    Proc Try.prog 68 [.sl 0 g 1 0 a.length, .d (dI k)] [.row g 1 true (a.map D.bool)] (.d (dI (k + (a.length : Int)))) [.row g 1 true ((markedB k a.length).map D.bool)] := by
  refine proc_of (E := Try.env 1) Try.tok rfl 1000 Try.func68 rfl rfl Try.ntmps68 (by simp) ?_
  simp only [go_sem, Nat.reduceBEq, Nat.reduceLT, Nat.reduceLeDiff, Nat.reduceEqDiff, Nat.reduceAdd, Nat.reduceSub, Nat.reduceMul, ↓reduceIte, Int.reduceLE, Int.reduceLT, Int.reduceNeg, Int.reduceToNat, Int.reduceAdd, Int.reduceSub, Int.reduceMul, reduceCtorEq, Try.results68]
  refine loop_of (E := Try.env 1) Try.tok (σ := Nat × List Bool) (fun s => [(0, .sl 0 g 1 0 a.length), (1, .d (dI (k + (s.1 : Int)))), (5, .d (dI s.1))]) (fun s => [.row g 1 true (s.2.map D.bool)]) (fun s => s.1 ≤ a.length ∧ s.2.length = a.length ∧ ∀ (j : Nat), j < s.1 → s.2.getD j false = decide ((k + (j : Int)) % 3 = 0)) (fun s => a.length - s.1) [] 1000 1000 ?_ ?_ ?_
  · simp only [go_sem, Nat.reduceBEq, Nat.reduceLT, Nat.reduceLeDiff, Nat.reduceEqDiff, Nat.reduceAdd, Nat.reduceSub, Nat.reduceMul, ↓reduceIte, Int.reduceLE, Int.reduceLT, Int.reduceNeg, Int.reduceToNat, Int.reduceAdd, Int.reduceSub, Int.reduceMul, reduceCtorEq]
  · simp only [go_sem, Nat.reduceBEq, Nat.reduceLT, Nat.reduceLeDiff, Nat.reduceEqDiff, Nat.reduceAdd, Nat.reduceSub, Nat.reduceMul, ↓reduceIte, Int.reduceLE, Int.reduceLT, Int.reduceNeg, Int.reduceToNat, Int.reduceAdd, Int.reduceSub, Int.reduceMul, reduceCtorEq]
    exact ⟨(0, a), ⟨by omega, rfl, fun j hj => by simp at hj⟩, by simp⟩
  · rintro ⟨i, b⟩ ⟨hi, hb, hinv⟩
    simp only at hi hb hinv
    have hr := remV_pos (y := 3) (show (0 : Int) ≤ k + i by omega)
    simp only [go_sem, Nat.reduceBEq, Nat.reduceLT, Nat.reduceLeDiff, Nat.reduceEqDiff, Nat.reduceAdd, Nat.reduceSub, Nat.reduceMul, ↓reduceIte, Int.reduceLE, Int.reduceLT, Int.reduceNeg, Int.reduceToNat, Int.reduceAdd, Int.reduceSub, Int.reduceMul, reduceCtorEq, Try.results68]
    repeat' first | assumption | (simp (disch := first | assumption | omega | (simp; done) | (simp; omega)) only [getD_bss, getD_iss, List.take_of_length_le, remV_pos]; try simp only [go_sem, Nat.reduceBEq, Nat.reduceLT, Nat.reduceLeDiff, Nat.reduceEqDiff, Nat.reduceAdd, Nat.reduceSub, Nat.reduceMul, ↓reduceIte, Int.reduceLE, Int.reduceLT, Int.reduceNeg, Int.reduceToNat, Int.reduceAdd, Int.reduceSub, Int.reduceMul, reduceCtorEq, Try.results68]) | (with_reducible refine And.intro ?_ ?_) | (with_reducible intro _) | (refine @Exists.intro I _ (I.d D.nil) ?_; simp only [go_sem, Nat.reduceBEq, Nat.reduceLT, Nat.reduceLeDiff, Nat.reduceEqDiff, Nat.reduceAdd, Nat.reduceSub, Nat.reduceMul, ↓reduceIte, Int.reduceLE, Int.reduceLT, Int.reduceNeg, Int.reduceToNat, Int.reduceAdd, Int.reduceSub, Int.reduceMul, reduceCtorEq, Try.results68]) | ((with_reducible (show Region.lexB _ _ = true)); kernel_rfl) | ((try rw [inK_i64]); omega)
    · refine ⟨(i + 1, b.set i (decide ((k + (i : Int)) % 3 = 0))), ⟨by omega, by simpa using hb, ?_⟩, by omega, by omega, rfl⟩
      intro j hj
      simp only at hj ⊢
      by_cases hji : j = i
      · subst hji; rw [lget_set_eq _ (by omega)]
      · rw [lget_set_ne _ (by omega)]; exact hinv j (by omega)
    · refine ext_getD false (by simpa [markedB] using hb) fun j hj => ?_
      rw [hinv j (by omega)]
      simp [markedB, List.getD, show j < a.length by omega]
end Go.Proofs
