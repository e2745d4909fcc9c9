/- Contracts of small functions. Conditions: none; lemmas. -/
import Derived.Test.YtbnocdngcmimaaaTy
import Derived.Test.YtbnocdngcmimaaaVM8
import Derived.Test.YtbnocdngcmimaaaProg
set_option maxRecDepth 20000
set_option linter.unusedVariables false
set_option linter.unusedSimpArgs false
namespace Go.Proofs
open Go Go.VL

theorem Try.c_eqIntS (a b : List Int) : Pure Try.prog 117 [dIs a, dIs b] (.bool (decide (a = b))) := by
  refine pure_of' (E := Try.env 0) Try.tok rfl 1000 Try.func117 rfl rfl Try.ntmps117 (by simp) fun ok => ?_
  simp only [go_sem, Nat.reduceBEq, Nat.reduceLT, Nat.reduceLeDiff, Nat.reduceEqDiff, Nat.reduceAdd, Nat.reduceSub, Nat.reduceMul, ↓reduceIte, Int.reduceLE, Int.reduceLT, Int.reduceNeg, Int.reduceToNat, Int.reduceAdd, Int.reduceSub, Int.reduceMul, reduceCtorEq] at ok
  simp only [go_sem, Nat.reduceBEq, Nat.reduceLT, Nat.reduceLeDiff, Nat.reduceEqDiff, Nat.reduceAdd, Nat.reduceSub, Nat.reduceMul, ↓reduceIte, Int.reduceLE, Int.reduceLT, Int.reduceNeg, Int.reduceToNat, Int.reduceAdd, Int.reduceSub, Int.reduceMul, reduceCtorEq, Try.results117]
  refine ⟨fun h => ?_, fun hlen => ?_⟩
  · simp only [false_eq_decide_iff]
    rintro rfl
    exact h rfl
  refine loop_of (E := Try.env 0) Try.tok (σ := Nat) (fun i => [(0, .d (dIs a)), (1, .d (dIs b)), (5, .d (dI i))]) (fun _ => []) (fun i => i ≤ a.length ∧ ∀ j, j < i → a.getD j 0 = b.getD j 0) (fun i => a.length - i) [] 1000 1000 ?_ ?_ ?_
  · simp only [go_sem, Nat.reduceBEq, Nat.reduceLT, Nat.reduceLeDiff, Nat.reduceEqDiff, Nat.reduceAdd, Nat.reduceSub, Nat.reduceMul, ↓reduceIte, Int.reduceLE, Int.reduceLT, Int.reduceNeg, Int.reduceToNat, Int.reduceAdd, Int.reduceSub, Int.reduceMul, reduceCtorEq]
  · simp only [go_sem, Nat.reduceBEq, Nat.reduceLT, Nat.reduceLeDiff, Nat.reduceEqDiff, Nat.reduceAdd, Nat.reduceSub, Nat.reduceMul, ↓reduceIte, Int.reduceLE, Int.reduceLT, Int.reduceNeg, Int.reduceToNat, Int.reduceAdd, Int.reduceSub, Int.reduceMul, reduceCtorEq]
    exact ⟨0, ⟨by omega, by omega⟩, rfl⟩
  · intro i hi
    simp only [go_sem, Nat.reduceBEq, Nat.reduceLT, Nat.reduceLeDiff, Nat.reduceEqDiff, Nat.reduceAdd, Nat.reduceSub, Nat.reduceMul, ↓reduceIte, Int.reduceLE, Int.reduceLT, Int.reduceNeg, Int.reduceToNat, Int.reduceAdd, Int.reduceSub, Int.reduceMul, reduceCtorEq, Try.results117]
    refine ⟨fun h1 => ⟨by kernel_rfl, h1, by omega, fun h2 => ?_, fun h2 => ⟨by rw [inK_i64]; omega, i + 1, ⟨by omega, ?_⟩, by omega, rfl⟩⟩, fun h1 => ?_⟩
    · simp only [false_eq_decide_iff]
      rintro rfl
      exact h2 rfl
    · intro j hj
      by_cases hji : j = i
      · subst hji; exact h2
      · exact hi.2 j (by omega)
    · simp only [true_eq_decide_iff]
      refine List.ext_getElem hlen fun j h3 h4 => ?_
      have := hi.2 j (by omega)
      simpa [List.getD, h3, h4] using this

/-- What 'held' answers. -/
def Try.held : List Int → Int → Int
  | [], k => k
  | x :: r, k => if x = k then Try.held r (k + 1) else -1
theorem Try.held_marks (k : Int) : ∀ (m s : Nat), Try.held ((List.range' s m).map fun (j : Nat) => k + (j : Int)) (k + (s : Int)) = k + ((s + m : Nat) : Int)
  | 0, s => by simp [Try.held]
  | m + 1, s => by
    have := Try.held_marks k m (s + 1)
    simp only [List.range'_succ, List.map_cons, Try.held, if_true]
    have e : k + (s : Int) + 1 = k + ((s + 1 : Nat) : Int) := by omega
    rw [e, this]
    omega
theorem Try.held_mark (k : Int) (m : Nat) : Try.held ((List.range m).map fun (j : Nat) => k + (j : Int)) k = k + (m : Int) := by
  have := Try.held_marks k m 0
  rw [← List.range_eq_range'] at this
  simpa using this
theorem Try.c_heldIntS (a : List Int) (k : Int) (hk : 0 ≤ k ∧ k + a.length ≤ 9000000000000000000) : Pure Try.prog 70 [dIs a, dI k] (dI (Try.held a k)) := by
  refine pure_of' (E := Try.env 0) Try.tok rfl 1000 Try.func70 rfl rfl Try.ntmps70 (by simp) fun ok => ?_
  simp only [go_sem, Nat.reduceBEq, Nat.reduceLT, Nat.reduceLeDiff, Nat.reduceEqDiff, Nat.reduceAdd, Nat.reduceSub, Nat.reduceMul, ↓reduceIte, Int.reduceLE, Int.reduceLT, Int.reduceNeg, Int.reduceToNat, Int.reduceAdd, Int.reduceSub, Int.reduceMul, reduceCtorEq] at ok
  simp only [go_sem, Nat.reduceBEq, Nat.reduceLT, Nat.reduceLeDiff, Nat.reduceEqDiff, Nat.reduceAdd, Nat.reduceSub, Nat.reduceMul, ↓reduceIte, Int.reduceLE, Int.reduceLT, Int.reduceNeg, Int.reduceToNat, Int.reduceAdd, Int.reduceSub, Int.reduceMul, reduceCtorEq, Try.results70]
  refine loop_of (E := Try.env 0) Try.tok (σ := Nat) (fun i => [(0, .d (dIs a)), (1, .d (dI (k + (i : Int)))), (5, .d (dI i))]) (fun _ => []) (fun i => i ≤ a.length ∧ Try.held a k = Try.held (a.drop i) (k + (i : Int))) (fun i => a.length - i) [] 1000 1000 ?_ ?_ ?_
  · simp only [go_sem, Nat.reduceBEq, Nat.reduceLT, Nat.reduceLeDiff, Nat.reduceEqDiff, Nat.reduceAdd, Nat.reduceSub, Nat.reduceMul, ↓reduceIte, Int.reduceLE, Int.reduceLT, Int.reduceNeg, Int.reduceToNat, Int.reduceAdd, Int.reduceSub, Int.reduceMul, reduceCtorEq]
  · simp only [go_sem, Nat.reduceBEq, Nat.reduceLT, Nat.reduceLeDiff, Nat.reduceEqDiff, Nat.reduceAdd, Nat.reduceSub, Nat.reduceMul, ↓reduceIte, Int.reduceLE, Int.reduceLT, Int.reduceNeg, Int.reduceToNat, Int.reduceAdd, Int.reduceSub, Int.reduceMul, reduceCtorEq]
    exact ⟨0, by simp⟩
  · rintro i ⟨hi, hinv⟩
    simp only [go_sem, Nat.reduceBEq, Nat.reduceLT, Nat.reduceLeDiff, Nat.reduceEqDiff, Nat.reduceAdd, Nat.reduceSub, Nat.reduceMul, ↓reduceIte, Int.reduceLE, Int.reduceLT, Int.reduceNeg, Int.reduceToNat, Int.reduceAdd, Int.reduceSub, Int.reduceMul, reduceCtorEq, Try.results70]
    refine ⟨fun h1 => ⟨h1, fun h2 => ?_, fun h2 => ⟨?_, ?_, i + 1, ?_, ?_⟩⟩, fun h1 => ?_⟩
    · rw [hinv, drop_getD 0 h1, Try.held, if_neg h2]
    · rw [inK_i64]; omega
    · rw [inK_i64]; omega
    · rw [hinv, drop_getD 0 h1, Try.held, if_pos h2]
      refine ⟨by omega, ?_⟩
      congr 1
      omega
    · omega
    · rw [hinv, List.drop_eq_nil_of_le (by omega), Try.held]
theorem Try.c_markIntS (g : Nat) (a : List Int) (k : Int) (hk : 0 ≤ k ∧ k + a.length ≤ 9000000000000000000) (ha : a.length ≤ 281474976710656) :
    Proc Try.prog 69 [.sl 0 g 1 0 a.length, .d (dI k)] [.row g 1 true (a.map (D.int .i64))] (.d (dI (k + (a.length : Int)))) [.row g 1 true (((List.range a.length).map fun (j : Nat) => k + (j : Int)).map (D.int .i64))] := by
  refine proc_of (E := Try.env 1) Try.tok rfl 1000 Try.func69 rfl rfl Try.ntmps69 (by simp) ?_
  simp only [go_sem, Nat.reduceBEq, Nat.reduceLT, Nat.reduceLeDiff, Nat.reduceEqDiff, Nat.reduceAdd, Nat.reduceSub, Nat.reduceMul, ↓reduceIte, Int.reduceLE, Int.reduceLT, Int.reduceNeg, Int.reduceToNat, Int.reduceAdd, Int.reduceSub, Int.reduceMul, reduceCtorEq, Try.results69]
  refine loop_of (E := Try.env 1) Try.tok (σ := Nat × List Int) (fun s => [(0, .sl 0 g 1 0 a.length), (1, .d (dI (k + (s.1 : Int)))), (5, .d (dI s.1))]) (fun s => [.row g 1 true (s.2.map (D.int .i64))]) (fun s => s.1 ≤ a.length ∧ s.2.length = a.length ∧ ∀ (j : Nat), j < s.1 → s.2.getD j 0 = k + (j : Int)) (fun s => a.length - s.1) [] 1000 1000 ?_ ?_ ?_
  · simp only [go_sem, Nat.reduceBEq, Nat.reduceLT, Nat.reduceLeDiff, Nat.reduceEqDiff, Nat.reduceAdd, Nat.reduceSub, Nat.reduceMul, ↓reduceIte, Int.reduceLE, Int.reduceLT, Int.reduceNeg, Int.reduceToNat, Int.reduceAdd, Int.reduceSub, Int.reduceMul, reduceCtorEq]
  · simp only [go_sem, Nat.reduceBEq, Nat.reduceLT, Nat.reduceLeDiff, Nat.reduceEqDiff, Nat.reduceAdd, Nat.reduceSub, Nat.reduceMul, ↓reduceIte, Int.reduceLE, Int.reduceLT, Int.reduceNeg, Int.reduceToNat, Int.reduceAdd, Int.reduceSub, Int.reduceMul, reduceCtorEq]
    exact ⟨(0, a), ⟨by omega, rfl, fun j hj => by simp at hj⟩, by simp⟩
  · rintro ⟨i, b⟩ ⟨hi, hb, hinv⟩
    simp only at hi hb hinv
    simp only [go_sem, Nat.reduceBEq, Nat.reduceLT, Nat.reduceLeDiff, Nat.reduceEqDiff, Nat.reduceAdd, Nat.reduceSub, Nat.reduceMul, ↓reduceIte, Int.reduceLE, Int.reduceLT, Int.reduceNeg, Int.reduceToNat, Int.reduceAdd, Int.reduceSub, Int.reduceMul, reduceCtorEq, Try.results69]
    refine ⟨fun h1 => ⟨h1, by omega, ?_, ?_, (i + 1, b.set i (k + (i : Int))), ⟨by omega, by simpa using hb, ?_⟩, by omega, ⟨by omega, rfl⟩, rfl⟩, fun h1 => ⟨by omega, ?_⟩⟩
    · rw [inK_i64]; omega
    · rw [inK_i64]; omega
    · intro j hj
      simp only at hj ⊢
      by_cases hji : j = i
      · subst hji; rw [lget_set_eq _ (by omega)]
      · rw [lget_set_ne _ (by omega)]; exact hinv j (by omega)
    · refine ext_getD 0 (by simpa using hb) fun j hj => ?_
      rw [hinv j (by omega)]
      simp [List.getD, show j < a.length by omega]
end Go.Proofs
