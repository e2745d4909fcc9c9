/- Contracts: the law of the shift register. Conditions: none; lemmas. -/
import Derived.Test.YtabdiinahgeghaaC6
set_option maxRecDepth 20000
set_option linter.unusedVariables false
set_option linter.unusedSimpArgs false
namespace Go.Proofs
open Go Go.VL

noncomputable instance : DecidableEq Circ := fun _ _ => Classical.propDecidable _
theorem Try.c_eqGate (p q : Int × Int) : Pure Try.prog 105 [dP p, dP q] (.bool (decide (p = q))) := by
  refine pure_of' (E := Try.env 0) Try.tok rfl 1000 Try.func105 rfl rfl Try.ntmps105 (by simp) fun ok => ?_
  simp only [go_sem, Nat.reduceBEq, Nat.reduceLT, Nat.reduceLeDiff, Nat.reduceEqDiff, Nat.reduceAdd, Nat.reduceSub, Nat.reduceMul, ↓reduceIte, Int.reduceLE, Int.reduceLT, Int.reduceNeg, Int.reduceToNat, Int.reduceAdd, Int.reduceSub, Int.reduceMul, reduceCtorEq] at ok
  simp only [go_sem, Nat.reduceBEq, Nat.reduceLT, Nat.reduceLeDiff, Nat.reduceEqDiff, Nat.reduceAdd, Nat.reduceSub, Nat.reduceMul, ↓reduceIte, Int.reduceLE, Int.reduceLT, Int.reduceNeg, Int.reduceToNat, Int.reduceAdd, Int.reduceSub, Int.reduceMul, reduceCtorEq, Try.results105]
  obtain ⟨a, b⟩ := p
  obtain ⟨c, d⟩ := q
  simp only [Prod.mk.injEq, false_eq_decide_iff, true_eq_decide_iff]
  exact ⟨fun h => by simp [h], fun h => ⟨fun h2 => by simp [h2], fun h2 => ⟨h, h2⟩⟩⟩
theorem Try.c_eqGateS (a b : List (Int × Int)) : Pure Try.prog 65 [dPs a, dPs b] (.bool (decide (a = b))) := by
  refine pure_of' (E := Try.env 0) Try.tok rfl 1000 Try.func65 rfl rfl Try.ntmps65 (by simp) fun ok => ?_
  simp only [go_sem, Nat.reduceBEq, Nat.reduceLT, Nat.reduceLeDiff, Nat.reduceEqDiff, Nat.reduceAdd, Nat.reduceSub, Nat.reduceMul, ↓reduceIte, Int.reduceLE, Int.reduceLT, Int.reduceNeg, Int.reduceToNat, Int.reduceAdd, Int.reduceSub, Int.reduceMul, reduceCtorEq] at ok
  simp only [go_sem, Nat.reduceBEq, Nat.reduceLT, Nat.reduceLeDiff, Nat.reduceEqDiff, Nat.reduceAdd, Nat.reduceSub, Nat.reduceMul, ↓reduceIte, Int.reduceLE, Int.reduceLT, Int.reduceNeg, Int.reduceToNat, Int.reduceAdd, Int.reduceSub, Int.reduceMul, reduceCtorEq, Try.results65]
  refine ⟨fun h => ?_, fun hlen => ?_⟩
  · simp only [false_eq_decide_iff]
    rintro rfl
    exact h rfl
  refine loop_of (E := Try.env 0) Try.tok (σ := Nat) (fun i => [(0, .d (dPs a)), (1, .d (dPs b)), (5, .d (dI i))]) (fun _ => []) (fun i => i ≤ a.length ∧ ∀ j, j < i → a.getD j (0, 0) = b.getD j (0, 0)) (fun i => a.length - i) [] 1000 1000 ?_ ?_ ?_
  · simp only [go_sem, Nat.reduceBEq, Nat.reduceLT, Nat.reduceLeDiff, Nat.reduceEqDiff, Nat.reduceAdd, Nat.reduceSub, Nat.reduceMul, ↓reduceIte, Int.reduceLE, Int.reduceLT, Int.reduceNeg, Int.reduceToNat, Int.reduceAdd, Int.reduceSub, Int.reduceMul, reduceCtorEq]
  · simp only [go_sem, Nat.reduceBEq, Nat.reduceLT, Nat.reduceLeDiff, Nat.reduceEqDiff, Nat.reduceAdd, Nat.reduceSub, Nat.reduceMul, ↓reduceIte, Int.reduceLE, Int.reduceLT, Int.reduceNeg, Int.reduceToNat, Int.reduceAdd, Int.reduceSub, Int.reduceMul, reduceCtorEq]
    exact ⟨0, ⟨by omega, by omega⟩, rfl⟩
  · intro i hi
    simp only [go_sem, Nat.reduceBEq, Nat.reduceLT, Nat.reduceLeDiff, Nat.reduceEqDiff, Nat.reduceAdd, Nat.reduceSub, Nat.reduceMul, ↓reduceIte, Int.reduceLE, Int.reduceLT, Int.reduceNeg, Int.reduceToNat, Int.reduceAdd, Int.reduceSub, Int.reduceMul, reduceCtorEq, Try.results65]
    refine ⟨fun h1 => ⟨by kernel_rfl, h1, by omega, qcall_of (fun _ => ⟨Try.c_eqGate _ _, trivial⟩) ?_⟩, fun h1 => ?_⟩
    · simp only [go_sem, Nat.reduceBEq, Nat.reduceLT, Nat.reduceLeDiff, Nat.reduceEqDiff, Nat.reduceAdd, Nat.reduceSub, Nat.reduceMul, ↓reduceIte, Int.reduceLE, Int.reduceLT, Int.reduceNeg, Int.reduceToNat, Int.reduceAdd, Int.reduceSub, Int.reduceMul, reduceCtorEq, Try.results65]
      refine ⟨fun h2 => ?_, fun h2 => ⟨by rw [inK_i64]; omega, i + 1, ⟨by omega, fun j hj => ?_⟩, by omega, rfl⟩⟩
      · simp only [false_eq_decide_iff]
        rintro rfl
        exact h2 rfl
      · by_cases hji : j = i
        · subst hji; exact h2
        · exact hi.2 j (by omega)
    · simp only [true_eq_decide_iff]
      exact ext_getD (0, 0) hlen fun j hj => hi.2 j (by omega)
theorem Circ.ext' {c d : Circ} (h1 : c.inputs = d.inputs) (h2 : c.next = d.next) (h3 : c.gates = d.gates) (h4 : c.outs = d.outs) : c = d := by cases c; cases d; simp_all
theorem Try.c_eqCircuit (c d : Circ) : Pure Try.prog 15 [dC c, dC d] (.bool (decide (c = d))) := by
  refine pure_of' (E := Try.env 0) Try.tok rfl 1000 Try.func15 rfl rfl Try.ntmps15 (by simp) fun ok => ?_
  simp only [go_sem, Nat.reduceBEq, Nat.reduceLT, Nat.reduceLeDiff, Nat.reduceEqDiff, Nat.reduceAdd, Nat.reduceSub, Nat.reduceMul, ↓reduceIte, Int.reduceLE, Int.reduceLT, Int.reduceNeg, Int.reduceToNat, Int.reduceAdd, Int.reduceSub, Int.reduceMul, reduceCtorEq] at ok
  simp only [go_sem, Nat.reduceBEq, Nat.reduceLT, Nat.reduceLeDiff, Nat.reduceEqDiff, Nat.reduceAdd, Nat.reduceSub, Nat.reduceMul, ↓reduceIte, Int.reduceLE, Int.reduceLT, Int.reduceNeg, Int.reduceToNat, Int.reduceAdd, Int.reduceSub, Int.reduceMul, reduceCtorEq, Try.results15]
  repeat' first | assumption | (simp (disch := first | assumption | omega | (simp; done) | (simp; omega)) only [getD_bss, getD_iss, List.take_of_length_le, remV_pos]; try simp only [go_sem, Nat.reduceBEq, Nat.reduceLT, Nat.reduceLeDiff, Nat.reduceEqDiff, Nat.reduceAdd, Nat.reduceSub, Nat.reduceMul, ↓reduceIte, Int.reduceLE, Int.reduceLT, Int.reduceNeg, Int.reduceToNat, Int.reduceAdd, Int.reduceSub, Int.reduceMul, reduceCtorEq, Try.results15]) | (with_reducible refine And.intro ?_ ?_) | (with_reducible intro _) | (refine pcall_fz (Try.c_eqIntS _ _) ?_; simp only [go_sem, Nat.reduceBEq, Nat.reduceLT, Nat.reduceLeDiff, Nat.reduceEqDiff, Nat.reduceAdd, Nat.reduceSub, Nat.reduceMul, ↓reduceIte, Int.reduceLE, Int.reduceLT, Int.reduceNeg, Int.reduceToNat, Int.reduceAdd, Int.reduceSub, Int.reduceMul, reduceCtorEq, Try.results15]) | (refine pcall_fz (Try.c_eqGateS _ _) ?_; simp only [go_sem, Nat.reduceBEq, Nat.reduceLT, Nat.reduceLeDiff, Nat.reduceEqDiff, Nat.reduceAdd, Nat.reduceSub, Nat.reduceMul, ↓reduceIte, Int.reduceLE, Int.reduceLT, Int.reduceNeg, Int.reduceToNat, Int.reduceAdd, Int.reduceSub, Int.reduceMul, reduceCtorEq, Try.results15]) | (refine @Exists.intro I _ (I.d D.nil) ?_; simp only [go_sem, Nat.reduceBEq, Nat.reduceLT, Nat.reduceLeDiff, Nat.reduceEqDiff, Nat.reduceAdd, Nat.reduceSub, Nat.reduceMul, ↓reduceIte, Int.reduceLE, Int.reduceLT, Int.reduceNeg, Int.reduceToNat, Int.reduceAdd, Int.reduceSub, Int.reduceMul, reduceCtorEq, Try.results15]) | ((with_reducible (show Region.lexB _ _ = true)); kernel_rfl) | ((try rw [inK_i64]); omega)
  · simp only [false_eq_decide_iff]; rintro rfl; simp_all
  · simp only [false_eq_decide_iff]; rintro rfl; simp_all
  · simp only [false_eq_decide_iff]; rintro rfl; simp_all
  · simp only [false_eq_decide_iff]; rintro rfl; simp_all
  · simp only [true_eq_decide_iff]
    exact Circ.ext' (by assumption) (by assumption) (by assumption) (by assumption)
def markedP (k : Int) (n : Nat) : List (Int × Int) := (List.range n).map fun (j : Nat) => (k + 2 * (j : Int), k + 2 * (j : Int) + 1)
theorem Try.c_markGateS (g : Nat) (a : List (Int × Int)) (k : Int) (hk : 0 ≤ k ∧ k + 2 * a.length ≤ 9000000000000000000) (ha : a.length ≤ 281474976710656) :
    Proc Try.prog 67 [.sl 0 g 2 0 a.length, .d (dI k)] [.row g 2 true (a.map dP)] (.d (dI (k + 2 * (a.length : Int)))) [.row g 2 true ((markedP k a.length).map dP)] := by
  refine proc_of (E := Try.env 1) Try.tok rfl 1000 Try.func67 rfl rfl Try.ntmps67 (by simp) ?_
  simp only [go_sem, Nat.reduceBEq, Nat.reduceLT, Nat.reduceLeDiff, Nat.reduceEqDiff, Nat.reduceAdd, Nat.reduceSub, Nat.reduceMul, ↓reduceIte, Int.reduceLE, Int.reduceLT, Int.reduceNeg, Int.reduceToNat, Int.reduceAdd, Int.reduceSub, Int.reduceMul, reduceCtorEq, Try.results67]
  refine loop_of (E := Try.env 1) Try.tok (σ := Nat × List (Int × Int)) (fun s => [(0, .sl 0 g 2 0 a.length), (1, .d (dI (k + 2 * (s.1 : Int)))), (5, .d (dI s.1))]) (fun s => [.row g 2 true (s.2.map dP)]) (fun s => s.1 ≤ a.length ∧ s.2.length = a.length ∧ ∀ (j : Nat), j < s.1 → s.2.getD j (0, 0) = (k + 2 * (j : Int), k + 2 * (j : Int) + 1)) (fun s => a.length - s.1) [] 1000 1000 ?_ ?_ ?_
  · simp only [go_sem, Nat.reduceBEq, Nat.reduceLT, Nat.reduceLeDiff, Nat.reduceEqDiff, Nat.reduceAdd, Nat.reduceSub, Nat.reduceMul, ↓reduceIte, Int.reduceLE, Int.reduceLT, Int.reduceNeg, Int.reduceToNat, Int.reduceAdd, Int.reduceSub, Int.reduceMul, reduceCtorEq]
  · simp only [go_sem, Nat.reduceBEq, Nat.reduceLT, Nat.reduceLeDiff, Nat.reduceEqDiff, Nat.reduceAdd, Nat.reduceSub, Nat.reduceMul, ↓reduceIte, Int.reduceLE, Int.reduceLT, Int.reduceNeg, Int.reduceToNat, Int.reduceAdd, Int.reduceSub, Int.reduceMul, reduceCtorEq]
    exact ⟨(0, a), ⟨by omega, rfl, fun j hj => by simp at hj⟩, by simp⟩
  · rintro ⟨i, b⟩ ⟨hi, hb, hinv⟩
    simp only at hi hb hinv
    simp only [go_sem, Nat.reduceBEq, Nat.reduceLT, Nat.reduceLeDiff, Nat.reduceEqDiff, Nat.reduceAdd, Nat.reduceSub, Nat.reduceMul, ↓reduceIte, Int.reduceLE, Int.reduceLT, Int.reduceNeg, Int.reduceToNat, Int.reduceAdd, Int.reduceSub, Int.reduceMul, reduceCtorEq, Try.results67]
    repeat' first | assumption | (simp (disch := first | assumption | omega | (simp; done) | (simp; omega)) only [getD_bss, getD_iss, List.take_of_length_le, remV_pos]; try simp only [go_sem, Nat.reduceBEq, Nat.reduceLT, Nat.reduceLeDiff, Nat.reduceEqDiff, Nat.reduceAdd, Nat.reduceSub, Nat.reduceMul, ↓reduceIte, Int.reduceLE, Int.reduceLT, Int.reduceNeg, Int.reduceToNat, Int.reduceAdd, Int.reduceSub, Int.reduceMul, reduceCtorEq, Try.results67]) | (with_reducible refine And.intro ?_ ?_) | (with_reducible intro _) | (refine @Exists.intro I _ (I.d D.nil) ?_; simp only [go_sem, Nat.reduceBEq, Nat.reduceLT, Nat.reduceLeDiff, Nat.reduceEqDiff, Nat.reduceAdd, Nat.reduceSub, Nat.reduceMul, ↓reduceIte, Int.reduceLE, Int.reduceLT, Int.reduceNeg, Int.reduceToNat, Int.reduceAdd, Int.reduceSub, Int.reduceMul, reduceCtorEq, Try.results67]) | ((with_reducible (show Region.lexB _ _ = true)); kernel_rfl) | ((try rw [inK_i64]); omega)
    · refine ⟨(i + 1, b.set i (k + 2 * (i : Int), k + 2 * (i : Int) + 1)), ⟨by omega, by simpa using hb, fun j hj => ?_⟩, by omega, ⟨by simp only; omega, rfl⟩, ?_⟩
      · simp only at hj ⊢
        by_cases hji : j = i
        · subst hji; rw [lget_set_eq _ (by omega)]
        · rw [lget_set_ne _ (by omega)]; exact hinv j (by omega)
      · rw [List.set_set, lget_set_eq _ (by omega)]
    · refine ext_getD (0, 0) (by simpa [markedP] using hb) fun j hj => ?_
      rw [hinv j (by omega)]
      simp [markedP, List.getD, show j < a.length by omega]
theorem Try.c_markCircuit (g1 g2 g3 : Nat) (c : Circ) (k : Int) (hk : 0 ≤ k ∧ k ≤ 1000000) (h1 : c.next.length ≤ 2000000) (h2 : c.gates.length ≤ 2000000) (h3 : c.outs.length ≤ 2000000) :
    Proc Try.prog 17 [.agg [.d (dI c.inputs), .sl 0 g1 1 0 c.next.length, .sl 1 g2 2 0 c.gates.length, .sl 2 g3 1 0 c.outs.length], .d (dI k)]
      [.row g1 1 true (c.next.map (D.int .i64)), .row g2 2 true (c.gates.map dP), .row g3 1 true (c.outs.map (D.int .i64))] (.d (dI (k + c.next.length + 2 * c.gates.length + c.outs.length)))
      [.row g1 1 true (((List.range c.next.length).map fun (j : Nat) => k + (j : Int)).map (D.int .i64)), .row g2 2 true ((markedP (k + c.next.length) c.gates.length).map dP),
       .row g3 1 true (((List.range c.outs.length).map fun (j : Nat) => k + c.next.length + 2 * c.gates.length + (j : Int)).map (D.int .i64))] := by
  refine proc_of (E := Try.env 3) Try.tok rfl 1000 Try.func17 rfl rfl Try.ntmps17 (by simp) ?_
  simp only [go_sem, Nat.reduceBEq, Nat.reduceLT, Nat.reduceLeDiff, Nat.reduceEqDiff, Nat.reduceAdd, Nat.reduceSub, Nat.reduceMul, ↓reduceIte, Int.reduceLE, Int.reduceLT, Int.reduceNeg, Int.reduceToNat, Int.reduceAdd, Int.reduceSub, Int.reduceMul, reduceCtorEq, Try.results17]
  refine call_proc (Try.c_markIntS g1 c.next k (by omega) (by omega)) [0] (by simp only [go_sem, Nat.reduceBEq, Nat.reduceLT, Nat.reduceLeDiff, Nat.reduceEqDiff, Nat.reduceAdd, Nat.reduceSub, Nat.reduceMul, ↓reduceIte, Int.reduceLE, Int.reduceLT, Int.reduceNeg, Int.reduceToNat, Int.reduceAdd, Int.reduceSub, Int.reduceMul, reduceCtorEq]) ?_
  simp only [go_sem, Nat.reduceBEq, Nat.reduceLT, Nat.reduceLeDiff, Nat.reduceEqDiff, Nat.reduceAdd, Nat.reduceSub, Nat.reduceMul, ↓reduceIte, Int.reduceLE, Int.reduceLT, Int.reduceNeg, Int.reduceToNat, Int.reduceAdd, Int.reduceSub, Int.reduceMul, reduceCtorEq, Try.results17]
  refine call_proc (Try.c_markGateS g2 c.gates (k + c.next.length) (by omega) (by omega)) [1] (by simp only [go_sem, Nat.reduceBEq, Nat.reduceLT, Nat.reduceLeDiff, Nat.reduceEqDiff, Nat.reduceAdd, Nat.reduceSub, Nat.reduceMul, ↓reduceIte, Int.reduceLE, Int.reduceLT, Int.reduceNeg, Int.reduceToNat, Int.reduceAdd, Int.reduceSub, Int.reduceMul, reduceCtorEq]) ?_
  simp only [go_sem, Nat.reduceBEq, Nat.reduceLT, Nat.reduceLeDiff, Nat.reduceEqDiff, Nat.reduceAdd, Nat.reduceSub, Nat.reduceMul, ↓reduceIte, Int.reduceLE, Int.reduceLT, Int.reduceNeg, Int.reduceToNat, Int.reduceAdd, Int.reduceSub, Int.reduceMul, reduceCtorEq, Try.results17]
  refine call_proc (Try.c_markIntS g3 c.outs (k + c.next.length + 2 * c.gates.length) (by omega) (by omega)) [2] (by simp only [go_sem, Nat.reduceBEq, Nat.reduceLT, Nat.reduceLeDiff, Nat.reduceEqDiff, Nat.reduceAdd, Nat.reduceSub, Nat.reduceMul, ↓reduceIte, Int.reduceLE, Int.reduceLT, Int.reduceNeg, Int.reduceToNat, Int.reduceAdd, Int.reduceSub, Int.reduceMul, reduceCtorEq]) ?_
  simp only [go_sem, Nat.reduceBEq, Nat.reduceLT, Nat.reduceLeDiff, Nat.reduceEqDiff, Nat.reduceAdd, Nat.reduceSub, Nat.reduceMul, ↓reduceIte, Int.reduceLE, Int.reduceLT, Int.reduceNeg, Int.reduceToNat, Int.reduceAdd, Int.reduceSub, Int.reduceMul, reduceCtorEq, Try.results17]
end Go.Proofs
