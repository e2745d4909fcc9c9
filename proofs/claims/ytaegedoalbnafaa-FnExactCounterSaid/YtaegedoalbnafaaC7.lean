/- Contracts: the law of the shift register. Conditions: none; lemmas. -/
import Derived.Test.YtaegedoalbnafaaC6
set_option maxRecDepth 20000
set_option linter.unusedVariables false
set_option linter.unusedSimpArgs false
namespace Go.Proofs
open Go Go.VL

noncomputable instance : DecidableEq Circ := fun _ _ => Classical.propDecidable _
theorem Try.c_eqGate (p q : Int × Int) : Pure Try.prog 130 [dP p, dP q] (.bool (decide (p = q))) := by
  refine pure_of' (E := Try.env 0) Try.tok rfl 1000 Try.func130 rfl rfl Try.ntmps130 (by simp) fun ok => ?_
  simp only [go_sem, Nat.reduceBEq, Nat.reduceLT, Nat.reduceLeDiff, Nat.reduceEqDiff, Nat.reduceAdd, Nat.reduceSub, Nat.reduceMul, ↓reduceIte, Int.reduceLE, Int.reduceLT, Int.reduceNeg, Int.reduceToNat, Int.reduceAdd, Int.reduceSub, Int.reduceMul, reduceCtorEq] at ok
  simp only [go_sem, Nat.reduceBEq, Nat.reduceLT, Nat.reduceLeDiff, Nat.reduceEqDiff, Nat.reduceAdd, Nat.reduceSub, Nat.reduceMul, ↓reduceIte, Int.reduceLE, Int.reduceLT, Int.reduceNeg, Int.reduceToNat, Int.reduceAdd, Int.reduceSub, Int.reduceMul, reduceCtorEq, Try.results130]
  obtain ⟨a, b⟩ := p
  obtain ⟨c, d⟩ := q
  simp only [Prod.mk.injEq, false_eq_decide_iff, true_eq_decide_iff]
  exact ⟨fun h => by simp [h], fun h => ⟨fun h2 => by simp [h2], fun h2 => ⟨h, h2⟩⟩⟩
theorem Try.c_eqGateS (a b : List (Int × Int)) : Pure Try.prog 98 [dPs a, dPs b] (.bool (decide (a = b))) := by
  refine pure_of' (E := Try.env 0) Try.tok rfl 1000 Try.func98 rfl rfl Try.ntmps98 (by simp) fun ok => ?_
  simp only [go_sem, Nat.reduceBEq, Nat.reduceLT, Nat.reduceLeDiff, Nat.reduceEqDiff, Nat.reduceAdd, Nat.reduceSub, Nat.reduceMul, ↓reduceIte, Int.reduceLE, Int.reduceLT, Int.reduceNeg, Int.reduceToNat, Int.reduceAdd, Int.reduceSub, Int.reduceMul, reduceCtorEq] at ok
  simp only [go_sem, Nat.reduceBEq, Nat.reduceLT, Nat.reduceLeDiff, Nat.reduceEqDiff, Nat.reduceAdd, Nat.reduceSub, Nat.reduceMul, ↓reduceIte, Int.reduceLE, Int.reduceLT, Int.reduceNeg, Int.reduceToNat, Int.reduceAdd, Int.reduceSub, Int.reduceMul, reduceCtorEq, Try.results98]
  refine ⟨fun h => ?_, fun hlen => ?_⟩
  · simp only [false_eq_decide_iff]
    rintro rfl
    exact h rfl
  refine loop_of (E := Try.env 0) Try.tok (σ := Nat) (fun i => [(0, .d (dPs a)), (1, .d (dPs b)), (5, .d (dI i))]) (fun _ => []) (fun i => i ≤ a.length ∧ ∀ j, j < i → a.getD j (0, 0) = b.getD j (0, 0)) (fun i => a.length - i) [] 1000 1000 ?_ ?_ ?_
  · simp only [go_sem, Nat.reduceBEq, Nat.reduceLT, Nat.reduceLeDiff, Nat.reduceEqDiff, Nat.reduceAdd, Nat.reduceSub, Nat.reduceMul, ↓reduceIte, Int.reduceLE, Int.reduceLT, Int.reduceNeg, Int.reduceToNat, Int.reduceAdd, Int.reduceSub, Int.reduceMul, reduceCtorEq]
  · simp only [go_sem, Nat.reduceBEq, Nat.reduceLT, Nat.reduceLeDiff, Nat.reduceEqDiff, Nat.reduceAdd, Nat.reduceSub, Nat.reduceMul, ↓reduceIte, Int.reduceLE, Int.reduceLT, Int.reduceNeg, Int.reduceToNat, Int.reduceAdd, Int.reduceSub, Int.reduceMul, reduceCtorEq]
    exact ⟨0, ⟨by omega, by omega⟩, rfl⟩
  · intro i hi
    simp only [go_sem, Nat.reduceBEq, Nat.reduceLT, Nat.reduceLeDiff, Nat.reduceEqDiff, Nat.reduceAdd, Nat.reduceSub, Nat.reduceMul, ↓reduceIte, Int.reduceLE, Int.reduceLT, Int.reduceNeg, Int.reduceToNat, Int.reduceAdd, Int.reduceSub, Int.reduceMul, reduceCtorEq, Try.results98]
    refine ⟨fun h1 => ⟨by kernel_rfl, h1, by omega, qcall_of (fun _ => ⟨Try.c_eqGate _ _, trivial⟩) ?_⟩, fun h1 => ?_⟩
    · simp only [go_sem, Nat.reduceBEq, Nat.reduceLT, Nat.reduceLeDiff, Nat.reduceEqDiff, Nat.reduceAdd, Nat.reduceSub, Nat.reduceMul, ↓reduceIte, Int.reduceLE, Int.reduceLT, Int.reduceNeg, Int.reduceToNat, Int.reduceAdd, Int.reduceSub, Int.reduceMul, reduceCtorEq, Try.results98]
      refine ⟨fun h2 => ?_, fun h2 => ⟨by rw [inK_i64]; omega, i + 1, ⟨by omega, fun j hj => ?_⟩, by omega, rfl⟩⟩
      · simp only [false_eq_decide_iff]
        rintro rfl
        exact h2 rfl
      · by_cases hji : j = i
        · subst hji; exact h2
        · exact hi.2 j (by omega)
    · simp only [true_eq_decide_iff]
      exact ext_getD (0, 0) hlen fun j hj => hi.2 j (by omega)
theorem Circ.ext' {c d : Circ} (h1 : c.inputs = d.inputs) (h2 : c.next = d.next) (h3 : c.gates = d.gates) (h4 : c.outs = d.outs) : c = d := by cases c; cases d; simp_all
theorem Try.c_eqCircuit (c d : Circ) : Pure Try.prog 37 [dC c, dC d] (.bool (decide (c = d))) := by
  refine pure_of' (E := Try.env 0) Try.tok rfl 1000 Try.func37 rfl rfl Try.ntmps37 (by simp) fun ok => ?_
  simp only [go_sem, Nat.reduceBEq, Nat.reduceLT, Nat.reduceLeDiff, Nat.reduceEqDiff, Nat.reduceAdd, Nat.reduceSub, Nat.reduceMul, ↓reduceIte, Int.reduceLE, Int.reduceLT, Int.reduceNeg, Int.reduceToNat, Int.reduceAdd, Int.reduceSub, Int.reduceMul, reduceCtorEq] at ok
  simp only [go_sem, Nat.reduceBEq, Nat.reduceLT, Nat.reduceLeDiff, Nat.reduceEqDiff, Nat.reduceAdd, Nat.reduceSub, Nat.reduceMul, ↓reduceIte, Int.reduceLE, Int.reduceLT, Int.reduceNeg, Int.reduceToNat, Int.reduceAdd, Int.reduceSub, Int.reduceMul, reduceCtorEq, Try.results37]
  repeat' first | assumption | (simp (disch := first | assumption | omega | (simp; done) | (simp; omega)) only [getD_bss, getD_iss, List.take_of_length_le, remV_pos]; try simp only [go_sem, Nat.reduceBEq, Nat.reduceLT, Nat.reduceLeDiff, Nat.reduceEqDiff, Nat.reduceAdd, Nat.reduceSub, Nat.reduceMul, ↓reduceIte, Int.reduceLE, Int.reduceLT, Int.reduceNeg, Int.reduceToNat, Int.reduceAdd, Int.reduceSub, Int.reduceMul, reduceCtorEq, Try.results37]) | (with_reducible refine And.intro ?_ ?_) | (with_reducible intro _) | (refine pcall_fz (Try.c_eqIntS _ _) ?_; simp only [go_sem, Nat.reduceBEq, Nat.reduceLT, Nat.reduceLeDiff, Nat.reduceEqDiff, Nat.reduceAdd, Nat.reduceSub, Nat.reduceMul, ↓reduceIte, Int.reduceLE, Int.reduceLT, Int.reduceNeg, Int.reduceToNat, Int.reduceAdd, Int.reduceSub, Int.reduceMul, reduceCtorEq, Try.results37]) | (refine pcall_fz (Try.c_eqGateS _ _) ?_; simp only [go_sem, Nat.reduceBEq, Nat.reduceLT, Nat.reduceLeDiff, Nat.reduceEqDiff, Nat.reduceAdd, Nat.reduceSub, Nat.reduceMul, ↓reduceIte, Int.reduceLE, Int.reduceLT, Int.reduceNeg, Int.reduceToNat, Int.reduceAdd, Int.reduceSub, Int.reduceMul, reduceCtorEq, Try.results37]) | (refine @Exists.intro I _ (I.d D.nil) ?_; simp only [go_sem, Nat.reduceBEq, Nat.reduceLT, Nat.reduceLeDiff, Nat.reduceEqDiff, Nat.reduceAdd, Nat.reduceSub, Nat.reduceMul, ↓reduceIte, Int.reduceLE, Int.reduceLT, Int.reduceNeg, Int.reduceToNat, Int.reduceAdd, Int.reduceSub, Int.reduceMul, reduceCtorEq, Try.results37]) | ((with_reducible (show Region.lexB _ _ = true)); kernel_rfl) | ((try rw [inK_i64]); omega)
  · simp only [false_eq_decide_iff]; rintro rfl; simp_all
  · simp only [false_eq_decide_iff]; rintro rfl; simp_all
  · simp only [false_eq_decide_iff]; rintro rfl; simp_all
  · simp only [false_eq_decide_iff]; rintro rfl; simp_all
  · simp only [true_eq_decide_iff]
    exact Circ.ext' (by assumption) (by assumption) (by assumption) (by assumption)
/-- The numbers of pairs. -/
def unpair : List (Int × Int) → List Int
  | [] => []
  | p :: r => p.1 :: p.2 :: unpair r
theorem unpair_len : ∀ l, (unpair l).length = 2 * l.length
  | [] => rfl
  | p :: r => by simp [unpair, unpair_len r]; omega
theorem Try.c_heldGateS (a : List (Int × Int)) (k : Int) (hk : 0 ≤ k ∧ k + 2 * a.length ≤ 9000000000000000000) : Pure Try.prog 104 [dPs a, dI k] (dI (Try.held (unpair a) k)) := by
  refine pure_of' (E := Try.env 0) Try.tok rfl 1000 Try.func104 rfl rfl Try.ntmps104 (by simp) fun ok => ?_
  simp only [go_sem, Nat.reduceBEq, Nat.reduceLT, Nat.reduceLeDiff, Nat.reduceEqDiff, Nat.reduceAdd, Nat.reduceSub, Nat.reduceMul, ↓reduceIte, Int.reduceLE, Int.reduceLT, Int.reduceNeg, Int.reduceToNat, Int.reduceAdd, Int.reduceSub, Int.reduceMul, reduceCtorEq] at ok
  simp only [go_sem, Nat.reduceBEq, Nat.reduceLT, Nat.reduceLeDiff, Nat.reduceEqDiff, Nat.reduceAdd, Nat.reduceSub, Nat.reduceMul, ↓reduceIte, Int.reduceLE, Int.reduceLT, Int.reduceNeg, Int.reduceToNat, Int.reduceAdd, Int.reduceSub, Int.reduceMul, reduceCtorEq, Try.results104]
  refine loop_of (E := Try.env 0) Try.tok (σ := Nat) (fun i => [(0, .d (dPs a)), (1, .d (dI (k + 2 * (i : Int)))), (5, .d (dI i))]) (fun _ => []) (fun i => i ≤ a.length ∧ Try.held (unpair a) k = Try.held (unpair (a.drop i)) (k + 2 * (i : Int))) (fun i => a.length - i) [] 1000 1000 ?_ ?_ ?_
  · simp only [go_sem, Nat.reduceBEq, Nat.reduceLT, Nat.reduceLeDiff, Nat.reduceEqDiff, Nat.reduceAdd, Nat.reduceSub, Nat.reduceMul, ↓reduceIte, Int.reduceLE, Int.reduceLT, Int.reduceNeg, Int.reduceToNat, Int.reduceAdd, Int.reduceSub, Int.reduceMul, reduceCtorEq]
  · simp only [go_sem, Nat.reduceBEq, Nat.reduceLT, Nat.reduceLeDiff, Nat.reduceEqDiff, Nat.reduceAdd, Nat.reduceSub, Nat.reduceMul, ↓reduceIte, Int.reduceLE, Int.reduceLT, Int.reduceNeg, Int.reduceToNat, Int.reduceAdd, Int.reduceSub, Int.reduceMul, reduceCtorEq]
    exact ⟨0, by simp⟩
  · rintro i ⟨hi, hinv⟩
    simp only [go_sem, Nat.reduceBEq, Nat.reduceLT, Nat.reduceLeDiff, Nat.reduceEqDiff, Nat.reduceAdd, Nat.reduceSub, Nat.reduceMul, ↓reduceIte, Int.reduceLE, Int.reduceLT, Int.reduceNeg, Int.reduceToNat, Int.reduceAdd, Int.reduceSub, Int.reduceMul, reduceCtorEq, Try.results104]
    repeat' first | assumption | (simp (disch := first | assumption | omega | (simp; done) | (simp; omega)) only [getD_bss, getD_iss, List.take_of_length_le, remV_pos]; try simp only [go_sem, Nat.reduceBEq, Nat.reduceLT, Nat.reduceLeDiff, Nat.reduceEqDiff, Nat.reduceAdd, Nat.reduceSub, Nat.reduceMul, ↓reduceIte, Int.reduceLE, Int.reduceLT, Int.reduceNeg, Int.reduceToNat, Int.reduceAdd, Int.reduceSub, Int.reduceMul, reduceCtorEq, Try.results104]) | (with_reducible refine And.intro ?_ ?_) | (with_reducible intro _) | (refine @Exists.intro I _ (I.d D.nil) ?_; simp only [go_sem, Nat.reduceBEq, Nat.reduceLT, Nat.reduceLeDiff, Nat.reduceEqDiff, Nat.reduceAdd, Nat.reduceSub, Nat.reduceMul, ↓reduceIte, Int.reduceLE, Int.reduceLT, Int.reduceNeg, Int.reduceToNat, Int.reduceAdd, Int.reduceSub, Int.reduceMul, reduceCtorEq, Try.results104]) | ((with_reducible (show Region.lexB _ _ = true)); kernel_rfl) | ((try rw [inK_i64]); omega)
    · rename_i h1 h2
      rw [hinv, drop_getD (0, 0) h1, unpair, Try.held, if_neg h2]
    · rename_i h1 h2 h3
      rw [hinv, drop_getD (0, 0) h1, unpair, Try.held, if_pos h2, Try.held, if_neg h3]
    · rename_i h1 h2 h3
      refine ⟨i + 1, ⟨by omega, ?_⟩, by omega, by omega, rfl⟩
      rw [hinv, drop_getD (0, 0) h1, unpair, Try.held, if_pos h2, Try.held, if_pos h3]
      congr 1
      omega
    · rw [hinv, List.drop_eq_nil_of_le (by omega), unpair, Try.held]
def markedP (k : Int) (n : Nat) : List (Int × Int) := (List.range n).map fun (j : Nat) => (k + 2 * (j : Int), k + 2 * (j : Int) + 1)
theorem Try.c_markGateS (g : Nat) (a : List (Int × Int)) (k : Int) (hk : 0 ≤ k ∧ k + 2 * a.length ≤ 9000000000000000000) (ha : a.length ≤ 281474976710656) :
    Proc Try.prog 99 [.sl 0 g 2 0 a.length, .d (dI k)] [.row g 2 true (a.map dP)] (.d (dI (k + 2 * (a.length : Int)))) [.row g 2 true ((markedP k a.length).map dP)] := by
  refine proc_of (E := Try.env 1) Try.tok rfl 1000 Try.func99 rfl rfl Try.ntmps99 (by simp) ?_
  simp only [go_sem, Nat.reduceBEq, Nat.reduceLT, Nat.reduceLeDiff, Nat.reduceEqDiff, Nat.reduceAdd, Nat.reduceSub, Nat.reduceMul, ↓reduceIte, Int.reduceLE, Int.reduceLT, Int.reduceNeg, Int.reduceToNat, Int.reduceAdd, Int.reduceSub, Int.reduceMul, reduceCtorEq, Try.results99]
  refine loop_of (E := Try.env 1) Try.tok (σ := Nat × List (Int × Int)) (fun s => [(0, .sl 0 g 2 0 a.length), (1, .d (dI (k + 2 * (s.1 : Int)))), (5, .d (dI s.1))]) (fun s => [.row g 2 true (s.2.map dP)]) (fun s => s.1 ≤ a.length ∧ s.2.length = a.length ∧ ∀ (j : Nat), j < s.1 → s.2.getD j (0, 0) = (k + 2 * (j : Int), k + 2 * (j : Int) + 1)) (fun s => a.length - s.1) [] 1000 1000 ?_ ?_ ?_
  · simp only [go_sem, Nat.reduceBEq, Nat.reduceLT, Nat.reduceLeDiff, Nat.reduceEqDiff, Nat.reduceAdd, Nat.reduceSub, Nat.reduceMul, ↓reduceIte, Int.reduceLE, Int.reduceLT, Int.reduceNeg, Int.reduceToNat, Int.reduceAdd, Int.reduceSub, Int.reduceMul, reduceCtorEq]
  · simp only [go_sem, Nat.reduceBEq, Nat.reduceLT, Nat.reduceLeDiff, Nat.reduceEqDiff, Nat.reduceAdd, Nat.reduceSub, Nat.reduceMul, ↓reduceIte, Int.reduceLE, Int.reduceLT, Int.reduceNeg, Int.reduceToNat, Int.reduceAdd, Int.reduceSub, Int.reduceMul, reduceCtorEq]
    exact ⟨(0, a), ⟨by omega, rfl, fun j hj => by simp at hj⟩, by simp⟩
  · rintro ⟨i, b⟩ ⟨hi, hb, hinv⟩
    simp only at hi hb hinv
    simp only [go_sem, Nat.reduceBEq, Nat.reduceLT, Nat.reduceLeDiff, Nat.reduceEqDiff, Nat.reduceAdd, Nat.reduceSub, Nat.reduceMul, ↓reduceIte, Int.reduceLE, Int.reduceLT, Int.reduceNeg, Int.reduceToNat, Int.reduceAdd, Int.reduceSub, Int.reduceMul, reduceCtorEq, Try.results99]
    repeat' first | assumption | (simp (disch := first | assumption | omega | (simp; done) | (simp; omega)) only [getD_bss, getD_iss, List.take_of_length_le, remV_pos]; try simp only [go_sem, Nat.reduceBEq, Nat.reduceLT, Nat.reduceLeDiff, Nat.reduceEqDiff, Nat.reduceAdd, Nat.reduceSub, Nat.reduceMul, ↓reduceIte, Int.reduceLE, Int.reduceLT, Int.reduceNeg, Int.reduceToNat, Int.reduceAdd, Int.reduceSub, Int.reduceMul, reduceCtorEq, Try.results99]) | (with_reducible refine And.intro ?_ ?_) | (with_reducible intro _) | (refine @Exists.intro I _ (I.d D.nil) ?_; simp only [go_sem, Nat.reduceBEq, Nat.reduceLT, Nat.reduceLeDiff, Nat.reduceEqDiff, Nat.reduceAdd, Nat.reduceSub, Nat.reduceMul, ↓reduceIte, Int.reduceLE, Int.reduceLT, Int.reduceNeg, Int.reduceToNat, Int.reduceAdd, Int.reduceSub, Int.reduceMul, reduceCtorEq, Try.results99]) | ((with_reducible (show Region.lexB _ _ = true)); kernel_rfl) | ((try rw [inK_i64]); omega)
    · refine ⟨(i + 1, b.set i (k + 2 * (i : Int), k + 2 * (i : Int) + 1)), ⟨by omega, by simpa using hb, fun j hj => ?_⟩, by omega, ⟨by simp only; omega, rfl⟩, ?_⟩
      · simp only at hj ⊢
        by_cases hji : j = i
        · subst hji; rw [lget_set_eq _ (by omega)]
        · rw [lget_set_ne _ (by omega)]; exact hinv j (by omega)
      · rw [List.set_set, lget_set_eq _ (by omega)]
    · refine ext_getD (0, 0) (by simpa [markedP] using hb) fun j hj => ?_
      rw [hinv j (by omega)]
      simp [markedP, List.getD, show j < a.length by omega]
theorem Try.c_markCircuit (g1 g2 g3 : Nat) (c : Circ) (k : Int) (hk : 0 ≤ k ∧ k ≤ 1000000) (h1 : c.next.length ≤ 2000000) (h2 : c.gates.length ≤ 2000000) (h3 : c.outs.length ≤ 2000000) :
    Proc Try.prog 38 [.agg [.d (dI c.inputs), .sl 0 g1 1 0 c.next.length, .sl 1 g2 2 0 c.gates.length, .sl 2 g3 1 0 c.outs.length], .d (dI k)]
      [.row g1 1 true (c.next.map (D.int .i64)), .row g2 2 true (c.gates.map dP), .row g3 1 true (c.outs.map (D.int .i64))] (.d (dI (k + c.next.length + 2 * c.gates.length + c.outs.length)))
      [.row g1 1 true (((List.range c.next.length).map fun (j : Nat) => k + (j : Int)).map (D.int .i64)), .row g2 2 true ((markedP (k + c.next.length) c.gates.length).map dP),
       .row g3 1 true (((List.range c.outs.length).map fun (j : Nat) => k + c.next.length + 2 * c.gates.length + (j : Int)).map (D.int .i64))] := by
  refine proc_of (E := Try.env 3) Try.tok rfl 1000 Try.func38 rfl rfl Try.ntmps38 (by simp) ?_
  simp only [go_sem, Nat.reduceBEq, Nat.reduceLT, Nat.reduceLeDiff, Nat.reduceEqDiff, Nat.reduceAdd, Nat.reduceSub, Nat.reduceMul, ↓reduceIte, Int.reduceLE, Int.reduceLT, Int.reduceNeg, Int.reduceToNat, Int.reduceAdd, Int.reduceSub, Int.reduceMul, reduceCtorEq, Try.results38]
  refine call_proc (Try.c_markIntS g1 c.next k (by omega) (by omega)) [0] (by simp only [go_sem, Nat.reduceBEq, Nat.reduceLT, Nat.reduceLeDiff, Nat.reduceEqDiff, Nat.reduceAdd, Nat.reduceSub, Nat.reduceMul, ↓reduceIte, Int.reduceLE, Int.reduceLT, Int.reduceNeg, Int.reduceToNat, Int.reduceAdd, Int.reduceSub, Int.reduceMul, reduceCtorEq]) ?_
  simp only [go_sem, Nat.reduceBEq, Nat.reduceLT, Nat.reduceLeDiff, Nat.reduceEqDiff, Nat.reduceAdd, Nat.reduceSub, Nat.reduceMul, ↓reduceIte, Int.reduceLE, Int.reduceLT, Int.reduceNeg, Int.reduceToNat, Int.reduceAdd, Int.reduceSub, Int.reduceMul, reduceCtorEq, Try.results38]
  refine call_proc (Try.c_markGateS g2 c.gates (k + c.next.length) (by omega) (by omega)) [1] (by simp only [go_sem, Nat.reduceBEq, Nat.reduceLT, Nat.reduceLeDiff, Nat.reduceEqDiff, Nat.reduceAdd, Nat.reduceSub, Nat.reduceMul, ↓reduceIte, Int.reduceLE, Int.reduceLT, Int.reduceNeg, Int.reduceToNat, Int.reduceAdd, Int.reduceSub, Int.reduceMul, reduceCtorEq]) ?_
  simp only [go_sem, Nat.reduceBEq, Nat.reduceLT, Nat.reduceLeDiff, Nat.reduceEqDiff, Nat.reduceAdd, Nat.reduceSub, Nat.reduceMul, ↓reduceIte, Int.reduceLE, Int.reduceLT, Int.reduceNeg, Int.reduceToNat, Int.reduceAdd, Int.reduceSub, Int.reduceMul, reduceCtorEq, Try.results38]
  refine call_proc (Try.c_markIntS g3 c.outs (k + c.next.length + 2 * c.gates.length) (by omega) (by omega)) [2] (by simp only [go_sem, Nat.reduceBEq, Nat.reduceLT, Nat.reduceLeDiff, Nat.reduceEqDiff, Nat.reduceAdd, Nat.reduceSub, Nat.reduceMul, ↓reduceIte, Int.reduceLE, Int.reduceLT, Int.reduceNeg, Int.reduceToNat, Int.reduceAdd, Int.reduceSub, Int.reduceMul, reduceCtorEq]) ?_
  simp only [go_sem, Nat.reduceBEq, Nat.reduceLT, Nat.reduceLeDiff, Nat.reduceEqDiff, Nat.reduceAdd, Nat.reduceSub, Nat.reduceMul, ↓reduceIte, Int.reduceLE, Int.reduceLT, Int.reduceNeg, Int.reduceToNat, Int.reduceAdd, Int.reduceSub, Int.reduceMul, reduceCtorEq, Try.results38]
def Try.heldC (c : Circ) (k : Int) : Int :=
  if Try.held c.next k < 0 then -1 else if Try.held (unpair c.gates) (Try.held c.next k) < 0 then -1 else if Try.held c.outs (Try.held (unpair c.gates) (Try.held c.next k)) < 0 then -1 else Try.held c.outs (Try.held (unpair c.gates) (Try.held c.next k))
theorem Try.held_bd : ∀ (l : List Int) (k : Int), 0 ≤ k → Try.held l k = -1 ∨ Try.held l k = k + l.length
  | [], k, _ => by simp [Try.held]
  | x :: r, k, h => by
    simp only [Try.held, List.length_cons]
    split
    · rcases Try.held_bd r (k + 1) (by omega) with h1 | h1 <;> omega
    · exact .inl rfl
theorem Try.c_heldCircuit (c : Circ) (k : Int) (hk : 0 ≤ k ∧ k ≤ 1000000) (h1 : c.next.length ≤ 2000000) (h2 : c.gates.length ≤ 2000000) (h3 : c.outs.length ≤ 2000000) : Pure Try.prog 43 [dC c, dI k] (dI (Try.heldC c k)) := by
  refine pure_of' (E := Try.env 0) Try.tok rfl 1000 Try.func43 rfl rfl Try.ntmps43 (by simp) fun ok => ?_
  simp only [go_sem, Nat.reduceBEq, Nat.reduceLT, Nat.reduceLeDiff, Nat.reduceEqDiff, Nat.reduceAdd, Nat.reduceSub, Nat.reduceMul, ↓reduceIte, Int.reduceLE, Int.reduceLT, Int.reduceNeg, Int.reduceToNat, Int.reduceAdd, Int.reduceSub, Int.reduceMul, reduceCtorEq] at ok
  simp only [go_sem, Nat.reduceBEq, Nat.reduceLT, Nat.reduceLeDiff, Nat.reduceEqDiff, Nat.reduceAdd, Nat.reduceSub, Nat.reduceMul, ↓reduceIte, Int.reduceLE, Int.reduceLT, Int.reduceNeg, Int.reduceToNat, Int.reduceAdd, Int.reduceSub, Int.reduceMul, reduceCtorEq, Try.results43]
  have b1 := Try.held_bd c.next k (by omega)
  have b2 := Try.held_bd (unpair c.gates) (Try.held c.next k)
  have b3 := unpair_len c.gates
  repeat' first | assumption | (simp (disch := first | assumption | omega | (simp; done) | (simp; omega)) only [getD_bss, getD_iss, List.take_of_length_le, remV_pos]; try simp only [go_sem, Nat.reduceBEq, Nat.reduceLT, Nat.reduceLeDiff, Nat.reduceEqDiff, Nat.reduceAdd, Nat.reduceSub, Nat.reduceMul, ↓reduceIte, Int.reduceLE, Int.reduceLT, Int.reduceNeg, Int.reduceToNat, Int.reduceAdd, Int.reduceSub, Int.reduceMul, reduceCtorEq, Try.results43]) | (with_reducible refine And.intro ?_ ?_) | (with_reducible intro _) | (refine pcall_fz (Try.c_heldIntS _ _ (by omega)) ?_; simp only [go_sem, Nat.reduceBEq, Nat.reduceLT, Nat.reduceLeDiff, Nat.reduceEqDiff, Nat.reduceAdd, Nat.reduceSub, Nat.reduceMul, ↓reduceIte, Int.reduceLE, Int.reduceLT, Int.reduceNeg, Int.reduceToNat, Int.reduceAdd, Int.reduceSub, Int.reduceMul, reduceCtorEq, Try.results43]) | (refine pcall_fz (Try.c_heldGateS _ _ (by omega)) ?_; simp only [go_sem, Nat.reduceBEq, Nat.reduceLT, Nat.reduceLeDiff, Nat.reduceEqDiff, Nat.reduceAdd, Nat.reduceSub, Nat.reduceMul, ↓reduceIte, Int.reduceLE, Int.reduceLT, Int.reduceNeg, Int.reduceToNat, Int.reduceAdd, Int.reduceSub, Int.reduceMul, reduceCtorEq, Try.results43]) | (refine @Exists.intro I _ (I.d D.nil) ?_; simp only [go_sem, Nat.reduceBEq, Nat.reduceLT, Nat.reduceLeDiff, Nat.reduceEqDiff, Nat.reduceAdd, Nat.reduceSub, Nat.reduceMul, ↓reduceIte, Int.reduceLE, Int.reduceLT, Int.reduceNeg, Int.reduceToNat, Int.reduceAdd, Int.reduceSub, Int.reduceMul, reduceCtorEq, Try.results43]) | ((with_reducible (show Region.lexB _ _ = true)); kernel_rfl) | ((try rw [inK_i64]); omega)
  all_goals (simp only [Try.heldC]; (repeat' split) <;> first | rfl | omega)
theorem held_pairs : ∀ (n : Nat) (k : Int), Try.held (unpair (markedP k n)) k = k + 2 * (n : Int)
  | 0, k => by simp [markedP, unpair, Try.held]
  | n + 1, k => by
    have e : markedP k (n + 1) = (k, k + 1) :: markedP (k + 2) n := by
      simp only [markedP, List.range_succ_eq_map, List.map_cons, List.map_map]
      congr 1
      · simp
      · apply List.map_congr_left
        intro j hj
        simp only [Function.comp, Prod.mk.injEq]
        omega
    rw [e, unpair, Try.held, if_pos rfl, Try.held, if_pos rfl]
    have := held_pairs n (k + 2)
    rw [show k + 1 + 1 = k + 2 by omega, this]
    omega
def markedC (c : Circ) (k : Int) : Circ := ⟨c.inputs, (List.range c.next.length).map fun (j : Nat) => k + (j : Int), markedP (k + c.next.length) c.gates.length, (List.range c.outs.length).map fun (j : Nat) => k + c.next.length + 2 * c.gates.length + (j : Int)⟩
theorem Try.held_markedC (c : Circ) (k : Int) (hk : 0 ≤ k) : Try.heldC (markedC c k) k = k + c.next.length + 2 * c.gates.length + c.outs.length := by
  have e1 : Try.held (markedC c k).next k = k + c.next.length := Try.held_mark k _
  have e2 : Try.held (unpair (markedC c k).gates) (k + c.next.length) = k + c.next.length + 2 * c.gates.length := held_pairs _ _
  have e3 : Try.held (markedC c k).outs (k + c.next.length + 2 * c.gates.length) = k + c.next.length + 2 * c.gates.length + c.outs.length := Try.held_mark _ _
  rw [Try.heldC, e1, e2, e3, if_neg (by omega), if_neg (by omega), if_neg (by omega)]
end Go.Proofs
