/- Contracts: circuits. Conditions: none; lemmas. -/
import Derived.Test.YtnpeooegbmljaaaC5
set_option linter.unusedVariables false
set_option linter.unusedSimpArgs false
namespace Go.Proofs
open Go Go.VL

theorem Try.c_sameInts (a b : List Int) : Pure Try.prog 21 [dIs a, dIs b] (.bool (decide (a = b))) := by
  refine pure_of' (E := Try.env 0) Try.tok rfl 1000 Try.func21 rfl rfl Try.ntmps21 (by simp) fun ok => ?_
  simp only [go_sem, Nat.reduceBEq, Nat.reduceLT, Nat.reduceLeDiff, Nat.reduceEqDiff, Nat.reduceAdd, Nat.reduceSub, Nat.reduceMul, ↓reduceIte, Int.reduceLE, Int.reduceLT, Int.reduceNeg, Int.reduceToNat, Int.reduceAdd, Int.reduceSub, Int.reduceMul, reduceCtorEq] at ok
  simp only [go_sem, Nat.reduceBEq, Nat.reduceLT, Nat.reduceLeDiff, Nat.reduceEqDiff, Nat.reduceAdd, Nat.reduceSub, Nat.reduceMul, ↓reduceIte, Int.reduceLE, Int.reduceLT, Int.reduceNeg, Int.reduceToNat, Int.reduceAdd, Int.reduceSub, Int.reduceMul, reduceCtorEq, Try.results21]
  refine ⟨fun h => ?_, fun hlen => ?_⟩
  · simp only [false_eq_decide_iff]
    rintro rfl
    exact h rfl
  refine loop_of (E := Try.env 0) Try.tok (σ := Nat) (fun i => [(0, .d (dIs a)), (1, .d (dIs b)), (5, .d (dI i))]) (fun _ => []) (fun i => i ≤ a.length ∧ ∀ j, j < i → a.getD j 0 = b.getD j 0) (fun i => a.length - i) [] 1000 1000 ?_ ?_ ?_
  · simp only [go_sem, Nat.reduceBEq, Nat.reduceLT, Nat.reduceLeDiff, Nat.reduceEqDiff, Nat.reduceAdd, Nat.reduceSub, Nat.reduceMul, ↓reduceIte, Int.reduceLE, Int.reduceLT, Int.reduceNeg, Int.reduceToNat, Int.reduceAdd, Int.reduceSub, Int.reduceMul, reduceCtorEq]
  · simp only [go_sem, Nat.reduceBEq, Nat.reduceLT, Nat.reduceLeDiff, Nat.reduceEqDiff, Nat.reduceAdd, Nat.reduceSub, Nat.reduceMul, ↓reduceIte, Int.reduceLE, Int.reduceLT, Int.reduceNeg, Int.reduceToNat, Int.reduceAdd, Int.reduceSub, Int.reduceMul, reduceCtorEq]
    exact ⟨0, ⟨by omega, by omega⟩, rfl⟩
  · intro i hi
    simp only [go_sem, Nat.reduceBEq, Nat.reduceLT, Nat.reduceLeDiff, Nat.reduceEqDiff, Nat.reduceAdd, Nat.reduceSub, Nat.reduceMul, ↓reduceIte, Int.reduceLE, Int.reduceLT, Int.reduceNeg, Int.reduceToNat, Int.reduceAdd, Int.reduceSub, Int.reduceMul, reduceCtorEq, Try.results21]
    refine ⟨fun h1 => ?_, fun h1 => ?_⟩
    · refine ⟨by kernel_rfl, h1, by omega, fun h2 => ?_, fun h2 => ⟨by rw [inK_i64]; omega, i + 1, ⟨by omega, fun j hj => ?_⟩, by omega, rfl⟩⟩
      · simp only [false_eq_decide_iff]
        rintro rfl
        exact h2 rfl
      · by_cases hji : j = i
        · subst hji; exact h2
        · exact hi.2 j (by omega)
    · simp only [true_eq_decide_iff]
      exact ext_getD 0 hlen fun j hj => hi.2 j (by omega)
theorem Try.c_isLit (l n : Int) (hn : 0 ≤ n ∧ n ≤ 4000000000000000000) : Pure Try.prog 42 [dI l, dI n] (.bool (decide (0 ≤ l) && decide (l < 2 * n))) := by
  refine pure_of' (E := Try.env 0) Try.tok rfl 1000 Try.func42 rfl rfl Try.ntmps42 (by simp) fun ok => ?_
  simp only [go_sem, Nat.reduceBEq, Nat.reduceLT, Nat.reduceLeDiff, Nat.reduceEqDiff, Nat.reduceAdd, Nat.reduceSub, Nat.reduceMul, ↓reduceIte, Int.reduceLE, Int.reduceLT, Int.reduceNeg, Int.reduceToNat, Int.reduceAdd, Int.reduceSub, Int.reduceMul, reduceCtorEq] at ok
  simp only [go_sem, Nat.reduceBEq, Nat.reduceLT, Nat.reduceLeDiff, Nat.reduceEqDiff, Nat.reduceAdd, Nat.reduceSub, Nat.reduceMul, ↓reduceIte, Int.reduceLE, Int.reduceLT, Int.reduceNeg, Int.reduceToNat, Int.reduceAdd, Int.reduceSub, Int.reduceMul, reduceCtorEq, Try.results42]
  rw [inK_i64]
  omega
theorem Try.c_firstGate (c : Circ) (h : -1000 ≤ c.inputs ∧ c.inputs ≤ 1000) : Pure Try.prog 50 [pC c] (dI c.first) := by
  refine pure_of' (E := Try.env 0) Try.tok rfl 1000 Try.func50 rfl rfl Try.ntmps50 (by simp) fun ok => ?_
  simp only [go_sem, Nat.reduceBEq, Nat.reduceLT, Nat.reduceLeDiff, Nat.reduceEqDiff, Nat.reduceAdd, Nat.reduceSub, Nat.reduceMul, ↓reduceIte, Int.reduceLE, Int.reduceLT, Int.reduceNeg, Int.reduceToNat, Int.reduceAdd, Int.reduceSub, Int.reduceMul, reduceCtorEq] at ok
  simp only [go_sem, Nat.reduceBEq, Nat.reduceLT, Nat.reduceLeDiff, Nat.reduceEqDiff, Nat.reduceAdd, Nat.reduceSub, Nat.reduceMul, ↓reduceIte, Int.reduceLE, Int.reduceLT, Int.reduceNeg, Int.reduceToNat, Int.reduceAdd, Int.reduceSub, Int.reduceMul, reduceCtorEq, Try.results50]
  refine ⟨by kernel_rfl, ?_, ?_, rfl⟩ <;> (rw [inK_i64]; omega)
theorem Try.c_vars (c : Circ) (h : -1000 ≤ c.inputs ∧ c.inputs ≤ 1000) : Pure Try.prog 44 [pC c] (dI c.vars) := by
  refine pure_of' (E := Try.env 0) Try.tok rfl 1000 Try.func44 rfl rfl Try.ntmps44 (by simp) fun ok => ?_
  simp only [go_sem, Nat.reduceBEq, Nat.reduceLT, Nat.reduceLeDiff, Nat.reduceEqDiff, Nat.reduceAdd, Nat.reduceSub, Nat.reduceMul, ↓reduceIte, Int.reduceLE, Int.reduceLT, Int.reduceNeg, Int.reduceToNat, Int.reduceAdd, Int.reduceSub, Int.reduceMul, reduceCtorEq] at ok
  simp only [go_sem, Nat.reduceBEq, Nat.reduceLT, Nat.reduceLeDiff, Nat.reduceEqDiff, Nat.reduceAdd, Nat.reduceSub, Nat.reduceMul, ↓reduceIte, Int.reduceLE, Int.reduceLT, Int.reduceNeg, Int.reduceToNat, Int.reduceAdd, Int.reduceSub, Int.reduceMul, reduceCtorEq, Try.results44]
  refine ⟨by kernel_rfl, qcall_of (fun _ => ⟨Try.c_firstGate c h, by simp only [scal, inK_i64, Circ.first]; omega⟩) ?_⟩
  simp only [go_sem, Nat.reduceBEq, Nat.reduceLT, Nat.reduceLeDiff, Nat.reduceEqDiff, Nat.reduceAdd, Nat.reduceSub, Nat.reduceMul, ↓reduceIte, Int.reduceLE, Int.reduceLT, Int.reduceNeg, Int.reduceToNat, Int.reduceAdd, Int.reduceSub, Int.reduceMul, reduceCtorEq, Try.results44]
  simp only [inK_i64, Circ.first, Circ.vars, and_true]
  omega
theorem Try.c_roots (c : Circ) (h1 : c.next.length ≤ 1000000 ∧ c.outs.length ≤ 1000000) : Pure Try.prog 43 [pC c] (dIs c.roots) := by
  refine pure_of' (E := Try.env 0) Try.tok rfl 1000 Try.func43 rfl rfl Try.ntmps43 (by simp) fun ok => ?_
  simp only [go_sem, Nat.reduceBEq, Nat.reduceLT, Nat.reduceLeDiff, Nat.reduceEqDiff, Nat.reduceAdd, Nat.reduceSub, Nat.reduceMul, ↓reduceIte, Int.reduceLE, Int.reduceLT, Int.reduceNeg, Int.reduceToNat, Int.reduceAdd, Int.reduceSub, Int.reduceMul, reduceCtorEq] at ok
  simp only [go_sem, Nat.reduceBEq, Nat.reduceLT, Nat.reduceLeDiff, Nat.reduceEqDiff, Nat.reduceAdd, Nat.reduceSub, Nat.reduceMul, ↓reduceIte, Int.reduceLE, Int.reduceLT, Int.reduceNeg, Int.reduceToNat, Int.reduceAdd, Int.reduceSub, Int.reduceMul, reduceCtorEq, Try.results43]
  refine drawn_of (E := Try.env 0) Try.tok Try.follows 1000 1000 [4, 9] (.fst 0 (.fst 1 (.fst 2 (.fst 5 (.fst 6 (.fst 7 (.fst 3 (.two 4 (.one 8 (.one 9 (.fst 10 (.done)))) 8 (.one 4 (.one 9 (.fst 10 (.done)))))))))))) (by kernel_rfl) ?_
  simp only [go_sem, Nat.reduceBEq, Nat.reduceLT, Nat.reduceLeDiff, Nat.reduceEqDiff, Nat.reduceAdd, Nat.reduceSub, Nat.reduceMul, ↓reduceIte, Int.reduceLE, Int.reduceLT, Int.reduceNeg, Int.reduceToNat, Int.reduceAdd, Int.reduceSub, Int.reduceMul, reduceCtorEq, Try.results43]
  simp only [Circ.roots, and_true]
  refine ⟨by omega, by omega⟩
theorem Circ.notValid {c : Circ} (h : ¬ c.Valid) : false = decide c.Valid := by simp [h]
theorem Try.c_CircuitValid (c : Circ) : Pure Try.prog 36 [dC c] (.bool (decide c.Valid)) := by
  refine pure_of' (E := Try.env 0) Try.tok rfl 1000 Try.func36 rfl rfl Try.ntmps36 (by simp) fun ok => ?_
  simp only [go_sem, Nat.reduceBEq, Nat.reduceLT, Nat.reduceLeDiff, Nat.reduceEqDiff, Nat.reduceAdd, Nat.reduceSub, Nat.reduceMul, ↓reduceIte, Int.reduceLE, Int.reduceLT, Int.reduceNeg, Int.reduceToNat, Int.reduceAdd, Int.reduceSub, Int.reduceMul, reduceCtorEq] at ok
  simp only [go_sem, Nat.reduceBEq, Nat.reduceLT, Nat.reduceLeDiff, Nat.reduceEqDiff, Nat.reduceAdd, Nat.reduceSub, Nat.reduceMul, ↓reduceIte, Int.reduceLE, Int.reduceLT, Int.reduceNeg, Int.reduceToNat, Int.reduceAdd, Int.reduceSub, Int.reduceMul, reduceCtorEq, Try.results36]
  refine ⟨fun h => Circ.notValid fun hv => ?_, fun h => ?_⟩
  · have := hv.i0; have := hv.i1; have := hv.ln; have := hv.lg; have := hv.lo
    omega
  refine ⟨by rw [inK_i64]; omega, by rw [inK_i64]; omega, ?_⟩
  have hf : 1 + c.inputs + (c.next.length : Int) = c.first := rfl
  have hb : 1 ≤ c.first ∧ c.first ≤ 8 := by omega
  rw [hf]
  refine loop_of (E := Try.env 0) Try.tok (σ := Nat) (fun i => [(1, .ptr 0 0), (3, .d (dI c.first)), (42, .d (dPs c.gates)), (43, .d (dI c.gates.length)), (44, .d (dI i))]) (fun i => [.box [.d (dI c.inputs), .d (dIs c.next), .d (dPs c.gates), .d (dIs c.outs)]])
    (fun i => i ≤ c.gates.length ∧ ∀ j, j < i → litOk (c.gates.getD j (0, 0)).1 (c.first + (j : Int)) ∧ litOk (c.gates.getD j (0, 0)).2 (c.first + (j : Int))) (fun i => c.gates.length - i) [] 1000 1000 ?_ ?_ ?_
  · simp only [go_sem, Nat.reduceBEq, Nat.reduceLT, Nat.reduceLeDiff, Nat.reduceEqDiff, Nat.reduceAdd, Nat.reduceSub, Nat.reduceMul, ↓reduceIte, Int.reduceLE, Int.reduceLT, Int.reduceNeg, Int.reduceToNat, Int.reduceAdd, Int.reduceSub, Int.reduceMul, reduceCtorEq]
  · simp only [go_sem, Nat.reduceBEq, Nat.reduceLT, Nat.reduceLeDiff, Nat.reduceEqDiff, Nat.reduceAdd, Nat.reduceSub, Nat.reduceMul, ↓reduceIte, Int.reduceLE, Int.reduceLT, Int.reduceNeg, Int.reduceToNat, Int.reduceAdd, Int.reduceSub, Int.reduceMul, reduceCtorEq]
    exact ⟨0, ⟨by omega, fun j hj => absurd hj (by omega)⟩, rfl⟩
  · rintro i ⟨hi, hinv⟩
    simp only [go_sem, Nat.reduceBEq, Nat.reduceLT, Nat.reduceLeDiff, Nat.reduceEqDiff, Nat.reduceAdd, Nat.reduceSub, Nat.reduceMul, ↓reduceIte, Int.reduceLE, Int.reduceLT, Int.reduceNeg, Int.reduceToNat, Int.reduceAdd, Int.reduceSub, Int.reduceMul, reduceCtorEq, Try.results36]
    repeat' first | assumption | (simp (disch := first | assumption | omega | (simp; omega)) only [getD_bss, getD_iss, List.take_of_length_le]; try simp only [go_sem, Nat.reduceBEq, Nat.reduceLT, Nat.reduceLeDiff, Nat.reduceEqDiff, Nat.reduceAdd, Nat.reduceSub, Nat.reduceMul, ↓reduceIte, Int.reduceLE, Int.reduceLT, Int.reduceNeg, Int.reduceToNat, Int.reduceAdd, Int.reduceSub, Int.reduceMul, reduceCtorEq, Try.results36]) | (with_reducible refine And.intro ?_ ?_) | (with_reducible intro _) | (refine pcall_fz (Try.c_isLit _ _ (by omega)) ?_; simp only [go_sem, Nat.reduceBEq, Nat.reduceLT, Nat.reduceLeDiff, Nat.reduceEqDiff, Nat.reduceAdd, Nat.reduceSub, Nat.reduceMul, ↓reduceIte, Int.reduceLE, Int.reduceLT, Int.reduceNeg, Int.reduceToNat, Int.reduceAdd, Int.reduceSub, Int.reduceMul, reduceCtorEq, Try.results36]) | (refine gcall_of (fun hg => Try.c_isLit _ _ (by omega)) ?_; simp only [go_sem, Nat.reduceBEq, Nat.reduceLT, Nat.reduceLeDiff, Nat.reduceEqDiff, Nat.reduceAdd, Nat.reduceSub, Nat.reduceMul, ↓reduceIte, Int.reduceLE, Int.reduceLT, Int.reduceNeg, Int.reduceToNat, Int.reduceAdd, Int.reduceSub, Int.reduceMul, reduceCtorEq, Try.results36]) | (refine pcall_fz (Try.c_roots c (by omega)) ?_; simp only [go_sem, Nat.reduceBEq, Nat.reduceLT, Nat.reduceLeDiff, Nat.reduceEqDiff, Nat.reduceAdd, Nat.reduceSub, Nat.reduceMul, ↓reduceIte, Int.reduceLE, Int.reduceLT, Int.reduceNeg, Int.reduceToNat, Int.reduceAdd, Int.reduceSub, Int.reduceMul, reduceCtorEq, Try.results36]) | (refine @Exists.intro I _ (I.d D.nil) ?_; simp only [go_sem, Nat.reduceBEq, Nat.reduceLT, Nat.reduceLeDiff, Nat.reduceEqDiff, Nat.reduceAdd, Nat.reduceSub, Nat.reduceMul, ↓reduceIte, Int.reduceLE, Int.reduceLT, Int.reduceNeg, Int.reduceToNat, Int.reduceAdd, Int.reduceSub, Int.reduceMul, reduceCtorEq, Try.results36]) | ((with_reducible (show Region.lexB _ _ = true)); kernel_rfl) | ((try rw [inK_i64]); omega)
    · exact Circ.notValid fun hv => by have := hv.g i (by omega); unfold litOk at this; omega
    · rename_i h1 h2
      refine ⟨i + 1, ⟨by omega, fun j hj => ?_⟩, by omega, rfl⟩
      by_cases hji : j = i
      · subst hji; exact h2
      · exact hinv j (by omega)
    · have hg : ∀ j, j < c.gates.length → litOk (c.gates.getD j (0, 0)).1 (c.first + (j : Int)) ∧ litOk (c.gates.getD j (0, 0)).2 (c.first + (j : Int)) := fun j hj => hinv j (by omega)
      clear hinv hi
      have hv0 : c.first ≤ c.vars ∧ c.vars ≤ 22 := by unfold Circ.vars; omega
      have hrl : c.roots.length ≤ 6 := by simp [Circ.roots]; omega
      refine loop_of (E := Try.env 0) Try.tok (σ := Nat) (fun i => [(1, .ptr 0 0), (66, .d (dIs c.roots)), (67, .d (dI c.roots.length)), (68, .d (dI i))]) (fun i => [.box [.d (dI c.inputs), .d (dIs c.next), .d (dPs c.gates), .d (dIs c.outs)]])
        (fun i => i ≤ c.roots.length ∧ ∀ j, j < i → litOk (c.roots.getD j 0) c.vars) (fun i => c.roots.length - i) [] 1000 1000 ?_ ?_ ?_
      · simp only [go_sem, Nat.reduceBEq, Nat.reduceLT, Nat.reduceLeDiff, Nat.reduceEqDiff, Nat.reduceAdd, Nat.reduceSub, Nat.reduceMul, ↓reduceIte, Int.reduceLE, Int.reduceLT, Int.reduceNeg, Int.reduceToNat, Int.reduceAdd, Int.reduceSub, Int.reduceMul, reduceCtorEq]
      · simp only [go_sem, Nat.reduceBEq, Nat.reduceLT, Nat.reduceLeDiff, Nat.reduceEqDiff, Nat.reduceAdd, Nat.reduceSub, Nat.reduceMul, ↓reduceIte, Int.reduceLE, Int.reduceLT, Int.reduceNeg, Int.reduceToNat, Int.reduceAdd, Int.reduceSub, Int.reduceMul, reduceCtorEq]
        exact ⟨0, ⟨by omega, fun j hj => absurd hj (by omega)⟩, rfl⟩
      · rintro i ⟨hi, hinv⟩
        simp only [go_sem, Nat.reduceBEq, Nat.reduceLT, Nat.reduceLeDiff, Nat.reduceEqDiff, Nat.reduceAdd, Nat.reduceSub, Nat.reduceMul, ↓reduceIte, Int.reduceLE, Int.reduceLT, Int.reduceNeg, Int.reduceToNat, Int.reduceAdd, Int.reduceSub, Int.reduceMul, reduceCtorEq, Try.results36]
        repeat' first | assumption | (simp (disch := first | assumption | omega | (simp; omega)) only [getD_bss, getD_iss, List.take_of_length_le]; try simp only [go_sem, Nat.reduceBEq, Nat.reduceLT, Nat.reduceLeDiff, Nat.reduceEqDiff, Nat.reduceAdd, Nat.reduceSub, Nat.reduceMul, ↓reduceIte, Int.reduceLE, Int.reduceLT, Int.reduceNeg, Int.reduceToNat, Int.reduceAdd, Int.reduceSub, Int.reduceMul, reduceCtorEq, Try.results36]) | (with_reducible refine And.intro ?_ ?_) | (with_reducible intro _) | (refine pcall_fz (Try.c_vars _ (by omega)) ?_; simp only [go_sem, Nat.reduceBEq, Nat.reduceLT, Nat.reduceLeDiff, Nat.reduceEqDiff, Nat.reduceAdd, Nat.reduceSub, Nat.reduceMul, ↓reduceIte, Int.reduceLE, Int.reduceLT, Int.reduceNeg, Int.reduceToNat, Int.reduceAdd, Int.reduceSub, Int.reduceMul, reduceCtorEq, Try.results36]) | (refine pcall_fz (Try.c_isLit _ _ (by omega)) ?_; simp only [go_sem, Nat.reduceBEq, Nat.reduceLT, Nat.reduceLeDiff, Nat.reduceEqDiff, Nat.reduceAdd, Nat.reduceSub, Nat.reduceMul, ↓reduceIte, Int.reduceLE, Int.reduceLT, Int.reduceNeg, Int.reduceToNat, Int.reduceAdd, Int.reduceSub, Int.reduceMul, reduceCtorEq, Try.results36]) | (refine gcall_of (fun hg => Try.c_isLit _ _ (by omega)) ?_; simp only [go_sem, Nat.reduceBEq, Nat.reduceLT, Nat.reduceLeDiff, Nat.reduceEqDiff, Nat.reduceAdd, Nat.reduceSub, Nat.reduceMul, ↓reduceIte, Int.reduceLE, Int.reduceLT, Int.reduceNeg, Int.reduceToNat, Int.reduceAdd, Int.reduceSub, Int.reduceMul, reduceCtorEq, Try.results36]) | (refine @Exists.intro I _ (I.d D.nil) ?_; simp only [go_sem, Nat.reduceBEq, Nat.reduceLT, Nat.reduceLeDiff, Nat.reduceEqDiff, Nat.reduceAdd, Nat.reduceSub, Nat.reduceMul, ↓reduceIte, Int.reduceLE, Int.reduceLT, Int.reduceNeg, Int.reduceToNat, Int.reduceAdd, Int.reduceSub, Int.reduceMul, reduceCtorEq, Try.results36]) | ((with_reducible (show Region.lexB _ _ = true)); kernel_rfl) | ((try rw [inK_i64]); omega)
        · exact Circ.notValid fun hv => by have := hv.roots _ (getD_mem' (z := 0) (show i < c.roots.length by assumption)); unfold litOk at this; omega
        · rename_i h1 h2
          refine ⟨i + 1, ⟨by omega, fun j hj => ?_⟩, by omega, rfl⟩
          by_cases hji : j = i
          · subst hji; exact h2
          · exact hinv j (by omega)
        · have hr : ∀ x ∈ c.roots, litOk x c.vars := (all_getD 0).2 fun j hj => hinv j (by omega)
          have hv : c.Valid := ⟨by omega, by omega, by omega, by omega, by omega, hg, fun x hx => hr x (List.mem_append.2 (.inl hx)), fun x hx => hr x (List.mem_append.2 (.inr hx))⟩
          simp [hv]
theorem Try.c_alive : Pure Try.prog 22 [] (.bool true) := by
  refine pure_of' (E := Try.env 0) Try.tok rfl 1000 Try.func22 rfl rfl Try.ntmps22 (by simp) fun ok => ?_
  simp only [go_sem, Nat.reduceBEq, Nat.reduceLT, Nat.reduceLeDiff, Nat.reduceEqDiff, Nat.reduceAdd, Nat.reduceSub, Nat.reduceMul, ↓reduceIte, Int.reduceLE, Int.reduceLT, Int.reduceNeg, Int.reduceToNat, Int.reduceAdd, Int.reduceSub, Int.reduceMul, reduceCtorEq, Try.results22]
  refine pcall_fz ((Try.c_CircuitValid Circ.zero).wk (by simp [go_sem, Circ.zero])) ?_
  simp only [go_sem, Nat.reduceBEq, Nat.reduceLT, Nat.reduceLeDiff, Nat.reduceEqDiff, Nat.reduceAdd, Nat.reduceSub, Nat.reduceMul, ↓reduceIte, Int.reduceLE, Int.reduceLT, Int.reduceNeg, Int.reduceToNat, Int.reduceAdd, Int.reduceSub, Int.reduceMul, reduceCtorEq, Try.results22]
  simp [Circ.zero_valid]
def bitsOf (x : Int) (n : Nat) : List Bool := (List.range n).map fun i => decide (x / 2 ^ i % 2 = 1)
theorem Try.c_bits (x n : Int) (hx : 0 ≤ x) (hn : n ≤ 60) : Pure Try.prog 24 [dI x, dI n] (dBs (bitsOf x n.toNat)) := by
  refine pure_of' (E := Try.env 0) Try.tok rfl 1000 Try.func24 rfl rfl Try.ntmps24 (by simp) fun ok => ?_
  simp only [go_sem, Nat.reduceBEq, Nat.reduceLT, Nat.reduceLeDiff, Nat.reduceEqDiff, Nat.reduceAdd, Nat.reduceSub, Nat.reduceMul, ↓reduceIte, Int.reduceLE, Int.reduceLT, Int.reduceNeg, Int.reduceToNat, Int.reduceAdd, Int.reduceSub, Int.reduceMul, reduceCtorEq] at ok
  simp only [go_sem, Nat.reduceBEq, Nat.reduceLT, Nat.reduceLeDiff, Nat.reduceEqDiff, Nat.reduceAdd, Nat.reduceSub, Nat.reduceMul, ↓reduceIte, Int.reduceLE, Int.reduceLT, Int.reduceNeg, Int.reduceToNat, Int.reduceAdd, Int.reduceSub, Int.reduceMul, reduceCtorEq, Try.results24]
  refine loop_of (E := Try.env 0) Try.tok (σ := Nat) (fun i => [(0, .d (dI x)), (1, .d (dI n)), (5, .sl 0 i 1 0 i), (6, .d (dI i))]) (fun i => [.row i 1 true ((bitsOf x i).map D.bool)])
    (fun i => i ≤ n.toNat) (fun i => n.toNat - i) [] 1000 1000 ?_ ?_ ?_
  · simp only [go_sem, Nat.reduceBEq, Nat.reduceLT, Nat.reduceLeDiff, Nat.reduceEqDiff, Nat.reduceAdd, Nat.reduceSub, Nat.reduceMul, ↓reduceIte, Int.reduceLE, Int.reduceLT, Int.reduceNeg, Int.reduceToNat, Int.reduceAdd, Int.reduceSub, Int.reduceMul, reduceCtorEq]
  · simp only [go_sem, Nat.reduceBEq, Nat.reduceLT, Nat.reduceLeDiff, Nat.reduceEqDiff, Nat.reduceAdd, Nat.reduceSub, Nat.reduceMul, ↓reduceIte, Int.reduceLE, Int.reduceLT, Int.reduceNeg, Int.reduceToNat, Int.reduceAdd, Int.reduceSub, Int.reduceMul, reduceCtorEq]
    exact ⟨0, by simp [bitsOf]⟩
  · intro i hi
    simp only [go_sem, Nat.reduceBEq, Nat.reduceLT, Nat.reduceLeDiff, Nat.reduceEqDiff, Nat.reduceAdd, Nat.reduceSub, Nat.reduceMul, ↓reduceIte, Int.reduceLE, Int.reduceLT, Int.reduceNeg, Int.reduceToNat, Int.reduceAdd, Int.reduceSub, Int.reduceMul, reduceCtorEq, Try.results24]
    have hl : (bitsOf x i).length = i := by simp [bitsOf]
    repeat' first | assumption | (simp (disch := first | assumption | omega | (simp; omega)) only [getD_bss, getD_iss, List.take_of_length_le]; try simp only [go_sem, Nat.reduceBEq, Nat.reduceLT, Nat.reduceLeDiff, Nat.reduceEqDiff, Nat.reduceAdd, Nat.reduceSub, Nat.reduceMul, ↓reduceIte, Int.reduceLE, Int.reduceLT, Int.reduceNeg, Int.reduceToNat, Int.reduceAdd, Int.reduceSub, Int.reduceMul, reduceCtorEq, Try.results24]) | (with_reducible refine And.intro ?_ ?_) | (with_reducible intro _) | (refine @Exists.intro I _ (I.d D.nil) ?_; simp only [go_sem, Nat.reduceBEq, Nat.reduceLT, Nat.reduceLeDiff, Nat.reduceEqDiff, Nat.reduceAdd, Nat.reduceSub, Nat.reduceMul, ↓reduceIte, Int.reduceLE, Int.reduceLT, Int.reduceNeg, Int.reduceToNat, Int.reduceAdd, Int.reduceSub, Int.reduceMul, reduceCtorEq, Try.results24]) | ((with_reducible (show Region.lexB _ _ = true)); kernel_rfl) | ((try rw [inK_i64]); omega)
    · have : (2 ^ i : Int) = ((2 ^ i : Nat) : Int) := by simp
      rw [this]
      exact Int.ediv_nonneg hx (Int.natCast_nonneg _)
    · refine ⟨i + 1, by omega, by omega, rfl, rfl, ?_⟩
      simp [bitsOf, List.range_succ]
    · rw [show n.toNat = i by omega]
theorem Try.gray_half : ∀ k, k < 10 → ∀ i, i < 2 ^ k → (2 ^ (k + 1) - 1 - i) ^^^ ((2 ^ (k + 1) - 1 - i) / 2) = (i ^^^ (i / 2)) + 2 ^ k := by decide +kernel
theorem Try.gray_step : ∀ k, k < 11 → ∀ i, i < 2 ^ k → (i ^^^ (i / 2)) < 2 ^ k ∧ (0 < k → ((i ^^^ (i / 2)) ^^^ (((i + 1) % 2 ^ k) ^^^ (((i + 1) % 2 ^ k) / 2))) ≠ 0 ∧ ((i ^^^ (i / 2)) ^^^ (((i + 1) % 2 ^ k) ^^^ (((i + 1) % 2 ^ k) / 2))) &&& (((i ^^^ (i / 2)) ^^^ (((i + 1) % 2 ^ k) ^^^ (((i + 1) % 2 ^ k) / 2))) - 1) = 0) := by decide +kernel
def Try.ungray (x : Nat) : Nat := x ^^^ x / 2 ^^^ x / 4 ^^^ x / 8 ^^^ x / 16 ^^^ x / 32 ^^^ x / 64 ^^^ x / 128 ^^^ x / 256 ^^^ x / 512
theorem Try.gray_back : ∀ i, i < 1024 → Try.ungray (i ^^^ (i / 2)) = i := by decide +kernel
theorem Try.grayOrder_at {n : Int} (h : 0 ≤ n ∧ n ≤ 10) : (Try.grayOrder n).length = 2 ^ n.toNat ∧ ∀ i, i < 2 ^ n.toNat → (Try.grayOrder n).getD i 0 = ((i ^^^ (i / 2) : Nat) : Int) := by
  rw [Try.grayOrder, if_pos h]
  refine ⟨by simp [Try.gray], fun i hi => ?_⟩
  simp [Try.gray, List.getD, hi]
theorem Try.grayOrder_no {n : Int} (h : ¬ (0 ≤ n ∧ n ≤ 10)) : Try.grayOrder n = [] := by rw [Try.grayOrder, if_neg h]
theorem Try.c_FnGrayNeighbours (code : List Int) : Pure Try.prog 5 [dUs code] (.bool true) := by
  refine pure_of' (E := Try.env 0) Try.tok rfl 1000 Try.func5 rfl rfl Try.ntmps5 (by simp) fun ok => ?_
  simp only [go_sem, Nat.reduceBEq, Nat.reduceLT, Nat.reduceLeDiff, Nat.reduceEqDiff, Nat.reduceAdd, Nat.reduceSub, Nat.reduceMul, ↓reduceIte, Int.reduceLE, Int.reduceLT, Int.reduceNeg, Int.reduceToNat, Int.reduceAdd, Int.reduceSub, Int.reduceMul, reduceCtorEq] at ok
  simp only [go_sem, Nat.reduceBEq, Nat.reduceLT, Nat.reduceLeDiff, Nat.reduceEqDiff, Nat.reduceAdd, Nat.reduceSub, Nat.reduceMul, ↓reduceIte, Int.reduceLE, Int.reduceLT, Int.reduceNeg, Int.reduceToNat, Int.reduceAdd, Int.reduceSub, Int.reduceMul, reduceCtorEq, Try.results5]
  refine fun h0 => pcallE_fz (Try.c_DrawGrayOrder code) ?_
  rintro x ⟨n, rfl, h1, h2⟩
  simp only [go_sem, Nat.reduceBEq, Nat.reduceLT, Nat.reduceLeDiff, Nat.reduceEqDiff, Nat.reduceAdd, Nat.reduceSub, Nat.reduceMul, ↓reduceIte, Int.reduceLE, Int.reduceLT, Int.reduceNeg, Int.reduceToNat, Int.reduceAdd, Int.reduceSub, Int.reduceMul, reduceCtorEq, Try.results5]
  refine pcall_fz (Try.c_GrayOrder n) ?_
  simp only [go_sem, Nat.reduceBEq, Nat.reduceLT, Nat.reduceLeDiff, Nat.reduceEqDiff, Nat.reduceAdd, Nat.reduceSub, Nat.reduceMul, ↓reduceIte, Int.reduceLE, Int.reduceLT, Int.reduceNeg, Int.reduceToNat, Int.reduceAdd, Int.reduceSub, Int.reduceMul, reduceCtorEq, Try.results5]
  refine pcall_fz (Try.c_sGrayOrder n) ?_
  simp only [go_sem, Nat.reduceBEq, Nat.reduceLT, Nat.reduceLeDiff, Nat.reduceEqDiff, Nat.reduceAdd, Nat.reduceSub, Nat.reduceMul, ↓reduceIte, Int.reduceLE, Int.reduceLT, Int.reduceNeg, Int.reduceToNat, Int.reduceAdd, Int.reduceSub, Int.reduceMul, reduceCtorEq, Try.results5]
  refine pcall_fz (Try.c_sameInts _ _) ?_
  simp only [go_sem, Nat.reduceBEq, Nat.reduceLT, Nat.reduceLeDiff, Nat.reduceEqDiff, Nat.reduceAdd, Nat.reduceSub, Nat.reduceMul, ↓reduceIte, Int.reduceLE, Int.reduceLT, Int.reduceNeg, Int.reduceToNat, Int.reduceAdd, Int.reduceSub, Int.reduceMul, reduceCtorEq, Try.results5]
  repeat' first | assumption | (simp (disch := first | assumption | omega | (simp; omega)) only [getD_bss, getD_iss, List.take_of_length_le]; try simp only [go_sem, Nat.reduceBEq, Nat.reduceLT, Nat.reduceLeDiff, Nat.reduceEqDiff, Nat.reduceAdd, Nat.reduceSub, Nat.reduceMul, ↓reduceIte, Int.reduceLE, Int.reduceLT, Int.reduceNeg, Int.reduceToNat, Int.reduceAdd, Int.reduceSub, Int.reduceMul, reduceCtorEq, Try.results5]) | (with_reducible refine And.intro ?_ ?_) | (with_reducible intro _) | (refine pcall_fz Try.c_alive ?_; simp only [go_sem, Nat.reduceBEq, Nat.reduceLT, Nat.reduceLeDiff, Nat.reduceEqDiff, Nat.reduceAdd, Nat.reduceSub, Nat.reduceMul, ↓reduceIte, Int.reduceLE, Int.reduceLT, Int.reduceNeg, Int.reduceToNat, Int.reduceAdd, Int.reduceSub, Int.reduceMul, reduceCtorEq, Try.results5]) | (refine pcall_fz (Try.c_GrayOrder _) ?_; simp only [go_sem, Nat.reduceBEq, Nat.reduceLT, Nat.reduceLeDiff, Nat.reduceEqDiff, Nat.reduceAdd, Nat.reduceSub, Nat.reduceMul, ↓reduceIte, Int.reduceLE, Int.reduceLT, Int.reduceNeg, Int.reduceToNat, Int.reduceAdd, Int.reduceSub, Int.reduceMul, reduceCtorEq, Try.results5]) | (refine @Exists.intro I _ (I.d D.nil) ?_; simp only [go_sem, Nat.reduceBEq, Nat.reduceLT, Nat.reduceLeDiff, Nat.reduceEqDiff, Nat.reduceAdd, Nat.reduceSub, Nat.reduceMul, ↓reduceIte, Int.reduceLE, Int.reduceLT, Int.reduceNeg, Int.reduceToNat, Int.reduceAdd, Int.reduceSub, Int.reduceMul, reduceCtorEq, Try.results5]) | ((with_reducible (show Region.lexB _ _ = true)); kernel_rfl) | ((try rw [inK_i64]); omega)
  rename_i hn
  obtain ⟨k, hk, hk10⟩ : ∃ k : Nat, n = (k : Int) + 1 ∧ k < 10 := ⟨n.toNat - 1, by omega, by omega⟩
  have e1 : n.toNat = k + 1 := by omega
  have e2 : (n - 1).toNat = k := by omega
  obtain ⟨l1, g1⟩ := Try.grayOrder_at (n := n) (by omega)
  obtain ⟨l2, g2⟩ := Try.grayOrder_at (n := n - 1) (by omega)
  rw [e1] at l1 g1
  rw [e2] at l2 g2
  have hp : 2 ^ (k + 1) = 2 * 2 ^ k := by rw [Nat.pow_succ]; omega
  have hp2 : 2 ^ k ≤ 512 := by have := Nat.pow_le_pow_right (n := 2) (by omega) (show k ≤ 9 by omega); simpa using this
  refine loop_of (E := Try.env 0) Try.tok (σ := Nat) (fun i => [(4, .d (dIs (Try.grayOrder n))), (5, .d (dIs (Try.grayOrder (n - 1)))), (6, .d (dI i))]) (fun _ => []) (fun i => i ≤ 2 ^ k) (fun i => 2 ^ k - i) [] 1000 1000 ?_ ?_ ?_
  · simp only [go_sem, Nat.reduceBEq, Nat.reduceLT, Nat.reduceLeDiff, Nat.reduceEqDiff, Nat.reduceAdd, Nat.reduceSub, Nat.reduceMul, ↓reduceIte, Int.reduceLE, Int.reduceLT, Int.reduceNeg, Int.reduceToNat, Int.reduceAdd, Int.reduceSub, Int.reduceMul, reduceCtorEq]
  · simp only [go_sem, Nat.reduceBEq, Nat.reduceLT, Nat.reduceLeDiff, Nat.reduceEqDiff, Nat.reduceAdd, Nat.reduceSub, Nat.reduceMul, ↓reduceIte, Int.reduceLE, Int.reduceLT, Int.reduceNeg, Int.reduceToNat, Int.reduceAdd, Int.reduceSub, Int.reduceMul, reduceCtorEq]
    exact ⟨0, by omega, rfl⟩
  · intro i hi
    simp only [go_sem, Nat.reduceBEq, Nat.reduceLT, Nat.reduceLeDiff, Nat.reduceEqDiff, Nat.reduceAdd, Nat.reduceSub, Nat.reduceMul, ↓reduceIte, Int.reduceLE, Int.reduceLT, Int.reduceNeg, Int.reduceToNat, Int.reduceAdd, Int.reduceSub, Int.reduceMul, reduceCtorEq, Try.results5]
    repeat' first | assumption | (simp (disch := first | assumption | omega | (simp; omega)) only [getD_bss, getD_iss, List.take_of_length_le]; try simp only [go_sem, Nat.reduceBEq, Nat.reduceLT, Nat.reduceLeDiff, Nat.reduceEqDiff, Nat.reduceAdd, Nat.reduceSub, Nat.reduceMul, ↓reduceIte, Int.reduceLE, Int.reduceLT, Int.reduceNeg, Int.reduceToNat, Int.reduceAdd, Int.reduceSub, Int.reduceMul, reduceCtorEq, Try.results5]) | (with_reducible refine And.intro ?_ ?_) | (with_reducible intro _) | (refine @Exists.intro I _ (I.d D.nil) ?_; simp only [go_sem, Nat.reduceBEq, Nat.reduceLT, Nat.reduceLeDiff, Nat.reduceEqDiff, Nat.reduceAdd, Nat.reduceSub, Nat.reduceMul, ↓reduceIte, Int.reduceLE, Int.reduceLT, Int.reduceNeg, Int.reduceToNat, Int.reduceAdd, Int.reduceSub, Int.reduceMul, reduceCtorEq, Try.results5]) | ((with_reducible (show Region.lexB _ _ = true)); kernel_rfl) | ((try rw [inK_i64]); omega)
    · rw [g2 i (by omega), inK_i64]
      have := (Try.gray_step k (by omega) i (by omega)).1
      omega
    · rename_i h
      have q1 := g1 i (by omega)
      have q2 := g2 i (by omega)
      have q3 := g1 (2 ^ (k + 1) - 1 - i) (by omega)
      rw [Try.gray_half k hk10 i (by omega)] at q3
      have q4 : (((Try.grayOrder n).length : Int) - 1 - (i : Int)).toNat = 2 ^ (k + 1) - 1 - i := by omega
      rw [q4, q1, q2, q3, l2] at h
      omega
    · exact ⟨i + 1, by omega, by omega, rfl⟩
theorem Try.c_FnGrayOrder (code : List Int) : Pure Try.prog 6 [dUs code] (.bool true) := by
  refine pure_of' (E := Try.env 0) Try.tok rfl 1000 Try.func6 rfl rfl Try.ntmps6 (by simp) fun ok => ?_
  simp only [go_sem, Nat.reduceBEq, Nat.reduceLT, Nat.reduceLeDiff, Nat.reduceEqDiff, Nat.reduceAdd, Nat.reduceSub, Nat.reduceMul, ↓reduceIte, Int.reduceLE, Int.reduceLT, Int.reduceNeg, Int.reduceToNat, Int.reduceAdd, Int.reduceSub, Int.reduceMul, reduceCtorEq] at ok
  simp only [go_sem, Nat.reduceBEq, Nat.reduceLT, Nat.reduceLeDiff, Nat.reduceEqDiff, Nat.reduceAdd, Nat.reduceSub, Nat.reduceMul, ↓reduceIte, Int.reduceLE, Int.reduceLT, Int.reduceNeg, Int.reduceToNat, Int.reduceAdd, Int.reduceSub, Int.reduceMul, reduceCtorEq, Try.results6]
  refine fun h0 => pcallE_fz (Try.c_DrawGrayOrder code) ?_
  rintro x ⟨n, rfl, h1, h2⟩
  simp only [go_sem, Nat.reduceBEq, Nat.reduceLT, Nat.reduceLeDiff, Nat.reduceEqDiff, Nat.reduceAdd, Nat.reduceSub, Nat.reduceMul, ↓reduceIte, Int.reduceLE, Int.reduceLT, Int.reduceNeg, Int.reduceToNat, Int.reduceAdd, Int.reduceSub, Int.reduceMul, reduceCtorEq, Try.results6]
  refine pcall_fz (Try.c_GrayOrder n) ?_
  simp only [go_sem, Nat.reduceBEq, Nat.reduceLT, Nat.reduceLeDiff, Nat.reduceEqDiff, Nat.reduceAdd, Nat.reduceSub, Nat.reduceMul, ↓reduceIte, Int.reduceLE, Int.reduceLT, Int.reduceNeg, Int.reduceToNat, Int.reduceAdd, Int.reduceSub, Int.reduceMul, reduceCtorEq, Try.results6]
  refine pcall_fz (Try.c_sGrayOrder n) ?_
  simp only [go_sem, Nat.reduceBEq, Nat.reduceLT, Nat.reduceLeDiff, Nat.reduceEqDiff, Nat.reduceAdd, Nat.reduceSub, Nat.reduceMul, ↓reduceIte, Int.reduceLE, Int.reduceLT, Int.reduceNeg, Int.reduceToNat, Int.reduceAdd, Int.reduceSub, Int.reduceMul, reduceCtorEq, Try.results6]
  refine pcall_fz (Try.c_sameInts _ _) ?_
  simp only [go_sem, Nat.reduceBEq, Nat.reduceLT, Nat.reduceLeDiff, Nat.reduceEqDiff, Nat.reduceAdd, Nat.reduceSub, Nat.reduceMul, ↓reduceIte, Int.reduceLE, Int.reduceLT, Int.reduceNeg, Int.reduceToNat, Int.reduceAdd, Int.reduceSub, Int.reduceMul, reduceCtorEq, Try.results6]
  refine ⟨fun h => ?_, fun h => ?_⟩
  · repeat' first | assumption | (simp (disch := first | assumption | omega | (simp; omega)) only [getD_bss, getD_iss, List.take_of_length_le]; try simp only [go_sem, Nat.reduceBEq, Nat.reduceLT, Nat.reduceLeDiff, Nat.reduceEqDiff, Nat.reduceAdd, Nat.reduceSub, Nat.reduceMul, ↓reduceIte, Int.reduceLE, Int.reduceLT, Int.reduceNeg, Int.reduceToNat, Int.reduceAdd, Int.reduceSub, Int.reduceMul, reduceCtorEq, Try.results6]) | (with_reducible refine And.intro ?_ ?_) | (with_reducible intro _) | (refine pcall_fz Try.c_alive ?_; simp only [go_sem, Nat.reduceBEq, Nat.reduceLT, Nat.reduceLeDiff, Nat.reduceEqDiff, Nat.reduceAdd, Nat.reduceSub, Nat.reduceMul, ↓reduceIte, Int.reduceLE, Int.reduceLT, Int.reduceNeg, Int.reduceToNat, Int.reduceAdd, Int.reduceSub, Int.reduceMul, reduceCtorEq, Try.results6]) | (refine gcall_of (fun _ => Try.c_alive) ?_; simp only [go_sem, Nat.reduceBEq, Nat.reduceLT, Nat.reduceLeDiff, Nat.reduceEqDiff, Nat.reduceAdd, Nat.reduceSub, Nat.reduceMul, ↓reduceIte, Int.reduceLE, Int.reduceLT, Int.reduceNeg, Int.reduceToNat, Int.reduceAdd, Int.reduceSub, Int.reduceMul, reduceCtorEq, Try.results6]) | (refine @Exists.intro I _ (I.d D.nil) ?_; simp only [go_sem, Nat.reduceBEq, Nat.reduceLT, Nat.reduceLeDiff, Nat.reduceEqDiff, Nat.reduceAdd, Nat.reduceSub, Nat.reduceMul, ↓reduceIte, Int.reduceLE, Int.reduceLT, Int.reduceNeg, Int.reduceToNat, Int.reduceAdd, Int.reduceSub, Int.reduceMul, reduceCtorEq, Try.results6]) | ((with_reducible (show Region.lexB _ _ = true)); kernel_rfl) | ((try rw [inK_i64]); omega)
    rw [Try.grayOrder_no (by omega)]
    rfl
  obtain ⟨m, hm, hp, hq⟩ := Try.pow_le (n := n) (by omega)
  obtain ⟨l1, g1⟩ := Try.grayOrder_at (n := n) (by omega)
  rw [← hm] at l1 g1
  rw [hp]
  have hgs := Try.gray_step n.toNat (by omega)
  rw [← hm] at hgs
  simp only [go_sem, Nat.reduceBEq, Nat.reduceLT, Nat.reduceLeDiff, Nat.reduceEqDiff, Nat.reduceAdd, Nat.reduceSub, Nat.reduceMul, ↓reduceIte, Int.reduceLE, Int.reduceLT, Int.reduceNeg, Int.reduceToNat, Int.reduceAdd, Int.reduceSub, Int.reduceMul, reduceCtorEq]
  repeat' first | assumption | (simp (disch := first | assumption | omega | (simp; omega)) only [getD_bss, getD_iss, List.take_of_length_le]; try simp only [go_sem, Nat.reduceBEq, Nat.reduceLT, Nat.reduceLeDiff, Nat.reduceEqDiff, Nat.reduceAdd, Nat.reduceSub, Nat.reduceMul, ↓reduceIte, Int.reduceLE, Int.reduceLT, Int.reduceNeg, Int.reduceToNat, Int.reduceAdd, Int.reduceSub, Int.reduceMul, reduceCtorEq, Try.results6]) | (with_reducible refine And.intro ?_ ?_) | (with_reducible intro _) | (refine @Exists.intro I _ (I.d D.nil) ?_; simp only [go_sem, Nat.reduceBEq, Nat.reduceLT, Nat.reduceLeDiff, Nat.reduceEqDiff, Nat.reduceAdd, Nat.reduceSub, Nat.reduceMul, ↓reduceIte, Int.reduceLE, Int.reduceLT, Int.reduceNeg, Int.reduceToNat, Int.reduceAdd, Int.reduceSub, Int.reduceMul, reduceCtorEq, Try.results6]) | ((with_reducible (show Region.lexB _ _ = true)); kernel_rfl) | ((try rw [inK_i64]); omega)
  refine loop_of (E := Try.env 0) Try.tok (σ := Nat × List Bool) (fun s => [(3, .d (dI n)), (4, .d (dIs (Try.grayOrder n))), (5, .sl 0 0 1 0 m), (6, .d (dI s.1))]) (fun s => [.row 0 1 true (s.2.map D.bool)])
    (fun s => s.1 ≤ m ∧ s.2.length = m ∧ ∀ x, x < m → s.2.getD x false = true → ∃ j, j < s.1 ∧ (j ^^^ (j / 2)) = x) (fun s => m - s.1) [] 1000 1000 ?_ ?_ ?_
  · simp only [go_sem, Nat.reduceBEq, Nat.reduceLT, Nat.reduceLeDiff, Nat.reduceEqDiff, Nat.reduceAdd, Nat.reduceSub, Nat.reduceMul, ↓reduceIte, Int.reduceLE, Int.reduceLT, Int.reduceNeg, Int.reduceToNat, Int.reduceAdd, Int.reduceSub, Int.reduceMul, reduceCtorEq]
  · simp only [go_sem, Nat.reduceBEq, Nat.reduceLT, Nat.reduceLeDiff, Nat.reduceEqDiff, Nat.reduceAdd, Nat.reduceSub, Nat.reduceMul, ↓reduceIte, Int.reduceLE, Int.reduceLT, Int.reduceNeg, Int.reduceToNat, Int.reduceAdd, Int.reduceSub, Int.reduceMul, reduceCtorEq]
    refine ⟨(0, List.replicate m false), ⟨by omega, by simp, fun x hx h => ?_⟩, by simp⟩
    simp [List.getD, hx] at h
  · rintro ⟨i, seen⟩ ⟨hi, hs, hinv⟩
    simp only at hi hs hinv
    simp only [go_sem, Nat.reduceBEq, Nat.reduceLT, Nat.reduceLeDiff, Nat.reduceEqDiff, Nat.reduceAdd, Nat.reduceSub, Nat.reduceMul, ↓reduceIte, Int.reduceLE, Int.reduceLT, Int.reduceNeg, Int.reduceToNat, Int.reduceAdd, Int.reduceSub, Int.reduceMul, reduceCtorEq, Try.results6]
    by_cases hlt : i < m
    · have q1 := g1 i hlt
      have q2 := g1 ((i + 1) % m) (Nat.mod_lt _ (by omega))
      have e1 : (((i + 1 : Nat) : Int) % (m : Int)) = (((i + 1) % m : Nat) : Int) := by norm_cast
      obtain ⟨s1, s2⟩ := hgs i hlt
      obtain ⟨s3, _⟩ := hgs ((i + 1) % m) (Nat.mod_lt _ (by omega))
      have hback := Try.gray_back i (by omega)
      have hmod : (i + 1) % m < m := Nat.mod_lt _ (by omega)
      have hnn : (0 < n.toNat) = (0 < n) := by simp only [eq_iff_iff]; omega
      rw [hnn] at s2
      simp only [l1, e1, q1, q2, hp, Int.toNat_natCast]
      have hinj : ∀ j, j < i → (j ^^^ (j / 2)) ≠ (i ^^^ (i / 2)) := fun j hj h => by
        have := Try.gray_back j (by omega)
        rw [h, hback] at this
        omega
      generalize hx : i ^^^ i / 2 = x at *
      generalize (i + 1) % m ^^^ (i + 1) % m / 2 = y at *
      have hsub : 0 < n → (((x ^^^ y : Nat) : Int) - 1).toNat = (x ^^^ y) - 1 := fun h => by have := (s2 h).1; omega
      have hxy : x ^^^ y < 1024 := Nat.xor_lt_two_pow (n := 10) (by omega) (by omega)
      simp only [go_sem, Nat.reduceBEq, Nat.reduceLT, Nat.reduceLeDiff, Nat.reduceEqDiff, Nat.reduceAdd, Nat.reduceSub, Nat.reduceMul, ↓reduceIte, Int.reduceLE, Int.reduceLT, Int.reduceNeg, Int.reduceToNat, Int.reduceAdd, Int.reduceSub, Int.reduceMul, reduceCtorEq]
      repeat' first | assumption | (simp (disch := first | assumption | omega | (simp; omega)) only [getD_bss, getD_iss, List.take_of_length_le]; try simp only [go_sem, Nat.reduceBEq, Nat.reduceLT, Nat.reduceLeDiff, Nat.reduceEqDiff, Nat.reduceAdd, Nat.reduceSub, Nat.reduceMul, ↓reduceIte, Int.reduceLE, Int.reduceLT, Int.reduceNeg, Int.reduceToNat, Int.reduceAdd, Int.reduceSub, Int.reduceMul, reduceCtorEq, Try.results6]) | (with_reducible refine And.intro ?_ ?_) | (with_reducible intro _) | (refine @Exists.intro I _ (I.d D.nil) ?_; simp only [go_sem, Nat.reduceBEq, Nat.reduceLT, Nat.reduceLeDiff, Nat.reduceEqDiff, Nat.reduceAdd, Nat.reduceSub, Nat.reduceMul, ↓reduceIte, Int.reduceLE, Int.reduceLT, Int.reduceNeg, Int.reduceToNat, Int.reduceAdd, Int.reduceSub, Int.reduceMul, reduceCtorEq, Try.results6]) | ((with_reducible (show Region.lexB _ _ = true)); kernel_rfl) | ((try rw [inK_i64]); omega)
      · rename_i hh
        rcases hh with ((h5 | h5) | h5) | ⟨h5, h6⟩
        · exact h5
        · omega
        · obtain ⟨j, hj, hjx⟩ := hinv x s1 h5
          exact hinj j hj hjx
        · rw [hsub h5] at h6
          have := s2 h5
          omega
      · refine ⟨(i + 1, seen.set x true), ⟨by omega, by simpa using hs, fun z hz h5 => ?_⟩, by omega, rfl, rfl⟩
        by_cases hzx : z = x
        · subst hzx
          exact ⟨i, by omega, hx⟩
        · rw [lget_set_ne _ (Ne.symm hzx)] at h5
          obtain ⟨j, hj, hjz⟩ := hinv z hz h5
          exact ⟨j, by omega, hjz⟩
    · repeat' first | assumption | (simp (disch := first | assumption | omega | (simp; omega)) only [getD_bss, getD_iss, List.take_of_length_le]; try simp only [go_sem, Nat.reduceBEq, Nat.reduceLT, Nat.reduceLeDiff, Nat.reduceEqDiff, Nat.reduceAdd, Nat.reduceSub, Nat.reduceMul, ↓reduceIte, Int.reduceLE, Int.reduceLT, Int.reduceNeg, Int.reduceToNat, Int.reduceAdd, Int.reduceSub, Int.reduceMul, reduceCtorEq, Try.results6]) | (with_reducible refine And.intro ?_ ?_) | (with_reducible intro _) | (refine @Exists.intro I _ (I.d D.nil) ?_; simp only [go_sem, Nat.reduceBEq, Nat.reduceLT, Nat.reduceLeDiff, Nat.reduceEqDiff, Nat.reduceAdd, Nat.reduceSub, Nat.reduceMul, ↓reduceIte, Int.reduceLE, Int.reduceLT, Int.reduceNeg, Int.reduceToNat, Int.reduceAdd, Int.reduceSub, Int.reduceMul, reduceCtorEq, Try.results6]) | ((with_reducible (show Region.lexB _ _ = true)); kernel_rfl) | ((try rw [inK_i64]); omega)
theorem Try.c_FnDefectsValid (code : List Int) : Pure Try.prog 7 [dUs code] (.bool true) := by
  refine pure_of' (E := Try.env 0) Try.tok rfl 1000 Try.func7 rfl rfl Try.ntmps7 (by simp) fun ok => ?_
  simp only [go_sem, Nat.reduceBEq, Nat.reduceLT, Nat.reduceLeDiff, Nat.reduceEqDiff, Nat.reduceAdd, Nat.reduceSub, Nat.reduceMul, ↓reduceIte, Int.reduceLE, Int.reduceLT, Int.reduceNeg, Int.reduceToNat, Int.reduceAdd, Int.reduceSub, Int.reduceMul, reduceCtorEq] at ok
  simp only [go_sem, Nat.reduceBEq, Nat.reduceLT, Nat.reduceLeDiff, Nat.reduceEqDiff, Nat.reduceAdd, Nat.reduceSub, Nat.reduceMul, ↓reduceIte, Int.reduceLE, Int.reduceLT, Int.reduceNeg, Int.reduceToNat, Int.reduceAdd, Int.reduceSub, Int.reduceMul, reduceCtorEq, Try.results7]
  refine fun h0 => fcallE_of (Try.c_DrawDefectsValid code) ?_
  rintro x ⟨l, rfl, h1⟩
  have hd : Try.defectsValid [] = true := rfl
  have hd1 : Try.defectsValid l = true → Try.defectsValid (l.drop 1) = true := fun h => by
    simp only [Try.defectsValid, Bool.and_eq_true, decide_eq_true_eq, List.all_eq_true] at h ⊢
    exact ⟨by simp only [List.length_drop]; omega, fun x hx => h.2 x (List.mem_of_mem_drop hx)⟩
  simp only [go_sem, Nat.reduceBEq, Nat.reduceLT, Nat.reduceLeDiff, Nat.reduceEqDiff, Nat.reduceAdd, Nat.reduceSub, Nat.reduceMul, ↓reduceIte, Int.reduceLE, Int.reduceLT, Int.reduceNeg, Int.reduceToNat, Int.reduceAdd, Int.reduceSub, Int.reduceMul, reduceCtorEq, Try.results7]
  refine pcall_fz (Try.c_DefectsValid l) ?_
  simp only [go_sem, Nat.reduceBEq, Nat.reduceLT, Nat.reduceLeDiff, Nat.reduceEqDiff, Nat.reduceAdd, Nat.reduceSub, Nat.reduceMul, ↓reduceIte, Int.reduceLE, Int.reduceLT, Int.reduceNeg, Int.reduceToNat, Int.reduceAdd, Int.reduceSub, Int.reduceMul, reduceCtorEq, Try.results7]
  refine pcall_fz (Try.c_sDefectsValid l) ?_
  simp only [go_sem, Nat.reduceBEq, Nat.reduceLT, Nat.reduceLeDiff, Nat.reduceEqDiff, Nat.reduceAdd, Nat.reduceSub, Nat.reduceMul, ↓reduceIte, Int.reduceLE, Int.reduceLT, Int.reduceNeg, Int.reduceToNat, Int.reduceAdd, Int.reduceSub, Int.reduceMul, reduceCtorEq, Try.results7]
  repeat' first | assumption | (simp (disch := first | assumption | omega | (simp; omega)) only [getD_bss, getD_iss, List.take_of_length_le]; try simp only [go_sem, Nat.reduceBEq, Nat.reduceLT, Nat.reduceLeDiff, Nat.reduceEqDiff, Nat.reduceAdd, Nat.reduceSub, Nat.reduceMul, ↓reduceIte, Int.reduceLE, Int.reduceLT, Int.reduceNeg, Int.reduceToNat, Int.reduceAdd, Int.reduceSub, Int.reduceMul, reduceCtorEq, Try.results7]) | (with_reducible refine And.intro ?_ ?_) | (with_reducible intro _) | (refine gcall_of (fun _ => Try.c_DefectsValid _) ?_; simp only [go_sem, Nat.reduceBEq, Nat.reduceLT, Nat.reduceLeDiff, Nat.reduceEqDiff, Nat.reduceAdd, Nat.reduceSub, Nat.reduceMul, ↓reduceIte, Int.reduceLE, Int.reduceLT, Int.reduceNeg, Int.reduceToNat, Int.reduceAdd, Int.reduceSub, Int.reduceMul, reduceCtorEq, Try.results7]) | (refine gcall_of (fun _ => (Try.c_DefectsValid []).wk (by simp [go_sem])) ?_; simp only [go_sem, Nat.reduceBEq, Nat.reduceLT, Nat.reduceLeDiff, Nat.reduceEqDiff, Nat.reduceAdd, Nat.reduceSub, Nat.reduceMul, ↓reduceIte, Int.reduceLE, Int.reduceLT, Int.reduceNeg, Int.reduceToNat, Int.reduceAdd, Int.reduceSub, Int.reduceMul, reduceCtorEq, Try.results7]) | (refine gcall_of (fun _ => Try.c_alive) ?_; simp only [go_sem, Nat.reduceBEq, Nat.reduceLT, Nat.reduceLeDiff, Nat.reduceEqDiff, Nat.reduceAdd, Nat.reduceSub, Nat.reduceMul, ↓reduceIte, Int.reduceLE, Int.reduceLT, Int.reduceNeg, Int.reduceToNat, Int.reduceAdd, Int.reduceSub, Int.reduceMul, reduceCtorEq, Try.results7]) | (refine @Exists.intro I _ (I.d D.nil) ?_; simp only [go_sem, Nat.reduceBEq, Nat.reduceLT, Nat.reduceLeDiff, Nat.reduceEqDiff, Nat.reduceAdd, Nat.reduceSub, Nat.reduceMul, ↓reduceIte, Int.reduceLE, Int.reduceLT, Int.reduceNeg, Int.reduceToNat, Int.reduceAdd, Int.reduceSub, Int.reduceMul, reduceCtorEq, Try.results7]) | ((with_reducible (show Region.lexB _ _ = true)); kernel_rfl) | ((try rw [inK_i64]); omega)
  · simp_all
  · rw [List.take_of_length_le (by simp)]
    cases h : Try.defectsValid l with
    | false => exact .inl rfl
    | true =>
      have : l.length ≤ 12 := by simp only [Try.defectsValid, Bool.and_eq_true, decide_eq_true_eq] at h; exact h.1
      exact .inr ⟨by omega, .inr (hd1 h)⟩
end Go.Proofs
