/- Contracts: simulation, the program's. Conditions: none; lemmas. -/
import Derived.Test.YtaegedoalbnafaaC7
set_option maxRecDepth 20000
set_option linter.unusedVariables false
set_option linter.unusedSimpArgs false
namespace Go.Proofs
open Go Go.VL

theorem Try.c_litValue (v : List Bool) (l : Int) (h : 0 ≤ l ∧ l < 2 * v.length) : Pure Try.prog 128 [dBs v, dI l] (.bool (litV v l)) := by
  refine pure_of' (E := Try.env 0) Try.tok rfl 1000 Try.func128 rfl rfl Try.ntmps128 (by simp) fun ok => ?_
  simp only [go_sem, Nat.reduceBEq, Nat.reduceLT, Nat.reduceLeDiff, Nat.reduceEqDiff, Nat.reduceAdd, Nat.reduceSub, Nat.reduceMul, ↓reduceIte, Int.reduceLE, Int.reduceLT, Int.reduceNeg, Int.reduceToNat, Int.reduceAdd, Int.reduceSub, Int.reduceMul, reduceCtorEq] at ok
  simp only [go_sem, Nat.reduceBEq, Nat.reduceLT, Nat.reduceLeDiff, Nat.reduceEqDiff, Nat.reduceAdd, Nat.reduceSub, Nat.reduceMul, ↓reduceIte, Int.reduceLE, Int.reduceLT, Int.reduceNeg, Int.reduceToNat, Int.reduceAdd, Int.reduceSub, Int.reduceMul, reduceCtorEq, Try.results128]
  repeat' first | assumption | (simp (disch := first | assumption | omega | (simp; done) | (simp; omega)) only [getD_bss, getD_iss, List.take_of_length_le, remV_pos]; try simp only [go_sem, Nat.reduceBEq, Nat.reduceLT, Nat.reduceLeDiff, Nat.reduceEqDiff, Nat.reduceAdd, Nat.reduceSub, Nat.reduceMul, ↓reduceIte, Int.reduceLE, Int.reduceLT, Int.reduceNeg, Int.reduceToNat, Int.reduceAdd, Int.reduceSub, Int.reduceMul, reduceCtorEq, Try.results128]) | (with_reducible refine And.intro ?_ ?_) | (with_reducible intro _) | (refine @Exists.intro I _ (I.d D.nil) ?_; simp only [go_sem, Nat.reduceBEq, Nat.reduceLT, Nat.reduceLeDiff, Nat.reduceEqDiff, Nat.reduceAdd, Nat.reduceSub, Nat.reduceMul, ↓reduceIte, Int.reduceLE, Int.reduceLT, Int.reduceNeg, Int.reduceToNat, Int.reduceAdd, Int.reduceSub, Int.reduceMul, reduceCtorEq, Try.results128]) | ((with_reducible (show Region.lexB _ _ = true)); kernel_rfl) | ((try rw [inK_i64]); omega)
  simp only [land1 h.1]
  rfl
theorem Try.c_litValues (v : List Bool) (ls : List Int) (h : ∀ l ∈ ls, 0 ≤ l ∧ l < 2 * v.length) (hl : ls.length ≤ 1000000) : Pure Try.prog 93 [dBs v, dIs ls] (dBs (litVs v ls)) := by
  refine pure_of' (E := Try.env 0) Try.tok rfl 1000 Try.func93 rfl rfl Try.ntmps93 (by simp) fun ok => ?_
  simp only [go_sem, Nat.reduceBEq, Nat.reduceLT, Nat.reduceLeDiff, Nat.reduceEqDiff, Nat.reduceAdd, Nat.reduceSub, Nat.reduceMul, ↓reduceIte, Int.reduceLE, Int.reduceLT, Int.reduceNeg, Int.reduceToNat, Int.reduceAdd, Int.reduceSub, Int.reduceMul, reduceCtorEq] at ok
  simp only [go_sem, Nat.reduceBEq, Nat.reduceLT, Nat.reduceLeDiff, Nat.reduceEqDiff, Nat.reduceAdd, Nat.reduceSub, Nat.reduceMul, ↓reduceIte, Int.reduceLE, Int.reduceLT, Int.reduceNeg, Int.reduceToNat, Int.reduceAdd, Int.reduceSub, Int.reduceMul, reduceCtorEq, Try.results93]
  repeat' first | assumption | (simp (disch := first | assumption | omega | (simp; done) | (simp; omega)) only [getD_bss, getD_iss, List.take_of_length_le, remV_pos]; try simp only [go_sem, Nat.reduceBEq, Nat.reduceLT, Nat.reduceLeDiff, Nat.reduceEqDiff, Nat.reduceAdd, Nat.reduceSub, Nat.reduceMul, ↓reduceIte, Int.reduceLE, Int.reduceLT, Int.reduceNeg, Int.reduceToNat, Int.reduceAdd, Int.reduceSub, Int.reduceMul, reduceCtorEq, Try.results93]) | (with_reducible refine And.intro ?_ ?_) | (with_reducible intro _) | (refine @Exists.intro I _ (I.d D.nil) ?_; simp only [go_sem, Nat.reduceBEq, Nat.reduceLT, Nat.reduceLeDiff, Nat.reduceEqDiff, Nat.reduceAdd, Nat.reduceSub, Nat.reduceMul, ↓reduceIte, Int.reduceLE, Int.reduceLT, Int.reduceNeg, Int.reduceToNat, Int.reduceAdd, Int.reduceSub, Int.reduceMul, reduceCtorEq, Try.results93]) | ((with_reducible (show Region.lexB _ _ = true)); kernel_rfl) | ((try rw [inK_i64]); omega)
  refine loop_of (E := Try.env 0) Try.tok (σ := Nat) (fun i => [(0, .d (dBs v)), (5, .sl 0 i 1 0 i), (11, .d (dIs ls)), (12, .d (dI ls.length)), (13, .d (dI i))]) (fun i => [.row i 1 true ((litVs v (ls.take i)).map D.bool)]) (fun i => i ≤ ls.length) (fun i => ls.length - i) [] 1000 1000 ?_ ?_ ?_
  · simp only [go_sem, Nat.reduceBEq, Nat.reduceLT, Nat.reduceLeDiff, Nat.reduceEqDiff, Nat.reduceAdd, Nat.reduceSub, Nat.reduceMul, ↓reduceIte, Int.reduceLE, Int.reduceLT, Int.reduceNeg, Int.reduceToNat, Int.reduceAdd, Int.reduceSub, Int.reduceMul, reduceCtorEq]
  · simp only [go_sem, Nat.reduceBEq, Nat.reduceLT, Nat.reduceLeDiff, Nat.reduceEqDiff, Nat.reduceAdd, Nat.reduceSub, Nat.reduceMul, ↓reduceIte, Int.reduceLE, Int.reduceLT, Int.reduceNeg, Int.reduceToNat, Int.reduceAdd, Int.reduceSub, Int.reduceMul, reduceCtorEq]
    exact ⟨0, by simp [litVs]⟩
  · intro i hi
    simp only [go_sem, Nat.reduceBEq, Nat.reduceLT, Nat.reduceLeDiff, Nat.reduceEqDiff, Nat.reduceAdd, Nat.reduceSub, Nat.reduceMul, ↓reduceIte, Int.reduceLE, Int.reduceLT, Int.reduceNeg, Int.reduceToNat, Int.reduceAdd, Int.reduceSub, Int.reduceMul, reduceCtorEq, Try.results93]
    have hl2 : (litVs v (ls.take i)).length = i := by simp [litVs]; omega
    by_cases hlt : i < ls.length
    · have hx := h (ls.getD i 0) (getD_mem' hlt)
      repeat' first | assumption | (simp (disch := first | assumption | omega | (simp; done) | (simp; omega)) only [getD_bss, getD_iss, List.take_of_length_le, remV_pos]; try simp only [go_sem, Nat.reduceBEq, Nat.reduceLT, Nat.reduceLeDiff, Nat.reduceEqDiff, Nat.reduceAdd, Nat.reduceSub, Nat.reduceMul, ↓reduceIte, Int.reduceLE, Int.reduceLT, Int.reduceNeg, Int.reduceToNat, Int.reduceAdd, Int.reduceSub, Int.reduceMul, reduceCtorEq, Try.results93]) | (with_reducible refine And.intro ?_ ?_) | (with_reducible intro _) | (refine pcall_fz (Try.c_litValue v _ hx) ?_; simp only [go_sem, Nat.reduceBEq, Nat.reduceLT, Nat.reduceLeDiff, Nat.reduceEqDiff, Nat.reduceAdd, Nat.reduceSub, Nat.reduceMul, ↓reduceIte, Int.reduceLE, Int.reduceLT, Int.reduceNeg, Int.reduceToNat, Int.reduceAdd, Int.reduceSub, Int.reduceMul, reduceCtorEq, Try.results93]) | (refine @Exists.intro I _ (I.d D.nil) ?_; simp only [go_sem, Nat.reduceBEq, Nat.reduceLT, Nat.reduceLeDiff, Nat.reduceEqDiff, Nat.reduceAdd, Nat.reduceSub, Nat.reduceMul, ↓reduceIte, Int.reduceLE, Int.reduceLT, Int.reduceNeg, Int.reduceToNat, Int.reduceAdd, Int.reduceSub, Int.reduceMul, reduceCtorEq, Try.results93]) | ((with_reducible (show Region.lexB _ _ = true)); kernel_rfl) | ((try rw [inK_i64]); omega)
      refine ⟨i + 1, by omega, by omega, rfl, rfl, ?_⟩
      rw [List.take_succ_eq_append_getElem hlt]
      simp only [litVs, List.map_append, List.map_cons, List.map_nil, List.getD, List.getElem?_eq_getElem hlt, Option.getD_some]
    · have := litVs_len (v := v) (ls := ls)
      repeat' first | assumption | (simp (disch := first | assumption | omega | (simp; done) | (simp; omega)) only [getD_bss, getD_iss, List.take_of_length_le, remV_pos]; try simp only [go_sem, Nat.reduceBEq, Nat.reduceLT, Nat.reduceLeDiff, Nat.reduceEqDiff, Nat.reduceAdd, Nat.reduceSub, Nat.reduceMul, ↓reduceIte, Int.reduceLE, Int.reduceLT, Int.reduceNeg, Int.reduceToNat, Int.reduceAdd, Int.reduceSub, Int.reduceMul, reduceCtorEq, Try.results93]) | (with_reducible refine And.intro ?_ ?_) | (with_reducible intro _) | (refine @Exists.intro I _ (I.d D.nil) ?_; simp only [go_sem, Nat.reduceBEq, Nat.reduceLT, Nat.reduceLeDiff, Nat.reduceEqDiff, Nat.reduceAdd, Nat.reduceSub, Nat.reduceMul, ↓reduceIte, Int.reduceLE, Int.reduceLT, Int.reduceNeg, Int.reduceToNat, Int.reduceAdd, Int.reduceSub, Int.reduceMul, reduceCtorEq, Try.results93]) | ((with_reducible (show Region.lexB _ _ = true)); kernel_rfl) | ((try rw [inK_i64]); omega)
def rowsOk (c : Circ) (rows : List (List Bool)) : Prop := c.Valid ∧ rows.length ≤ 40 ∧ ∀ r ∈ rows, (r.length : Int) = c.inputs
noncomputable instance (c : Circ) (rows : List (List Bool)) : Decidable (rowsOk c rows) := Classical.propDecidable _
theorem Try.c_rowsFit (c : Circ) (rows : List (List Bool)) : Pure Try.prog 76 [pC c, dBss rows] (.bool (decide (rowsOk c rows))) := by
  refine pure_of' (E := Try.env 0) Try.tok rfl 1000 Try.func76 rfl rfl Try.ntmps76 (by simp) fun ok => ?_
  simp only [go_sem, Nat.reduceBEq, Nat.reduceLT, Nat.reduceLeDiff, Nat.reduceEqDiff, Nat.reduceAdd, Nat.reduceSub, Nat.reduceMul, ↓reduceIte, Int.reduceLE, Int.reduceLT, Int.reduceNeg, Int.reduceToNat, Int.reduceAdd, Int.reduceSub, Int.reduceMul, reduceCtorEq] at ok
  simp only [go_sem, Nat.reduceBEq, Nat.reduceLT, Nat.reduceLeDiff, Nat.reduceEqDiff, Nat.reduceAdd, Nat.reduceSub, Nat.reduceMul, ↓reduceIte, Int.reduceLE, Int.reduceLT, Int.reduceNeg, Int.reduceToNat, Int.reduceAdd, Int.reduceSub, Int.reduceMul, reduceCtorEq, Try.results76]
  repeat' first | assumption | (simp (disch := first | assumption | omega | (simp; done) | (simp; omega)) only [getD_bss, getD_iss, List.take_of_length_le, remV_pos]; try simp only [go_sem, Nat.reduceBEq, Nat.reduceLT, Nat.reduceLeDiff, Nat.reduceEqDiff, Nat.reduceAdd, Nat.reduceSub, Nat.reduceMul, ↓reduceIte, Int.reduceLE, Int.reduceLT, Int.reduceNeg, Int.reduceToNat, Int.reduceAdd, Int.reduceSub, Int.reduceMul, reduceCtorEq, Try.results76]) | (with_reducible refine And.intro ?_ ?_) | (with_reducible intro _) | (refine pcall_fz (Try.c_CircuitValid c) ?_; simp only [go_sem, Nat.reduceBEq, Nat.reduceLT, Nat.reduceLeDiff, Nat.reduceEqDiff, Nat.reduceAdd, Nat.reduceSub, Nat.reduceMul, ↓reduceIte, Int.reduceLE, Int.reduceLT, Int.reduceNeg, Int.reduceToNat, Int.reduceAdd, Int.reduceSub, Int.reduceMul, reduceCtorEq, Try.results76]) | (refine @Exists.intro I _ (I.d D.nil) ?_; simp only [go_sem, Nat.reduceBEq, Nat.reduceLT, Nat.reduceLeDiff, Nat.reduceEqDiff, Nat.reduceAdd, Nat.reduceSub, Nat.reduceMul, ↓reduceIte, Int.reduceLE, Int.reduceLT, Int.reduceNeg, Int.reduceToNat, Int.reduceAdd, Int.reduceSub, Int.reduceMul, reduceCtorEq, Try.results76]) | ((with_reducible (show Region.lexB _ _ = true)); kernel_rfl) | ((try rw [inK_i64]); omega)
  · rename_i h
    simp only [false_eq_decide_iff]
    rintro ⟨h1, h2, h3⟩
    rcases h with h | h
    · exact h h1
    · omega
  rename_i h
  refine loop_of (E := Try.env 0) Try.tok (σ := Nat) (fun i => [(0, .d (pC c)), (17, .d (dBss rows)), (18, .d (dI rows.length)), (19, .d (dI i))]) (fun _ => []) (fun i => i ≤ rows.length ∧ ∀ j, j < i → ((rows.getD j []).length : Int) = c.inputs) (fun i => rows.length - i) [] 1000 1000 ?_ ?_ ?_
  · simp only [go_sem, Nat.reduceBEq, Nat.reduceLT, Nat.reduceLeDiff, Nat.reduceEqDiff, Nat.reduceAdd, Nat.reduceSub, Nat.reduceMul, ↓reduceIte, Int.reduceLE, Int.reduceLT, Int.reduceNeg, Int.reduceToNat, Int.reduceAdd, Int.reduceSub, Int.reduceMul, reduceCtorEq]
  · simp only [go_sem, Nat.reduceBEq, Nat.reduceLT, Nat.reduceLeDiff, Nat.reduceEqDiff, Nat.reduceAdd, Nat.reduceSub, Nat.reduceMul, ↓reduceIte, Int.reduceLE, Int.reduceLT, Int.reduceNeg, Int.reduceToNat, Int.reduceAdd, Int.reduceSub, Int.reduceMul, reduceCtorEq]
    exact ⟨0, ⟨by omega, by omega⟩, rfl⟩
  · rintro i ⟨hi, hinv⟩
    simp only [go_sem, Nat.reduceBEq, Nat.reduceLT, Nat.reduceLeDiff, Nat.reduceEqDiff, Nat.reduceAdd, Nat.reduceSub, Nat.reduceMul, ↓reduceIte, Int.reduceLE, Int.reduceLT, Int.reduceNeg, Int.reduceToNat, Int.reduceAdd, Int.reduceSub, Int.reduceMul, reduceCtorEq, Try.results76]
    repeat' first | assumption | (simp (disch := first | assumption | omega | (simp; done) | (simp; omega)) only [getD_bss, getD_iss, List.take_of_length_le, remV_pos]; try simp only [go_sem, Nat.reduceBEq, Nat.reduceLT, Nat.reduceLeDiff, Nat.reduceEqDiff, Nat.reduceAdd, Nat.reduceSub, Nat.reduceMul, ↓reduceIte, Int.reduceLE, Int.reduceLT, Int.reduceNeg, Int.reduceToNat, Int.reduceAdd, Int.reduceSub, Int.reduceMul, reduceCtorEq, Try.results76]) | (with_reducible refine And.intro ?_ ?_) | (with_reducible intro _) | (refine @Exists.intro I _ (I.d D.nil) ?_; simp only [go_sem, Nat.reduceBEq, Nat.reduceLT, Nat.reduceLeDiff, Nat.reduceEqDiff, Nat.reduceAdd, Nat.reduceSub, Nat.reduceMul, ↓reduceIte, Int.reduceLE, Int.reduceLT, Int.reduceNeg, Int.reduceToNat, Int.reduceAdd, Int.reduceSub, Int.reduceMul, reduceCtorEq, Try.results76]) | ((with_reducible (show Region.lexB _ _ = true)); kernel_rfl) | ((try rw [inK_i64]); omega)
    · rename_i h1 h2
      simp only [false_eq_decide_iff]
      rintro ⟨_, _, h3⟩
      exact h2 (h3 _ (getD_mem' h1))
    · rename_i h1 h2
      refine ⟨i + 1, ⟨by omega, fun j hj => ?_⟩, by omega, rfl⟩
      by_cases hji : j = i
      · subst hji; exact h2
      · exact hinv j (by omega)
    · simp only [true_eq_decide_iff]
      exact ⟨h.1, by omega, (all_getD []).2 fun j hj => hinv j (by omega)⟩
theorem Try.c_evaluate (c : Circ) (hv : c.Valid) (st ins : List Bool) (h1 : st.length = c.next.length) (h2 : (ins.length : Int) = c.inputs) (b : Bool) :
    Pure Try.prog 121 [pC c, dBs st, dBs ins, dI (-1), dB b] (dBs (values c st ins)) := by
  refine pure_of' (E := Try.env 0) Try.tok rfl 1000 Try.func121 rfl rfl Try.ntmps121 (by simp) fun ok => ?_
  simp only [go_sem, Nat.reduceBEq, Nat.reduceLT, Nat.reduceLeDiff, Nat.reduceEqDiff, Nat.reduceAdd, Nat.reduceSub, Nat.reduceMul, ↓reduceIte, Int.reduceLE, Int.reduceLT, Int.reduceNeg, Int.reduceToNat, Int.reduceAdd, Int.reduceSub, Int.reduceMul, reduceCtorEq] at ok
  simp only [go_sem, Nat.reduceBEq, Nat.reduceLT, Nat.reduceLeDiff, Nat.reduceEqDiff, Nat.reduceAdd, Nat.reduceSub, Nat.reduceMul, ↓reduceIte, Int.reduceLE, Int.reduceLT, Int.reduceNeg, Int.reduceToNat, Int.reduceAdd, Int.reduceSub, Int.reduceMul, reduceCtorEq, Try.results121]
  have hb := hv.vars_bd
  have hf := hv.first_bd
  have hi0 := hv.i0
  have hi1 := hv.i1
  have hvv : c.vars = 1 + (ins.length : Int) + st.length + c.gates.length := by rw [h2, h1]; rfl
  have e0 : (1 + c.inputs).toNat = 1 + ins.length := by omega
  have e1 : c.vars.toNat = 1 + ins.length + st.length + c.gates.length := by omega
  repeat' first | assumption | (simp (disch := first | assumption | omega | (simp; done) | (simp; omega)) only [getD_bss, getD_iss, List.take_of_length_le, remV_pos]; try simp only [go_sem, Nat.reduceBEq, Nat.reduceLT, Nat.reduceLeDiff, Nat.reduceEqDiff, Nat.reduceAdd, Nat.reduceSub, Nat.reduceMul, ↓reduceIte, Int.reduceLE, Int.reduceLT, Int.reduceNeg, Int.reduceToNat, Int.reduceAdd, Int.reduceSub, Int.reduceMul, reduceCtorEq, Try.results121]) | (with_reducible refine And.intro ?_ ?_) | (with_reducible intro _) | (refine pcall_fz (Try.c_vars c (by omega)) ?_; simp only [go_sem, Nat.reduceBEq, Nat.reduceLT, Nat.reduceLeDiff, Nat.reduceEqDiff, Nat.reduceAdd, Nat.reduceSub, Nat.reduceMul, ↓reduceIte, Int.reduceLE, Int.reduceLT, Int.reduceNeg, Int.reduceToNat, Int.reduceAdd, Int.reduceSub, Int.reduceMul, reduceCtorEq, Try.results121]) | (refine @Exists.intro I _ (I.d D.nil) ?_; simp only [go_sem, Nat.reduceBEq, Nat.reduceLT, Nat.reduceLeDiff, Nat.reduceEqDiff, Nat.reduceAdd, Nat.reduceSub, Nat.reduceMul, ↓reduceIte, Int.reduceLE, Int.reduceLT, Int.reduceNeg, Int.reduceToNat, Int.reduceAdd, Int.reduceSub, Int.reduceMul, reduceCtorEq, Try.results121]) | ((with_reducible (show Region.lexB _ _ = true)); kernel_rfl) | ((try rw [inK_i64]); omega)
  · rw [splice_len (by simp; omega)]; simp; omega
  rw [e0, e1, splice_two false ins st _ (by omega), show 1 + ins.length + st.length + c.gates.length - (1 + ins.length + st.length) = c.gates.length by omega]
  refine loop_of (E := Try.env 0) Try.tok (σ := Nat) (fun i => [(0, .d (pC c)), (3, .d (dI (-1))), (11, .sl 0 0 1 0 (1 + ins.length + st.length + c.gates.length)), (40, .d (dPs c.gates)), (41, .d (dI c.gates.length)), (42, .d (dI i))]) (fun i => [.row 0 1 true ((evalN c st ins i ++ List.replicate (c.gates.length - i) false).map D.bool)]) (fun i => i ≤ c.gates.length) (fun i => c.gates.length - i) [] 1000 1000 ?_ ?_ ?_
  · simp only [go_sem, Nat.reduceBEq, Nat.reduceLT, Nat.reduceLeDiff, Nat.reduceEqDiff, Nat.reduceAdd, Nat.reduceSub, Nat.reduceMul, ↓reduceIte, Int.reduceLE, Int.reduceLT, Int.reduceNeg, Int.reduceToNat, Int.reduceAdd, Int.reduceSub, Int.reduceMul, reduceCtorEq]
  · simp only [go_sem, Nat.reduceBEq, Nat.reduceLT, Nat.reduceLeDiff, Nat.reduceEqDiff, Nat.reduceAdd, Nat.reduceSub, Nat.reduceMul, ↓reduceIte, Int.reduceLE, Int.reduceLT, Int.reduceNeg, Int.reduceToNat, Int.reduceAdd, Int.reduceSub, Int.reduceMul, reduceCtorEq]
    exact ⟨0, by simp [evalN_init]⟩
  · intro i hi
    have hln := evalN_len c st ins i
    by_cases hlt : i < c.gates.length
    · obtain ⟨g1, g2⟩ := hv.g i hlt
      unfold litOk at g1 g2
      have hfe : c.first = 1 + ins.length + st.length := by rw [Circ.first]; omega
      have q1 : litV (evalN c st ins i ++ List.replicate (c.gates.length - i) false) (c.gates.getD i (0, 0)).1 = litV (evalN c st ins i) (c.gates.getD i (0, 0)).1 := litV_app g1.1 (by omega)
      have q2 : litV (evalN c st ins i ++ List.replicate (c.gates.length - i) false) (c.gates.getD i (0, 0)).2 = litV (evalN c st ins i) (c.gates.getD i (0, 0)).2 := litV_app g2.1 (by omega)
      have hlen : (evalN c st ins i ++ List.replicate (c.gates.length - i) false).length = 1 + ins.length + st.length + c.gates.length := by simp; omega
      simp only [go_sem, Nat.reduceBEq, Nat.reduceLT, Nat.reduceLeDiff, Nat.reduceEqDiff, Nat.reduceAdd, Nat.reduceSub, Nat.reduceMul, ↓reduceIte, Int.reduceLE, Int.reduceLT, Int.reduceNeg, Int.reduceToNat, Int.reduceAdd, Int.reduceSub, Int.reduceMul, reduceCtorEq, Try.results121]
      repeat' first | assumption | (simp (disch := first | assumption | omega | (simp; done) | (simp; omega)) only [getD_bss, getD_iss, List.take_of_length_le, remV_pos]; try simp only [go_sem, Nat.reduceBEq, Nat.reduceLT, Nat.reduceLeDiff, Nat.reduceEqDiff, Nat.reduceAdd, Nat.reduceSub, Nat.reduceMul, ↓reduceIte, Int.reduceLE, Int.reduceLT, Int.reduceNeg, Int.reduceToNat, Int.reduceAdd, Int.reduceSub, Int.reduceMul, reduceCtorEq, Try.results121]) | (with_reducible refine And.intro ?_ ?_) | (with_reducible intro _) | (refine pcall_fz (Try.c_firstGate c (by omega)) ?_; simp only [go_sem, Nat.reduceBEq, Nat.reduceLT, Nat.reduceLeDiff, Nat.reduceEqDiff, Nat.reduceAdd, Nat.reduceSub, Nat.reduceMul, ↓reduceIte, Int.reduceLE, Int.reduceLT, Int.reduceNeg, Int.reduceToNat, Int.reduceAdd, Int.reduceSub, Int.reduceMul, reduceCtorEq, Try.results121]) | (refine pcall_fz (Try.c_litValue _ _ (by rw [hlen]; omega)) ?_; simp only [go_sem, Nat.reduceBEq, Nat.reduceLT, Nat.reduceLeDiff, Nat.reduceEqDiff, Nat.reduceAdd, Nat.reduceSub, Nat.reduceMul, ↓reduceIte, Int.reduceLE, Int.reduceLT, Int.reduceNeg, Int.reduceToNat, Int.reduceAdd, Int.reduceSub, Int.reduceMul, reduceCtorEq, Try.results121]) | (refine gcall_of (fun _ => Try.c_litValue _ _ (by rw [hlen]; omega)) ?_; simp only [go_sem, Nat.reduceBEq, Nat.reduceLT, Nat.reduceLeDiff, Nat.reduceEqDiff, Nat.reduceAdd, Nat.reduceSub, Nat.reduceMul, ↓reduceIte, Int.reduceLE, Int.reduceLT, Int.reduceNeg, Int.reduceToNat, Int.reduceAdd, Int.reduceSub, Int.reduceMul, reduceCtorEq, Try.results121]) | (refine @Exists.intro I _ (I.d D.nil) ?_; simp only [go_sem, Nat.reduceBEq, Nat.reduceLT, Nat.reduceLeDiff, Nat.reduceEqDiff, Nat.reduceAdd, Nat.reduceSub, Nat.reduceMul, ↓reduceIte, Int.reduceLE, Int.reduceLT, Int.reduceNeg, Int.reduceToNat, Int.reduceAdd, Int.reduceSub, Int.reduceMul, reduceCtorEq, Try.results121]) | ((with_reducible (show Region.lexB _ _ = true)); kernel_rfl) | ((try rw [inK_i64]); omega)
      refine ⟨i + 1, by omega, by omega, rfl, ?_⟩
      rw [q1, q2, show (c.first + (i : Int)).toNat = (evalN c st ins i).length by omega, set_app_replicate rfl (by omega), Nat.sub_sub]
      rfl
    · simp only [go_sem, Nat.reduceBEq, Nat.reduceLT, Nat.reduceLeDiff, Nat.reduceEqDiff, Nat.reduceAdd, Nat.reduceSub, Nat.reduceMul, ↓reduceIte, Int.reduceLE, Int.reduceLT, Int.reduceNeg, Int.reduceToNat, Int.reduceAdd, Int.reduceSub, Int.reduceMul, reduceCtorEq, Try.results121]
      repeat' first | assumption | (simp (disch := first | assumption | omega | (simp; done) | (simp; omega)) only [getD_bss, getD_iss, List.take_of_length_le, remV_pos]; try simp only [go_sem, Nat.reduceBEq, Nat.reduceLT, Nat.reduceLeDiff, Nat.reduceEqDiff, Nat.reduceAdd, Nat.reduceSub, Nat.reduceMul, ↓reduceIte, Int.reduceLE, Int.reduceLT, Int.reduceNeg, Int.reduceToNat, Int.reduceAdd, Int.reduceSub, Int.reduceMul, reduceCtorEq, Try.results121]) | (with_reducible refine And.intro ?_ ?_) | (with_reducible intro _) | (refine @Exists.intro I _ (I.d D.nil) ?_; simp only [go_sem, Nat.reduceBEq, Nat.reduceLT, Nat.reduceLeDiff, Nat.reduceEqDiff, Nat.reduceAdd, Nat.reduceSub, Nat.reduceMul, ↓reduceIte, Int.reduceLE, Int.reduceLT, Int.reduceNeg, Int.reduceToNat, Int.reduceAdd, Int.reduceSub, Int.reduceMul, reduceCtorEq, Try.results121]) | ((with_reducible (show Region.lexB _ _ = true)); kernel_rfl) | ((try rw [inK_i64]); omega)
      rw [values, show i = c.gates.length by omega, Nat.sub_self]
      simp
def stateAt (c : Circ) (rows : List (List Bool)) : Nat → List Bool
  | 0 => List.replicate c.next.length false
  | i + 1 => litVs (values c (stateAt c rows i) (rows.getD i [])) c.next
def valsAt (c : Circ) (rows : List (List Bool)) (i : Nat) : List Bool := values c (stateAt c rows i) (rows.getD i [])
end Go.Proofs
