/- Contracts: detected faults are visible through the scan chain. Conditions: none; lemmas. -/
import Derived.Test.YtaegedoalbnafaaC42
set_option maxRecDepth 20000
set_option linter.unusedVariables false
set_option linter.unusedSimpArgs false
namespace Go.Proofs
open Go Go.VL

/-- What stands behind the gates that are computed. -/
def restS (c : Circ) (v : Int) (b : Bool) (n i : Nat) : List Bool := (List.range (c.gates.length - i)).map fun (j : Nat) => if ((n + i + j : Nat) : Int) = v then b else false
theorem restS_cons {c : Circ} {v : Int} {b : Bool} {n i : Nat} (hi : i < c.gates.length) : restS c v b n i = (if ((n + i : Nat) : Int) = v then b else false) :: restS c v b n (i + 1) := by
  unfold restS
  obtain ⟨m, hm⟩ : ∃ m, c.gates.length - i = m + 1 := ⟨c.gates.length - i - 1, by omega⟩
  rw [hm, List.range_succ_eq_map, List.map_cons, List.map_map, show c.gates.length - (i + 1) = m by omega]
  congr 1
  refine List.map_congr_left fun j _ => ?_
  rw [Function.comp, show n + i + (j + 1) = n + (i + 1) + j by omega]
theorem restS_init {c : Circ} {v : Int} {b : Bool} {n : Nat} (hv : (n : Int) ≤ v ∧ v < (n : Int) + c.gates.length) {l : List Bool} (hl : l.length = n) : (l ++ List.replicate c.gates.length false).set v.toNat b = l ++ restS c v b n 0 := by
  rw [List.set_append_right _ _ (by omega)]
  congr 1
  refine List.ext_getElem (by simp [restS]) fun j h1 h2 => ?_
  have hj : j < c.gates.length := by simpa using h1
  simp only [restS, List.getElem_map, List.getElem_range, List.getElem_set, List.getElem_replicate]
  by_cases h : v.toNat - l.length = j
  · rw [if_pos h, if_pos (by omega)]
  · rw [if_neg h, if_neg (by omega)]
theorem Try.c_evaluateS (c : Circ) (hv : c.Valid) (st ins : List Bool) (h1 : st.length = c.next.length) (h2 : (ins.length : Int) = c.inputs) (v : Int) (hs : c.first ≤ v ∧ v < c.vars) (b : Bool) :
    Pure Try.prog 121 [pC c, dBs st, dBs ins, dI v, dB b] (dBs (valS c st ins v b)) := by
  refine pure_of' (E := Try.env 0) Try.tok rfl 1000 Try.func121 rfl rfl Try.ntmps121 (by simp) fun ok => ?_
  simp only [go_sem, Nat.reduceBEq, Nat.reduceLT, Nat.reduceLeDiff, Nat.reduceEqDiff, Nat.reduceAdd, Nat.reduceSub, Nat.reduceMul, ↓reduceIte, Int.reduceLE, Int.reduceLT, Int.reduceNeg, Int.reduceToNat, Int.reduceAdd, Int.reduceSub, Int.reduceMul, reduceCtorEq] at ok
  simp only [go_sem, Nat.reduceBEq, Nat.reduceLT, Nat.reduceLeDiff, Nat.reduceEqDiff, Nat.reduceAdd, Nat.reduceSub, Nat.reduceMul, ↓reduceIte, Int.reduceLE, Int.reduceLT, Int.reduceNeg, Int.reduceToNat, Int.reduceAdd, Int.reduceSub, Int.reduceMul, reduceCtorEq, Try.results121]
  have hb := hv.vars_bd
  have hf := hv.first_bd
  have hi0 := hv.i0
  have hi1 := hv.i1
  have hvv : c.vars = 1 + (ins.length : Int) + st.length + c.gates.length := by rw [h2, h1]; rfl
  have e0 : (1 + c.inputs).toNat = 1 + ins.length := by omega
  have e1 : c.vars.toNat = 1 + ins.length + st.length + c.gates.length := by omega
  repeat' first | assumption | (simp (disch := first | assumption | omega | (simp; done) | (simp; omega)) only [getD_bss, getD_iss, List.take_of_length_le, remV_pos]; try simp only [go_sem, Nat.reduceBEq, Nat.reduceLT, Nat.reduceLeDiff, Nat.reduceEqDiff, Nat.reduceAdd, Nat.reduceSub, Nat.reduceMul, ↓reduceIte, Int.reduceLE, Int.reduceLT, Int.reduceNeg, Int.reduceToNat, Int.reduceAdd, Int.reduceSub, Int.reduceMul, reduceCtorEq, Try.results121]) | (with_reducible refine And.intro ?_ ?_) | (with_reducible intro _) | (refine pcall_fz (Try.c_vars c (by omega)) ?_; simp only [go_sem, Nat.reduceBEq, Nat.reduceLT, Nat.reduceLeDiff, Nat.reduceEqDiff, Nat.reduceAdd, Nat.reduceSub, Nat.reduceMul, ↓reduceIte, Int.reduceLE, Int.reduceLT, Int.reduceNeg, Int.reduceToNat, Int.reduceAdd, Int.reduceSub, Int.reduceMul, reduceCtorEq, Try.results121]) | (refine @Exists.intro I _ (I.d D.nil) ?_; simp only [go_sem, Nat.reduceBEq, Nat.reduceLT, Nat.reduceLeDiff, Nat.reduceEqDiff, Nat.reduceAdd, Nat.reduceSub, Nat.reduceMul, ↓reduceIte, Int.reduceLE, Int.reduceLT, Int.reduceNeg, Int.reduceToNat, Int.reduceAdd, Int.reduceSub, Int.reduceMul, reduceCtorEq, Try.results121]) | ((with_reducible (show Region.lexB _ _ = true)); kernel_rfl) | ((try rw [inK_i64]); omega)
  have hfe0 : c.first = 1 + (ins.length : Int) + st.length := by rw [Circ.first]; omega
  · rw [splice_len (by simp; omega)]; simp; omega
  · rw [splice_len (by rw [splice_len (by simp; omega)]; simp; omega), splice_len (by simp; omega)]; simp; omega
  have hfe0 : c.first = 1 + (ins.length : Int) + st.length := by rw [Circ.first]; omega
  rw [e0, e1, splice_two false ins st _ (by omega), show 1 + ins.length + st.length + c.gates.length - (1 + ins.length + st.length) = c.gates.length by omega, restS_init (n := 1 + ins.length + st.length) (by omega) (by simp; omega)]
  refine loop_of (E := Try.env 0) Try.tok (σ := Nat) (fun i => [(0, .d (pC c)), (3, .d (dI v)), (11, .sl 0 0 1 0 (1 + ins.length + st.length + c.gates.length)), (40, .d (dPs c.gates)), (41, .d (dI c.gates.length)), (42, .d (dI i))]) (fun i => [.row 0 1 true ((evS c st ins v b i ++ restS c v b (1 + ins.length + st.length) i).map D.bool)]) (fun i => i ≤ c.gates.length) (fun i => c.gates.length - i) [] 1000 1000 ?_ ?_ ?_
  · simp only [go_sem, Nat.reduceBEq, Nat.reduceLT, Nat.reduceLeDiff, Nat.reduceEqDiff, Nat.reduceAdd, Nat.reduceSub, Nat.reduceMul, ↓reduceIte, Int.reduceLE, Int.reduceLT, Int.reduceNeg, Int.reduceToNat, Int.reduceAdd, Int.reduceSub, Int.reduceMul, reduceCtorEq]
  · simp only [go_sem, Nat.reduceBEq, Nat.reduceLT, Nat.reduceLeDiff, Nat.reduceEqDiff, Nat.reduceAdd, Nat.reduceSub, Nat.reduceMul, ↓reduceIte, Int.reduceLE, Int.reduceLT, Int.reduceNeg, Int.reduceToNat, Int.reduceAdd, Int.reduceSub, Int.reduceMul, reduceCtorEq]
    exact ⟨0, by omega, rfl, rfl⟩
  · intro i hi
    have hln := evS_len c st ins v b i
    have hrl : (restS c v b (1 + ins.length + st.length) i).length = c.gates.length - i := by simp [restS]
    by_cases hlt : i < c.gates.length
    · obtain ⟨g1, g2⟩ := hv.g i hlt
      unfold litOk at g1 g2
      have hfe : c.first = 1 + ins.length + st.length := by rw [Circ.first]; omega
      have q1 : litV (evS c st ins v b i ++ restS c v b (1 + ins.length + st.length) i) (c.gates.getD i (0, 0)).1 = litV (evS c st ins v b i) (c.gates.getD i (0, 0)).1 := litV_app g1.1 (by omega)
      have q2 : litV (evS c st ins v b i ++ restS c v b (1 + ins.length + st.length) i) (c.gates.getD i (0, 0)).2 = litV (evS c st ins v b i) (c.gates.getD i (0, 0)).2 := litV_app g2.1 (by omega)
      have hlen : (evS c st ins v b i ++ restS c v b (1 + ins.length + st.length) i).length = 1 + ins.length + st.length + c.gates.length := by simp; omega
      have hrc := restS_cons (v := v) (b := b) (n := 1 + ins.length + st.length) hlt
      have fin : ∀ L : List Bool, evS c st ins v b (i + 1) ++ restS c v b (1 + ins.length + st.length) (i + 1) = L → ∃ s', s' ≤ c.gates.length ∧ c.gates.length - s' < c.gates.length - i ∧ i + 1 = s' ∧ L = evS c st ins v b s' ++ restS c v b (1 + ins.length + st.length) s' := fun L hL => ⟨i + 1, by omega, by omega, rfl, hL.symm⟩
      simp only [go_sem, Nat.reduceBEq, Nat.reduceLT, Nat.reduceLeDiff, Nat.reduceEqDiff, Nat.reduceAdd, Nat.reduceSub, Nat.reduceMul, ↓reduceIte, Int.reduceLE, Int.reduceLT, Int.reduceNeg, Int.reduceToNat, Int.reduceAdd, Int.reduceSub, Int.reduceMul, reduceCtorEq, Try.results121]
      repeat' first | assumption | (simp (disch := first | assumption | omega | (simp; done) | (simp; omega)) only [getD_bss, getD_iss, List.take_of_length_le, remV_pos]; try simp only [go_sem, Nat.reduceBEq, Nat.reduceLT, Nat.reduceLeDiff, Nat.reduceEqDiff, Nat.reduceAdd, Nat.reduceSub, Nat.reduceMul, ↓reduceIte, Int.reduceLE, Int.reduceLT, Int.reduceNeg, Int.reduceToNat, Int.reduceAdd, Int.reduceSub, Int.reduceMul, reduceCtorEq, Try.results121]) | (with_reducible refine And.intro ?_ ?_) | (with_reducible intro _) | (refine pcall_fz (Try.c_firstGate c (by omega)) ?_; simp only [go_sem, Nat.reduceBEq, Nat.reduceLT, Nat.reduceLeDiff, Nat.reduceEqDiff, Nat.reduceAdd, Nat.reduceSub, Nat.reduceMul, ↓reduceIte, Int.reduceLE, Int.reduceLT, Int.reduceNeg, Int.reduceToNat, Int.reduceAdd, Int.reduceSub, Int.reduceMul, reduceCtorEq, Try.results121]) | (refine pcall_fz (Try.c_litValue _ _ (by rw [hlen]; omega)) ?_; simp only [go_sem, Nat.reduceBEq, Nat.reduceLT, Nat.reduceLeDiff, Nat.reduceEqDiff, Nat.reduceAdd, Nat.reduceSub, Nat.reduceMul, ↓reduceIte, Int.reduceLE, Int.reduceLT, Int.reduceNeg, Int.reduceToNat, Int.reduceAdd, Int.reduceSub, Int.reduceMul, reduceCtorEq, Try.results121]) | (refine gcall_of (fun _ => Try.c_litValue _ _ (by rw [hlen]; omega)) ?_; simp only [go_sem, Nat.reduceBEq, Nat.reduceLT, Nat.reduceLeDiff, Nat.reduceEqDiff, Nat.reduceAdd, Nat.reduceSub, Nat.reduceMul, ↓reduceIte, Int.reduceLE, Int.reduceLT, Int.reduceNeg, Int.reduceToNat, Int.reduceAdd, Int.reduceSub, Int.reduceMul, reduceCtorEq, Try.results121]) | (refine @Exists.intro I _ (I.d D.nil) ?_; simp only [go_sem, Nat.reduceBEq, Nat.reduceLT, Nat.reduceLeDiff, Nat.reduceEqDiff, Nat.reduceAdd, Nat.reduceSub, Nat.reduceMul, ↓reduceIte, Int.reduceLE, Int.reduceLT, Int.reduceNeg, Int.reduceToNat, Int.reduceAdd, Int.reduceSub, Int.reduceMul, reduceCtorEq, Try.results121]) | ((with_reducible (show Region.lexB _ _ = true)); kernel_rfl) | ((try rw [inK_i64]); omega)
      · rename_i h1 h2
        refine fin _ ?_
        have hne : ¬ ((1 + ins.length + st.length + i : Nat) : Int) = v := by omega
        rw [q1, q2, hrc, if_neg hne, show (c.first + (i : Int)).toNat = (evS c st ins v b i).length by omega, List.set_append_right _ _ (Nat.le_refl _), Nat.sub_self, List.set_cons_zero, evS, hln, if_neg hne, List.append_assoc]
        rfl
      · rename_i h1 h2
        refine fin _ ?_
        have he : ((1 + ins.length + st.length + i : Nat) : Int) = v := by omega
        rw [hrc, if_pos he, evS, hln, if_pos he, List.append_assoc]
        rfl
    · obtain rfl : i = c.gates.length := by omega
      simp only [go_sem, Nat.reduceBEq, Nat.reduceLT, Nat.reduceLeDiff, Nat.reduceEqDiff, Nat.reduceAdd, Nat.reduceSub, Nat.reduceMul, ↓reduceIte, Int.reduceLE, Int.reduceLT, Int.reduceNeg, Int.reduceToNat, Int.reduceAdd, Int.reduceSub, Int.reduceMul, reduceCtorEq, Try.results121]
      repeat' first | assumption | (simp (disch := first | assumption | omega | (simp; done) | (simp; omega)) only [getD_bss, getD_iss, List.take_of_length_le, remV_pos]; try simp only [go_sem, Nat.reduceBEq, Nat.reduceLT, Nat.reduceLeDiff, Nat.reduceEqDiff, Nat.reduceAdd, Nat.reduceSub, Nat.reduceMul, ↓reduceIte, Int.reduceLE, Int.reduceLT, Int.reduceNeg, Int.reduceToNat, Int.reduceAdd, Int.reduceSub, Int.reduceMul, reduceCtorEq, Try.results121]) | (with_reducible refine And.intro ?_ ?_) | (with_reducible intro _) | (refine @Exists.intro I _ (I.d D.nil) ?_; simp only [go_sem, Nat.reduceBEq, Nat.reduceLT, Nat.reduceLeDiff, Nat.reduceEqDiff, Nat.reduceAdd, Nat.reduceSub, Nat.reduceMul, ↓reduceIte, Int.reduceLE, Int.reduceLT, Int.reduceNeg, Int.reduceToNat, Int.reduceAdd, Int.reduceSub, Int.reduceMul, reduceCtorEq, Try.results121]) | ((with_reducible (show Region.lexB _ _ = true)); kernel_rfl) | ((try rw [inK_i64]); omega)
      rw [valS, restS, Nat.sub_self]
      simp
theorem Try.c_results (c : Circ) (hv : c.Valid) (x : Nat) (b : Bool) : Pure Try.prog 133 [pC c, dI x, dI (-1), dB b] (dBs (litVs (atX c x) c.roots)) := by
  refine pure_of' (E := Try.env 0) Try.tok rfl 1000 Try.func133 rfl rfl Try.ntmps133 (by simp) fun ok => ?_
  simp only [go_sem, Nat.reduceBEq, Nat.reduceLT, Nat.reduceLeDiff, Nat.reduceEqDiff, Nat.reduceAdd, Nat.reduceSub, Nat.reduceMul, ↓reduceIte, Int.reduceLE, Int.reduceLT, Int.reduceNeg, Int.reduceToNat, Int.reduceAdd, Int.reduceSub, Int.reduceMul, reduceCtorEq] at ok
  simp only [go_sem, Nat.reduceBEq, Nat.reduceLT, Nat.reduceLeDiff, Nat.reduceEqDiff, Nat.reduceAdd, Nat.reduceSub, Nat.reduceMul, ↓reduceIte, Int.reduceLE, Int.reduceLT, Int.reduceNeg, Int.reduceToNat, Int.reduceAdd, Int.reduceSub, Int.reduceMul, reduceCtorEq, Try.results133]
  have hi0 := hv.i0; have hi1 := hv.i1; have hln := hv.ln; have hlo := hv.lo
  have q1 := Try.c_latchBits c x (by omega) (by omega) (by omega)
  have q2 := Try.c_inputBits c x (by omega) (by omega)
  have hl1 : (bitsOf ((x : Int) / 2 ^ c.inputs.toNat) c.next.length).length = c.next.length := by simp [bitsOf]
  have hl2 : (bitsOf (x : Int) c.inputs.toNat).length = c.inputs.toNat := by simp [bitsOf]
  have q3 := Try.c_evaluate c hv _ _ hl1 (by rw [hl2]; omega) b
  have hvl : (atX c x).length = c.vars.toNat := by
    rw [atX, values, evalN_len, hl1, hl2]; unfold Circ.vars Circ.first; omega
  rw [← atX] at q3
  have hvb := hv.vars_bd
  have hfb := hv.first_bd
  have q4 := Try.c_litValues (atX c x) c.roots (fun l hl => by have := hv.roots l hl; unfold litOk at this; omega) (by unfold Circ.roots; simp; omega)
  have q5 := Try.c_roots c (by omega)
  generalize atX c x = vs at *
  repeat' first | assumption | (simp (disch := first | assumption | omega | (simp; done) | (simp; omega)) only [getD_bss, getD_iss, List.take_of_length_le, remV_pos]; try simp only [go_sem, Nat.reduceBEq, Nat.reduceLT, Nat.reduceLeDiff, Nat.reduceEqDiff, Nat.reduceAdd, Nat.reduceSub, Nat.reduceMul, ↓reduceIte, Int.reduceLE, Int.reduceLT, Int.reduceNeg, Int.reduceToNat, Int.reduceAdd, Int.reduceSub, Int.reduceMul, reduceCtorEq, Try.results133]) | (with_reducible refine And.intro ?_ ?_) | (with_reducible intro _) | (refine pcall_fz q1 ?_; simp only [go_sem, Nat.reduceBEq, Nat.reduceLT, Nat.reduceLeDiff, Nat.reduceEqDiff, Nat.reduceAdd, Nat.reduceSub, Nat.reduceMul, ↓reduceIte, Int.reduceLE, Int.reduceLT, Int.reduceNeg, Int.reduceToNat, Int.reduceAdd, Int.reduceSub, Int.reduceMul, reduceCtorEq, Try.results133]) | (refine pcall_fz q2 ?_; simp only [go_sem, Nat.reduceBEq, Nat.reduceLT, Nat.reduceLeDiff, Nat.reduceEqDiff, Nat.reduceAdd, Nat.reduceSub, Nat.reduceMul, ↓reduceIte, Int.reduceLE, Int.reduceLT, Int.reduceNeg, Int.reduceToNat, Int.reduceAdd, Int.reduceSub, Int.reduceMul, reduceCtorEq, Try.results133]) | (refine pcall_fz q3 ?_; simp only [go_sem, Nat.reduceBEq, Nat.reduceLT, Nat.reduceLeDiff, Nat.reduceEqDiff, Nat.reduceAdd, Nat.reduceSub, Nat.reduceMul, ↓reduceIte, Int.reduceLE, Int.reduceLT, Int.reduceNeg, Int.reduceToNat, Int.reduceAdd, Int.reduceSub, Int.reduceMul, reduceCtorEq, Try.results133]) | (refine pcall_fz q5 ?_; simp only [go_sem, Nat.reduceBEq, Nat.reduceLT, Nat.reduceLeDiff, Nat.reduceEqDiff, Nat.reduceAdd, Nat.reduceSub, Nat.reduceMul, ↓reduceIte, Int.reduceLE, Int.reduceLT, Int.reduceNeg, Int.reduceToNat, Int.reduceAdd, Int.reduceSub, Int.reduceMul, reduceCtorEq, Try.results133]) | (refine pcall_own q4 ?_; simp only [go_sem, Nat.reduceBEq, Nat.reduceLT, Nat.reduceLeDiff, Nat.reduceEqDiff, Nat.reduceAdd, Nat.reduceSub, Nat.reduceMul, ↓reduceIte, Int.reduceLE, Int.reduceLT, Int.reduceNeg, Int.reduceToNat, Int.reduceAdd, Int.reduceSub, Int.reduceMul, reduceCtorEq, Try.results133]) | (refine @Exists.intro I _ (I.d D.nil) ?_; simp only [go_sem, Nat.reduceBEq, Nat.reduceLT, Nat.reduceLeDiff, Nat.reduceEqDiff, Nat.reduceAdd, Nat.reduceSub, Nat.reduceMul, ↓reduceIte, Int.reduceLE, Int.reduceLT, Int.reduceNeg, Int.reduceToNat, Int.reduceAdd, Int.reduceSub, Int.reduceMul, reduceCtorEq, Try.results133]) | ((with_reducible (show Region.lexB _ _ = true)); kernel_rfl) | ((try rw [inK_i64]); omega)
theorem Try.c_resultsS (c : Circ) (hv : c.Valid) (x : Nat) (v : Int) (hs : c.first ≤ v ∧ v < c.vars) (b : Bool) : Pure Try.prog 133 [pC c, dI x, dI v, dB b] (dBs (litVs (valS c (bitsOf ((x : Int) / 2 ^ c.inputs.toNat) c.next.length) (bitsOf (x : Int) c.inputs.toNat) v b) c.roots)) := by
  refine pure_of' (E := Try.env 0) Try.tok rfl 1000 Try.func133 rfl rfl Try.ntmps133 (by simp) fun ok => ?_
  simp only [go_sem, Nat.reduceBEq, Nat.reduceLT, Nat.reduceLeDiff, Nat.reduceEqDiff, Nat.reduceAdd, Nat.reduceSub, Nat.reduceMul, ↓reduceIte, Int.reduceLE, Int.reduceLT, Int.reduceNeg, Int.reduceToNat, Int.reduceAdd, Int.reduceSub, Int.reduceMul, reduceCtorEq] at ok
  simp only [go_sem, Nat.reduceBEq, Nat.reduceLT, Nat.reduceLeDiff, Nat.reduceEqDiff, Nat.reduceAdd, Nat.reduceSub, Nat.reduceMul, ↓reduceIte, Int.reduceLE, Int.reduceLT, Int.reduceNeg, Int.reduceToNat, Int.reduceAdd, Int.reduceSub, Int.reduceMul, reduceCtorEq, Try.results133]
  have hi0 := hv.i0; have hi1 := hv.i1; have hln := hv.ln; have hlo := hv.lo
  have q1 := Try.c_latchBits c x (by omega) (by omega) (by omega)
  have q2 := Try.c_inputBits c x (by omega) (by omega)
  have hl1 : (bitsOf ((x : Int) / 2 ^ c.inputs.toNat) c.next.length).length = c.next.length := by simp [bitsOf]
  have hl2 : (bitsOf (x : Int) c.inputs.toNat).length = c.inputs.toNat := by simp [bitsOf]
  have q3 := Try.c_evaluateS c hv _ _ hl1 (by rw [hl2]; omega) v hs b
  have hvl : (valS c (bitsOf ((x : Int) / 2 ^ c.inputs.toNat) c.next.length) (bitsOf (x : Int) c.inputs.toNat) v b).length = c.vars.toNat := by
    rw [valS, evS_len, hl1, hl2]; unfold Circ.vars Circ.first; omega
  have hvb := hv.vars_bd
  have hfb := hv.first_bd
  generalize valS c (bitsOf ((x : Int) / 2 ^ c.inputs.toNat) c.next.length) (bitsOf (x : Int) c.inputs.toNat) v b = vs at *
  have q4 := Try.c_litValues vs c.roots (fun l hl => by have := hv.roots l hl; unfold litOk at this; omega) (by unfold Circ.roots; simp; omega)
  have q5 := Try.c_roots c (by omega)
  repeat' first | assumption | (simp (disch := first | assumption | omega | (simp; done) | (simp; omega)) only [getD_bss, getD_iss, List.take_of_length_le, remV_pos]; try simp only [go_sem, Nat.reduceBEq, Nat.reduceLT, Nat.reduceLeDiff, Nat.reduceEqDiff, Nat.reduceAdd, Nat.reduceSub, Nat.reduceMul, ↓reduceIte, Int.reduceLE, Int.reduceLT, Int.reduceNeg, Int.reduceToNat, Int.reduceAdd, Int.reduceSub, Int.reduceMul, reduceCtorEq, Try.results133]) | (with_reducible refine And.intro ?_ ?_) | (with_reducible intro _) | (refine pcall_fz q1 ?_; simp only [go_sem, Nat.reduceBEq, Nat.reduceLT, Nat.reduceLeDiff, Nat.reduceEqDiff, Nat.reduceAdd, Nat.reduceSub, Nat.reduceMul, ↓reduceIte, Int.reduceLE, Int.reduceLT, Int.reduceNeg, Int.reduceToNat, Int.reduceAdd, Int.reduceSub, Int.reduceMul, reduceCtorEq, Try.results133]) | (refine pcall_fz q2 ?_; simp only [go_sem, Nat.reduceBEq, Nat.reduceLT, Nat.reduceLeDiff, Nat.reduceEqDiff, Nat.reduceAdd, Nat.reduceSub, Nat.reduceMul, ↓reduceIte, Int.reduceLE, Int.reduceLT, Int.reduceNeg, Int.reduceToNat, Int.reduceAdd, Int.reduceSub, Int.reduceMul, reduceCtorEq, Try.results133]) | (refine pcall_fz q3 ?_; simp only [go_sem, Nat.reduceBEq, Nat.reduceLT, Nat.reduceLeDiff, Nat.reduceEqDiff, Nat.reduceAdd, Nat.reduceSub, Nat.reduceMul, ↓reduceIte, Int.reduceLE, Int.reduceLT, Int.reduceNeg, Int.reduceToNat, Int.reduceAdd, Int.reduceSub, Int.reduceMul, reduceCtorEq, Try.results133]) | (refine pcall_fz q5 ?_; simp only [go_sem, Nat.reduceBEq, Nat.reduceLT, Nat.reduceLeDiff, Nat.reduceEqDiff, Nat.reduceAdd, Nat.reduceSub, Nat.reduceMul, ↓reduceIte, Int.reduceLE, Int.reduceLT, Int.reduceNeg, Int.reduceToNat, Int.reduceAdd, Int.reduceSub, Int.reduceMul, reduceCtorEq, Try.results133]) | (refine pcall_own q4 ?_; simp only [go_sem, Nat.reduceBEq, Nat.reduceLT, Nat.reduceLeDiff, Nat.reduceEqDiff, Nat.reduceAdd, Nat.reduceSub, Nat.reduceMul, ↓reduceIte, Int.reduceLE, Int.reduceLT, Int.reduceNeg, Int.reduceToNat, Int.reduceAdd, Int.reduceSub, Int.reduceMul, reduceCtorEq, Try.results133]) | (refine @Exists.intro I _ (I.d D.nil) ?_; simp only [go_sem, Nat.reduceBEq, Nat.reduceLT, Nat.reduceLeDiff, Nat.reduceEqDiff, Nat.reduceAdd, Nat.reduceSub, Nat.reduceMul, ↓reduceIte, Int.reduceLE, Int.reduceLT, Int.reduceNeg, Int.reduceToNat, Int.reduceAdd, Int.reduceSub, Int.reduceMul, reduceCtorEq, Try.results133]) | ((with_reducible (show Region.lexB _ _ = true)); kernel_rfl) | ((try rw [inK_i64]); omega)
theorem Try.c_EqualB (a b : List Bool) : Pure Try.prog 132 [dBs a, dBs b] (.bool (decide (a = b))) := by
  refine pure_of' (E := Try.env 0) Try.tok rfl 1000 Try.func132 rfl rfl Try.ntmps132 (by simp) fun ok => ?_
  simp only [go_sem, Nat.reduceBEq, Nat.reduceLT, Nat.reduceLeDiff, Nat.reduceEqDiff, Nat.reduceAdd, Nat.reduceSub, Nat.reduceMul, ↓reduceIte, Int.reduceLE, Int.reduceLT, Int.reduceNeg, Int.reduceToNat, Int.reduceAdd, Int.reduceSub, Int.reduceMul, reduceCtorEq] at ok
  simp only [go_sem, Nat.reduceBEq, Nat.reduceLT, Nat.reduceLeDiff, Nat.reduceEqDiff, Nat.reduceAdd, Nat.reduceSub, Nat.reduceMul, ↓reduceIte, Int.reduceLE, Int.reduceLT, Int.reduceNeg, Int.reduceToNat, Int.reduceAdd, Int.reduceSub, Int.reduceMul, reduceCtorEq, Try.results132]
  repeat' first | assumption | (simp (disch := first | assumption | omega | (simp; done) | (simp; omega)) only [getD_bss, getD_iss, List.take_of_length_le, remV_pos]; try simp only [go_sem, Nat.reduceBEq, Nat.reduceLT, Nat.reduceLeDiff, Nat.reduceEqDiff, Nat.reduceAdd, Nat.reduceSub, Nat.reduceMul, ↓reduceIte, Int.reduceLE, Int.reduceLT, Int.reduceNeg, Int.reduceToNat, Int.reduceAdd, Int.reduceSub, Int.reduceMul, reduceCtorEq, Try.results132]) | (with_reducible refine And.intro ?_ ?_) | (with_reducible intro _) | (refine @Exists.intro I _ (I.d D.nil) ?_; simp only [go_sem, Nat.reduceBEq, Nat.reduceLT, Nat.reduceLeDiff, Nat.reduceEqDiff, Nat.reduceAdd, Nat.reduceSub, Nat.reduceMul, ↓reduceIte, Int.reduceLE, Int.reduceLT, Int.reduceNeg, Int.reduceToNat, Int.reduceAdd, Int.reduceSub, Int.reduceMul, reduceCtorEq, Try.results132]) | ((with_reducible (show Region.lexB _ _ = true)); kernel_rfl) | ((try rw [inK_i64]); omega)
  · rename_i h
    rw [decide_eq_false (fun e => h (by rw [e]))]
  rename_i hl
  refine loop_of (E := Try.env 0) Try.tok (σ := Nat) (fun i => [(0, .d (dBs a)), (1, .d (dBs b)), (11, .d (dBs a)), (12, .d (dI a.length)), (13, .d (dI i))]) (fun _ => []) (fun i => i ≤ a.length ∧ ∀ j, j < i → a.getD j false = b.getD j false) (fun i => a.length - i) [] 1000 1000 ?_ ?_ ?_
  · simp only [go_sem, Nat.reduceBEq, Nat.reduceLT, Nat.reduceLeDiff, Nat.reduceEqDiff, Nat.reduceAdd, Nat.reduceSub, Nat.reduceMul, ↓reduceIte, Int.reduceLE, Int.reduceLT, Int.reduceNeg, Int.reduceToNat, Int.reduceAdd, Int.reduceSub, Int.reduceMul, reduceCtorEq]
  · simp only [go_sem, Nat.reduceBEq, Nat.reduceLT, Nat.reduceLeDiff, Nat.reduceEqDiff, Nat.reduceAdd, Nat.reduceSub, Nat.reduceMul, ↓reduceIte, Int.reduceLE, Int.reduceLT, Int.reduceNeg, Int.reduceToNat, Int.reduceAdd, Int.reduceSub, Int.reduceMul, reduceCtorEq]
    exact ⟨0, ⟨by omega, fun j hj => absurd hj (by omega)⟩, rfl⟩
  · rintro i ⟨hi, hinv⟩
    simp only [go_sem, Nat.reduceBEq, Nat.reduceLT, Nat.reduceLeDiff, Nat.reduceEqDiff, Nat.reduceAdd, Nat.reduceSub, Nat.reduceMul, ↓reduceIte, Int.reduceLE, Int.reduceLT, Int.reduceNeg, Int.reduceToNat, Int.reduceAdd, Int.reduceSub, Int.reduceMul, reduceCtorEq, Try.results132]
    repeat' first | assumption | (simp (disch := first | assumption | omega | (simp; done) | (simp; omega)) only [getD_bss, getD_iss, List.take_of_length_le, remV_pos]; try simp only [go_sem, Nat.reduceBEq, Nat.reduceLT, Nat.reduceLeDiff, Nat.reduceEqDiff, Nat.reduceAdd, Nat.reduceSub, Nat.reduceMul, ↓reduceIte, Int.reduceLE, Int.reduceLT, Int.reduceNeg, Int.reduceToNat, Int.reduceAdd, Int.reduceSub, Int.reduceMul, reduceCtorEq, Try.results132]) | (with_reducible refine And.intro ?_ ?_) | (with_reducible intro _) | (refine @Exists.intro I _ (I.d D.nil) ?_; simp only [go_sem, Nat.reduceBEq, Nat.reduceLT, Nat.reduceLeDiff, Nat.reduceEqDiff, Nat.reduceAdd, Nat.reduceSub, Nat.reduceMul, ↓reduceIte, Int.reduceLE, Int.reduceLT, Int.reduceNeg, Int.reduceToNat, Int.reduceAdd, Int.reduceSub, Int.reduceMul, reduceCtorEq, Try.results132]) | ((with_reducible (show Region.lexB _ _ = true)); kernel_rfl) | ((try rw [inK_i64]); omega)
    · rename_i h1 h2
      rw [decide_eq_false (fun e => h2 (by rw [e]))]
    · rename_i h1 h2
      refine ⟨i + 1, ⟨by omega, fun j hj => ?_⟩, by omega, rfl⟩
      by_cases hji : j < i
      · exact hinv j hji
      · obtain rfl : j = i := by omega
        exact h2
    · rename_i h1
      rw [decide_eq_true]
      refine List.ext_getElem hl fun j h2 h3 => ?_
      have := hinv j (by omega)
      simpa [List.getD, h2, h3] using this
theorem Try.c_force1 (l v : Int) (b : Bool) (hl : 0 ≤ l ∧ l ≤ 1000000) : Pure Try.prog 131 [dI l, .ptr [dI v], .ptr [dB b]] (dI (forceLit v b l)) := by
  refine pure_of' (E := Try.env 0) Try.tok rfl 1000 Try.func131 rfl rfl Try.ntmps131 (by simp) fun ok => ?_
  simp only [go_sem, Nat.reduceBEq, Nat.reduceLT, Nat.reduceLeDiff, Nat.reduceEqDiff, Nat.reduceAdd, Nat.reduceSub, Nat.reduceMul, ↓reduceIte, Int.reduceLE, Int.reduceLT, Int.reduceNeg, Int.reduceToNat, Int.reduceAdd, Int.reduceSub, Int.reduceMul, reduceCtorEq] at ok
  simp only [go_sem, Nat.reduceBEq, Nat.reduceLT, Nat.reduceLeDiff, Nat.reduceEqDiff, Nat.reduceAdd, Nat.reduceSub, Nat.reduceMul, ↓reduceIte, Int.reduceLE, Int.reduceLT, Int.reduceNeg, Int.reduceToNat, Int.reduceAdd, Int.reduceSub, Int.reduceMul, reduceCtorEq, Try.results131]
  repeat' first | assumption | (simp (disch := first | assumption | omega | (simp; done) | (simp; omega)) only [getD_bss, getD_iss, List.take_of_length_le, remV_pos]; try simp only [go_sem, Nat.reduceBEq, Nat.reduceLT, Nat.reduceLeDiff, Nat.reduceEqDiff, Nat.reduceAdd, Nat.reduceSub, Nat.reduceMul, ↓reduceIte, Int.reduceLE, Int.reduceLT, Int.reduceNeg, Int.reduceToNat, Int.reduceAdd, Int.reduceSub, Int.reduceMul, reduceCtorEq, Try.results131]) | (with_reducible refine And.intro ?_ ?_) | (with_reducible intro _) | (refine @Exists.intro I _ (I.d D.nil) ?_; simp only [go_sem, Nat.reduceBEq, Nat.reduceLT, Nat.reduceLeDiff, Nat.reduceEqDiff, Nat.reduceAdd, Nat.reduceSub, Nat.reduceMul, ↓reduceIte, Int.reduceLE, Int.reduceLT, Int.reduceNeg, Int.reduceToNat, Int.reduceAdd, Int.reduceSub, Int.reduceMul, reduceCtorEq, Try.results131]) | ((with_reducible (show Region.lexB _ _ = true)); kernel_rfl) | ((try rw [inK_i64]); omega)
  · rw [forceLit, if_neg (by assumption)]
  · rename_i h1 h2
    rw [forceLit, if_pos h1, h2, xor1_nat]
    have hm := Int.emod_two_eq l
    have := land1v hl.1
    simp only [if_true]
    split <;> omega
  · rename_i h1 h2
    rw [forceLit, if_pos h1, h2, land1v hl.1]
    rfl
theorem Try.c_force (c : Circ) (hv : c.Valid) (v : Int) (b : Bool) : Pure Try.prog 101 [pC c, dI v, dB b] (dC (forced c v b)) := by
  have hvb := hv.vars_bd
  have hfb := hv.first_bd
  have hrep := Try.c_replaced c 131 [.ptr [dI v], .ptr [dB b]] (forceLit v b) rfl ⟨by have := hv.ln; omega, by have := hv.lg; omega, by have := hv.lo; omega⟩
    (fun l hl => Try.c_force1 l _ _ (by have := hv.n l hl; unfold litOk at this; omega))
    (fun l hl => Try.c_force1 l _ _ (by have := hv.o l hl; unfold litOk at this; omega))
    (fun p hp => by
      obtain ⟨i, hi, rfl⟩ := mem_getD (0, 0) hp
      have hg := hv.lg
      have := hv.g i hi
      unfold litOk at this
      exact ⟨Try.c_force1 _ _ _ (by omega), Try.c_force1 _ _ _ (by omega)⟩)
  refine pure_of' (E := Try.env 0) Try.tok rfl 1000 Try.func101 rfl rfl Try.ntmps101 (by simp) fun ok => ?_
  simp only [go_sem, Nat.reduceBEq, Nat.reduceLT, Nat.reduceLeDiff, Nat.reduceEqDiff, Nat.reduceAdd, Nat.reduceSub, Nat.reduceMul, ↓reduceIte, Int.reduceLE, Int.reduceLT, Int.reduceNeg, Int.reduceToNat, Int.reduceAdd, Int.reduceSub, Int.reduceMul, reduceCtorEq] at ok
  simp only [go_sem, Nat.reduceBEq, Nat.reduceLT, Nat.reduceLeDiff, Nat.reduceEqDiff, Nat.reduceAdd, Nat.reduceSub, Nat.reduceMul, ↓reduceIte, Int.reduceLE, Int.reduceLT, Int.reduceNeg, Int.reduceToNat, Int.reduceAdd, Int.reduceSub, Int.reduceMul, reduceCtorEq, Try.results101]
  repeat' first | assumption | (simp (disch := first | assumption | omega | (simp; done) | (simp; omega)) only [getD_bss, getD_iss, List.take_of_length_le, remV_pos]; try simp only [go_sem, Nat.reduceBEq, Nat.reduceLT, Nat.reduceLeDiff, Nat.reduceEqDiff, Nat.reduceAdd, Nat.reduceSub, Nat.reduceMul, ↓reduceIte, Int.reduceLE, Int.reduceLT, Int.reduceNeg, Int.reduceToNat, Int.reduceAdd, Int.reduceSub, Int.reduceMul, reduceCtorEq, Try.results101]) | (with_reducible refine And.intro ?_ ?_) | (with_reducible intro _) | (refine pcall_own hrep ?_; simp only [go_sem, Nat.reduceBEq, Nat.reduceLT, Nat.reduceLeDiff, Nat.reduceEqDiff, Nat.reduceAdd, Nat.reduceSub, Nat.reduceMul, ↓reduceIte, Int.reduceLE, Int.reduceLT, Int.reduceNeg, Int.reduceToNat, Int.reduceAdd, Int.reduceSub, Int.reduceMul, reduceCtorEq, Try.results101]) | (refine @Exists.intro I _ (I.d D.nil) ?_; simp only [go_sem, Nat.reduceBEq, Nat.reduceLT, Nat.reduceLeDiff, Nat.reduceEqDiff, Nat.reduceAdd, Nat.reduceSub, Nat.reduceMul, ↓reduceIte, Int.reduceLE, Int.reduceLT, Int.reduceNeg, Int.reduceToNat, Int.reduceAdd, Int.reduceSub, Int.reduceMul, reduceCtorEq, Try.results101]) | ((with_reducible (show Region.lexB _ _ = true)); kernel_rfl) | ((try rw [inK_i64]); omega)
  all_goals rfl
theorem Try.c_ForceGate (c : Circ) (hv : c.Valid) (v : Int) (hs : c.first ≤ v ∧ v < c.vars) (b : Bool) : Pure Try.prog 41 [dC c, dI v, dB b] (dC (forced c v b)) := by
  have hvb := hv.vars_bd
  have hfb := hv.first_bd
  have hi0 := hv.i0; have hi1 := hv.i1
  have q1 := Try.c_CircuitValid c
  rw [decide_eq_true hv] at q1
  have q2 := Try.c_firstGate c (by omega)
  have q3 := Try.c_vars c (by omega)
  refine pure_of' (E := Try.env 0) Try.tok rfl 1000 Try.func41 rfl rfl Try.ntmps41 (by simp) fun ok => ?_
  simp only [go_sem, Nat.reduceBEq, Nat.reduceLT, Nat.reduceLeDiff, Nat.reduceEqDiff, Nat.reduceAdd, Nat.reduceSub, Nat.reduceMul, ↓reduceIte, Int.reduceLE, Int.reduceLT, Int.reduceNeg, Int.reduceToNat, Int.reduceAdd, Int.reduceSub, Int.reduceMul, reduceCtorEq] at ok
  simp only [go_sem, Nat.reduceBEq, Nat.reduceLT, Nat.reduceLeDiff, Nat.reduceEqDiff, Nat.reduceAdd, Nat.reduceSub, Nat.reduceMul, ↓reduceIte, Int.reduceLE, Int.reduceLT, Int.reduceNeg, Int.reduceToNat, Int.reduceAdd, Int.reduceSub, Int.reduceMul, reduceCtorEq, Try.results41]
  repeat' first | assumption | (simp (disch := first | assumption | omega | (simp; done) | (simp; omega)) only [getD_bss, getD_iss, List.take_of_length_le, remV_pos]; try simp only [go_sem, Nat.reduceBEq, Nat.reduceLT, Nat.reduceLeDiff, Nat.reduceEqDiff, Nat.reduceAdd, Nat.reduceSub, Nat.reduceMul, ↓reduceIte, Int.reduceLE, Int.reduceLT, Int.reduceNeg, Int.reduceToNat, Int.reduceAdd, Int.reduceSub, Int.reduceMul, reduceCtorEq, Try.results41]) | (with_reducible refine And.intro ?_ ?_) | (with_reducible intro _) | (refine pcall_fz q1 ?_; simp only [go_sem, Nat.reduceBEq, Nat.reduceLT, Nat.reduceLeDiff, Nat.reduceEqDiff, Nat.reduceAdd, Nat.reduceSub, Nat.reduceMul, ↓reduceIte, Int.reduceLE, Int.reduceLT, Int.reduceNeg, Int.reduceToNat, Int.reduceAdd, Int.reduceSub, Int.reduceMul, reduceCtorEq, Try.results41]) | (refine gcall_of (fun _ => q2) ?_; simp only [go_sem, Nat.reduceBEq, Nat.reduceLT, Nat.reduceLeDiff, Nat.reduceEqDiff, Nat.reduceAdd, Nat.reduceSub, Nat.reduceMul, ↓reduceIte, Int.reduceLE, Int.reduceLT, Int.reduceNeg, Int.reduceToNat, Int.reduceAdd, Int.reduceSub, Int.reduceMul, reduceCtorEq, Try.results41]) | (refine gcall_of (fun _ => q3) ?_; simp only [go_sem, Nat.reduceBEq, Nat.reduceLT, Nat.reduceLeDiff, Nat.reduceEqDiff, Nat.reduceAdd, Nat.reduceSub, Nat.reduceMul, ↓reduceIte, Int.reduceLE, Int.reduceLT, Int.reduceNeg, Int.reduceToNat, Int.reduceAdd, Int.reduceSub, Int.reduceMul, reduceCtorEq, Try.results41]) | (refine pcall_own (Try.c_force c hv v b) ?_; simp only [go_sem, Nat.reduceBEq, Nat.reduceLT, Nat.reduceLeDiff, Nat.reduceEqDiff, Nat.reduceAdd, Nat.reduceSub, Nat.reduceMul, ↓reduceIte, Int.reduceLE, Int.reduceLT, Int.reduceNeg, Int.reduceToNat, Int.reduceAdd, Int.reduceSub, Int.reduceMul, reduceCtorEq, Try.results41]) | (refine @Exists.intro I _ (I.d D.nil) ?_; simp only [go_sem, Nat.reduceBEq, Nat.reduceLT, Nat.reduceLeDiff, Nat.reduceEqDiff, Nat.reduceAdd, Nat.reduceSub, Nat.reduceMul, ↓reduceIte, Int.reduceLE, Int.reduceLT, Int.reduceNeg, Int.reduceToNat, Int.reduceAdd, Int.reduceSub, Int.reduceMul, reduceCtorEq, Try.results41]) | ((with_reducible (show Region.lexB _ _ = true)); kernel_rfl) | ((try rw [inK_i64]); omega)
theorem Try.c_detects (c : Circ) (hv : c.Valid) (x : Nat) (v : Int) (hs : c.first ≤ v ∧ v < c.vars) (b : Bool) : Pure Try.prog 103 [pC c, .agg [dI v, dB b], dI x]
    (.bool (!decide (litVs (atX c x) c.roots = litVs (valS c (bitsOf ((x : Int) / 2 ^ c.inputs.toNat) c.next.length) (bitsOf (x : Int) c.inputs.toNat) v b) c.roots))) := by
  refine pure_of' (E := Try.env 0) Try.tok rfl 1000 Try.func103 rfl rfl Try.ntmps103 (by simp) fun ok => ?_
  simp only [go_sem, Nat.reduceBEq, Nat.reduceLT, Nat.reduceLeDiff, Nat.reduceEqDiff, Nat.reduceAdd, Nat.reduceSub, Nat.reduceMul, ↓reduceIte, Int.reduceLE, Int.reduceLT, Int.reduceNeg, Int.reduceToNat, Int.reduceAdd, Int.reduceSub, Int.reduceMul, reduceCtorEq] at ok
  simp only [go_sem, Nat.reduceBEq, Nat.reduceLT, Nat.reduceLeDiff, Nat.reduceEqDiff, Nat.reduceAdd, Nat.reduceSub, Nat.reduceMul, ↓reduceIte, Int.reduceLE, Int.reduceLT, Int.reduceNeg, Int.reduceToNat, Int.reduceAdd, Int.reduceSub, Int.reduceMul, reduceCtorEq, Try.results103]
  refine drawn_of (E := Try.env 0) Try.tok Try.follows 1000 1000 [] (.fst 0 (.fst 1 (.fst 3 (.fst 4 (.fst 5 (.fst 7 (.fst 6 (.fst 8 (.one 2 (.one 9 (.one 10 (.fst 11 (.fst 12 (.done)))))))))))))) (by kernel_rfl) ?_
  simp only [go_sem, Nat.reduceBEq, Nat.reduceLT, Nat.reduceLeDiff, Nat.reduceEqDiff, Nat.reduceAdd, Nat.reduceSub, Nat.reduceMul, ↓reduceIte, Int.reduceLE, Int.reduceLT, Int.reduceNeg, Int.reduceToNat, Int.reduceAdd, Int.reduceSub, Int.reduceMul, reduceCtorEq, Try.results103]
  repeat' first | assumption | (simp (disch := first | assumption | omega | (simp; done) | (simp; omega)) only [getD_bss, getD_iss, List.take_of_length_le, remV_pos]; try simp only [go_sem, Nat.reduceBEq, Nat.reduceLT, Nat.reduceLeDiff, Nat.reduceEqDiff, Nat.reduceAdd, Nat.reduceSub, Nat.reduceMul, ↓reduceIte, Int.reduceLE, Int.reduceLT, Int.reduceNeg, Int.reduceToNat, Int.reduceAdd, Int.reduceSub, Int.reduceMul, reduceCtorEq, Try.results103]) | (with_reducible refine And.intro ?_ ?_) | (with_reducible intro _) | (refine pcall_fz (Try.c_results c hv x false) ?_; simp only [go_sem, Nat.reduceBEq, Nat.reduceLT, Nat.reduceLeDiff, Nat.reduceEqDiff, Nat.reduceAdd, Nat.reduceSub, Nat.reduceMul, ↓reduceIte, Int.reduceLE, Int.reduceLT, Int.reduceNeg, Int.reduceToNat, Int.reduceAdd, Int.reduceSub, Int.reduceMul, reduceCtorEq, Try.results103]) | (refine pcall_fz (Try.c_resultsS c hv x v hs b) ?_; simp only [go_sem, Nat.reduceBEq, Nat.reduceLT, Nat.reduceLeDiff, Nat.reduceEqDiff, Nat.reduceAdd, Nat.reduceSub, Nat.reduceMul, ↓reduceIte, Int.reduceLE, Int.reduceLT, Int.reduceNeg, Int.reduceToNat, Int.reduceAdd, Int.reduceSub, Int.reduceMul, reduceCtorEq, Try.results103]) | (refine pcall_fz (Try.c_EqualB _ _) ?_; simp only [go_sem, Nat.reduceBEq, Nat.reduceLT, Nat.reduceLeDiff, Nat.reduceEqDiff, Nat.reduceAdd, Nat.reduceSub, Nat.reduceMul, ↓reduceIte, Int.reduceLE, Int.reduceLT, Int.reduceNeg, Int.reduceToNat, Int.reduceAdd, Int.reduceSub, Int.reduceMul, reduceCtorEq, Try.results103]) | (refine @Exists.intro I _ (I.d D.nil) ?_; simp only [go_sem, Nat.reduceBEq, Nat.reduceLT, Nat.reduceLeDiff, Nat.reduceEqDiff, Nat.reduceAdd, Nat.reduceSub, Nat.reduceMul, ↓reduceIte, Int.reduceLE, Int.reduceLT, Int.reduceNeg, Int.reduceToNat, Int.reduceAdd, Int.reduceSub, Int.reduceMul, reduceCtorEq, Try.results103]) | ((with_reducible (show Region.lexB _ _ = true)); kernel_rfl) | ((try rw [inK_i64]); omega)
theorem Try.c_Detects (c : Circ) (hv : c.Valid) (x : Nat) (hx : x < 2 ^ (c.inputs.toNat + c.next.length)) (v : Int) (hs : c.first ≤ v ∧ v < c.vars) (b : Bool) : Pure Try.prog 42 [dC c, .agg [dI v, dB b], dI x]
    (.bool (!decide (litVs (atX c x) c.roots = litVs (valS c (bitsOf ((x : Int) / 2 ^ c.inputs.toNat) c.next.length) (bitsOf (x : Int) c.inputs.toNat) v b) c.roots))) := by
  have hvb := hv.vars_bd
  have hfb := hv.first_bd
  have hi0 := hv.i0; have hi1 := hv.i1; have hln := hv.ln
  have q1 := Try.c_CircuitValid c
  rw [decide_eq_true hv] at q1
  have q3 := Try.c_vars c (by omega)
  have q4 := Try.c_assignments c (by omega)
  have hN := Nat.pow_le_pow_right (n := 2) (by omega) (show c.inputs.toNat + c.next.length ≤ 7 by omega)
  generalize 2 ^ (c.inputs.toNat + c.next.length) = N at *
  refine pure_of' (E := Try.env 0) Try.tok rfl 1000 Try.func42 rfl rfl Try.ntmps42 (by simp) fun ok => ?_
  simp only [go_sem, Nat.reduceBEq, Nat.reduceLT, Nat.reduceLeDiff, Nat.reduceEqDiff, Nat.reduceAdd, Nat.reduceSub, Nat.reduceMul, ↓reduceIte, Int.reduceLE, Int.reduceLT, Int.reduceNeg, Int.reduceToNat, Int.reduceAdd, Int.reduceSub, Int.reduceMul, reduceCtorEq] at ok
  simp only [go_sem, Nat.reduceBEq, Nat.reduceLT, Nat.reduceLeDiff, Nat.reduceEqDiff, Nat.reduceAdd, Nat.reduceSub, Nat.reduceMul, ↓reduceIte, Int.reduceLE, Int.reduceLT, Int.reduceNeg, Int.reduceToNat, Int.reduceAdd, Int.reduceSub, Int.reduceMul, reduceCtorEq, Try.results42]
  have k3 : scal (dI c.vars) := by show InK .i64 _; rw [inK_i64]; omega
  have k4 : scal (dI (N : Nat)) := by show InK .i64 _; rw [inK_i64]; omega
  repeat' first | assumption | (simp (disch := first | assumption | omega | (simp; done) | (simp; omega)) only [getD_bss, getD_iss, List.take_of_length_le, remV_pos]; try simp only [go_sem, Nat.reduceBEq, Nat.reduceLT, Nat.reduceLeDiff, Nat.reduceEqDiff, Nat.reduceAdd, Nat.reduceSub, Nat.reduceMul, ↓reduceIte, Int.reduceLE, Int.reduceLT, Int.reduceNeg, Int.reduceToNat, Int.reduceAdd, Int.reduceSub, Int.reduceMul, reduceCtorEq, Try.results42]) | (with_reducible refine And.intro ?_ ?_) | (with_reducible intro _) | (refine qcall_of (fun _ => ⟨q1, trivial⟩) ?_; simp only [go_sem, Nat.reduceBEq, Nat.reduceLT, Nat.reduceLeDiff, Nat.reduceEqDiff, Nat.reduceAdd, Nat.reduceSub, Nat.reduceMul, ↓reduceIte, Int.reduceLE, Int.reduceLT, Int.reduceNeg, Int.reduceToNat, Int.reduceAdd, Int.reduceSub, Int.reduceMul, reduceCtorEq, Try.results42]) | (refine qcall_of (fun _ => ⟨q3, k3⟩) ?_; simp only [go_sem, Nat.reduceBEq, Nat.reduceLT, Nat.reduceLeDiff, Nat.reduceEqDiff, Nat.reduceAdd, Nat.reduceSub, Nat.reduceMul, ↓reduceIte, Int.reduceLE, Int.reduceLT, Int.reduceNeg, Int.reduceToNat, Int.reduceAdd, Int.reduceSub, Int.reduceMul, reduceCtorEq, Try.results42]) | (refine qcall_of (fun _ => ⟨q4, k4⟩) ?_; simp only [go_sem, Nat.reduceBEq, Nat.reduceLT, Nat.reduceLeDiff, Nat.reduceEqDiff, Nat.reduceAdd, Nat.reduceSub, Nat.reduceMul, ↓reduceIte, Int.reduceLE, Int.reduceLT, Int.reduceNeg, Int.reduceToNat, Int.reduceAdd, Int.reduceSub, Int.reduceMul, reduceCtorEq, Try.results42]) | (refine pcall_fz (Try.c_detects c hv x v hs b) ?_; simp only [go_sem, Nat.reduceBEq, Nat.reduceLT, Nat.reduceLeDiff, Nat.reduceEqDiff, Nat.reduceAdd, Nat.reduceSub, Nat.reduceMul, ↓reduceIte, Int.reduceLE, Int.reduceLT, Int.reduceNeg, Int.reduceToNat, Int.reduceAdd, Int.reduceSub, Int.reduceMul, reduceCtorEq, Try.results42]) | (refine @Exists.intro I _ (I.d D.nil) ?_; simp only [go_sem, Nat.reduceBEq, Nat.reduceLT, Nat.reduceLeDiff, Nat.reduceEqDiff, Nat.reduceAdd, Nat.reduceSub, Nat.reduceMul, ↓reduceIte, Int.reduceLE, Int.reduceLT, Int.reduceNeg, Int.reduceToNat, Int.reduceAdd, Int.reduceSub, Int.reduceMul, reduceCtorEq, Try.results42]) | ((with_reducible (show Region.lexB _ _ = true)); kernel_rfl) | ((try rw [inK_i64]); omega)
  · rename_i h
    exfalso
    simp only [false_or] at h
    omega
theorem testOut_len {c : Circ} {st ins : List Bool} {k : Nat} : (testOut c st ins k).length = c.outs.length + k := by simp [testOut, litVs]
theorem rev_inj {n : Nat} {a b : List Bool} (ha : a.length = n) (hb : b.length = n) : ((List.range n).map fun j => a.getD (n - 1 - j) false) = ((List.range n).map fun j => b.getD (n - 1 - j) false) ↔ a = b := by
  constructor
  · intro h
    refine List.ext_getElem (by omega) fun j h1 h2 => ?_
    have := congrArg (fun l => l.getD (n - 1 - j) false) h
    simp only [range_map_get (show n - 1 - j < n by omega), show n - 1 - (n - 1 - j) = j by omega] at this
    simpa [List.getD, h1, h2] using this
  · rintro rfl; rfl
theorem forced_test {c : Circ} (hv : c.Valid) {st ins : List Bool} (h1 : st.length = c.next.length) (h2 : (ins.length : Int) = c.inputs) {v : Int} (hvf : c.first ≤ v) (b : Bool) :
    testOut (forced c v b) st ins c.next.length = testOut c st ins c.next.length ↔ litVs (values c st ins) c.roots = litVs (valS c st ins v b) c.roots := by
  have ho := forced_lits hv h1 h2 hvf b (ls := c.outs) hv.o
  have hn := forced_lits hv h1 h2 hvf b (ls := c.next) hv.n
  have eo : (forced c v b).outs = c.outs.map (forceLit v b) := rfl
  have en : (forced c v b).next = c.next.map (forceLit v b) := rfl
  have el : (forced c v b).next.length = c.next.length := by rw [en]; simp
  unfold testOut
  rw [el, eo, en, ho, hn]
  have hr : ∀ w, litVs w c.roots = litVs w c.next ++ litVs w c.outs := fun w => by simp [litVs, Circ.roots]
  rw [hr, hr]
  constructor
  · intro h
    obtain ⟨a1, a2⟩ := List.append_inj h (by simp [litVs])
    rw [(rev_inj (by simp [litVs]) (by simp [litVs])).1 a2, a1]
  · intro h
    obtain ⟨a1, a2⟩ := List.append_inj h (by simp [litVs])
    rw [a1, a2]
set_option maxHeartbeats 4000000 in
theorem Try.c_FnScanFaults (code : List Int) : Pure Try.prog 7 [dUs code] (.bool true) := by
  refine pure_of' (E := Try.env 0) Try.tok rfl 1000 Try.func7 rfl rfl Try.ntmps7 (by simp) fun ok => ?_
  simp only [go_sem, Nat.reduceBEq, Nat.reduceLT, Nat.reduceLeDiff, Nat.reduceEqDiff, Nat.reduceAdd, Nat.reduceSub, Nat.reduceMul, ↓reduceIte, Int.reduceLE, Int.reduceLT, Int.reduceNeg, Int.reduceToNat, Int.reduceAdd, Int.reduceSub, Int.reduceMul, reduceCtorEq] at ok
  simp only [go_sem, Nat.reduceBEq, Nat.reduceLT, Nat.reduceLeDiff, Nat.reduceEqDiff, Nat.reduceAdd, Nat.reduceSub, Nat.reduceMul, ↓reduceIte, Int.reduceLE, Int.reduceLT, Int.reduceNeg, Int.reduceToNat, Int.reduceAdd, Int.reduceSub, Int.reduceMul, reduceCtorEq, Try.results7]
  refine fun h0 => fcallE_of (Try.c_DrawApplyTest code) ?_
  rintro x ⟨c, st, ins, rfl⟩
  simp only [go_sem, Nat.reduceBEq, Nat.reduceLT, Nat.reduceLeDiff, Nat.reduceEqDiff, Nat.reduceAdd, Nat.reduceSub, Nat.reduceMul, ↓reduceIte, Int.reduceLE, Int.reduceLT, Int.reduceNeg, Int.reduceToNat, Int.reduceAdd, Int.reduceSub, Int.reduceMul, reduceCtorEq, Try.results7]
  refine pcall_fz (Try.c_ApplyTestA c st ins) ?_
  by_cases h : testOk c st ins
  rotate_left
  · have hs := Try.c_sApplyTestA c st ins
    rw [testAll_no h] at hs ⊢
    simp only [go_sem, Nat.reduceBEq, Nat.reduceLT, Nat.reduceLeDiff, Nat.reduceEqDiff, Nat.reduceAdd, Nat.reduceSub, Nat.reduceMul, ↓reduceIte, Int.reduceLE, Int.reduceLT, Int.reduceNeg, Int.reduceToNat, Int.reduceAdd, Int.reduceSub, Int.reduceMul, reduceCtorEq, Try.results7]
    repeat' first | assumption | (simp (disch := first | assumption | omega | (simp; done) | (simp; omega)) only [getD_bss, getD_iss, List.take_of_length_le, remV_pos]; try simp only [go_sem, Nat.reduceBEq, Nat.reduceLT, Nat.reduceLeDiff, Nat.reduceEqDiff, Nat.reduceAdd, Nat.reduceSub, Nat.reduceMul, ↓reduceIte, Int.reduceLE, Int.reduceLT, Int.reduceNeg, Int.reduceToNat, Int.reduceAdd, Int.reduceSub, Int.reduceMul, reduceCtorEq, Try.results7]) | (with_reducible refine And.intro ?_ ?_) | (with_reducible intro _) | (refine pcall_fz hs ?_; simp only [go_sem, Nat.reduceBEq, Nat.reduceLT, Nat.reduceLeDiff, Nat.reduceEqDiff, Nat.reduceAdd, Nat.reduceSub, Nat.reduceMul, ↓reduceIte, Int.reduceLE, Int.reduceLT, Int.reduceNeg, Int.reduceToNat, Int.reduceAdd, Int.reduceSub, Int.reduceMul, reduceCtorEq, Try.results7]) | (refine pcall_fz (Try.c_sameBools _ _) ?_; simp only [go_sem, Nat.reduceBEq, Nat.reduceLT, Nat.reduceLeDiff, Nat.reduceEqDiff, Nat.reduceAdd, Nat.reduceSub, Nat.reduceMul, ↓reduceIte, Int.reduceLE, Int.reduceLT, Int.reduceNeg, Int.reduceToNat, Int.reduceAdd, Int.reduceSub, Int.reduceMul, reduceCtorEq, Try.results7]) | (refine pcall_fz Try.c_alive ?_; simp only [go_sem, Nat.reduceBEq, Nat.reduceLT, Nat.reduceLeDiff, Nat.reduceEqDiff, Nat.reduceAdd, Nat.reduceSub, Nat.reduceMul, ↓reduceIte, Int.reduceLE, Int.reduceLT, Int.reduceNeg, Int.reduceToNat, Int.reduceAdd, Int.reduceSub, Int.reduceMul, reduceCtorEq, Try.results7]) | (refine @Exists.intro I _ (I.d D.nil) ?_; simp only [go_sem, Nat.reduceBEq, Nat.reduceLT, Nat.reduceLeDiff, Nat.reduceEqDiff, Nat.reduceAdd, Nat.reduceSub, Nat.reduceMul, ↓reduceIte, Int.reduceLE, Int.reduceLT, Int.reduceNeg, Int.reduceToNat, Int.reduceAdd, Int.reduceSub, Int.reduceMul, reduceCtorEq, Try.results7]) | ((with_reducible (show Region.lexB _ _ = true)); kernel_rfl) | ((try rw [inK_i64]); omega)
  have hs := Try.c_sApplyTestA c st ins
  have hta : testAll c st ins = testOut c st ins c.next.length := by unfold testAll; rw [if_pos h]
  rw [hta] at hs ⊢
  have hln := h.1.1.ln
  have hlg := h.1.1.lg
  have hlo := h.1.1.lo
  have hi0 := h.1.1.i0
  have hi1 := h.1.1.i1
  have hv := h.1.1
  have htl : (testOut c st ins c.next.length).length = c.outs.length + c.next.length := testOut_len
  by_cases hng : c.gates.length = 0
  · simp only [go_sem, Nat.reduceBEq, Nat.reduceLT, Nat.reduceLeDiff, Nat.reduceEqDiff, Nat.reduceAdd, Nat.reduceSub, Nat.reduceMul, ↓reduceIte, Int.reduceLE, Int.reduceLT, Int.reduceNeg, Int.reduceToNat, Int.reduceAdd, Int.reduceSub, Int.reduceMul, reduceCtorEq, Try.results7]
    repeat' first | assumption | (simp (disch := first | assumption | omega | (simp; done) | (simp; omega)) only [getD_bss, getD_iss, List.take_of_length_le, remV_pos]; try simp only [go_sem, Nat.reduceBEq, Nat.reduceLT, Nat.reduceLeDiff, Nat.reduceEqDiff, Nat.reduceAdd, Nat.reduceSub, Nat.reduceMul, ↓reduceIte, Int.reduceLE, Int.reduceLT, Int.reduceNeg, Int.reduceToNat, Int.reduceAdd, Int.reduceSub, Int.reduceMul, reduceCtorEq, Try.results7]) | (with_reducible refine And.intro ?_ ?_) | (with_reducible intro _) | (refine pcall_fz hs ?_; simp only [go_sem, Nat.reduceBEq, Nat.reduceLT, Nat.reduceLeDiff, Nat.reduceEqDiff, Nat.reduceAdd, Nat.reduceSub, Nat.reduceMul, ↓reduceIte, Int.reduceLE, Int.reduceLT, Int.reduceNeg, Int.reduceToNat, Int.reduceAdd, Int.reduceSub, Int.reduceMul, reduceCtorEq, Try.results7]) | (refine pcall_fz (Try.c_sameBools _ _) ?_; simp only [go_sem, Nat.reduceBEq, Nat.reduceLT, Nat.reduceLeDiff, Nat.reduceEqDiff, Nat.reduceAdd, Nat.reduceSub, Nat.reduceMul, ↓reduceIte, Int.reduceLE, Int.reduceLT, Int.reduceNeg, Int.reduceToNat, Int.reduceAdd, Int.reduceSub, Int.reduceMul, reduceCtorEq, Try.results7]) | (refine pcall_fz Try.c_alive ?_; simp only [go_sem, Nat.reduceBEq, Nat.reduceLT, Nat.reduceLeDiff, Nat.reduceEqDiff, Nat.reduceAdd, Nat.reduceSub, Nat.reduceMul, ↓reduceIte, Int.reduceLE, Int.reduceLT, Int.reduceNeg, Int.reduceToNat, Int.reduceAdd, Int.reduceSub, Int.reduceMul, reduceCtorEq, Try.results7]) | (refine @Exists.intro I _ (I.d D.nil) ?_; simp only [go_sem, Nat.reduceBEq, Nat.reduceLT, Nat.reduceLeDiff, Nat.reduceEqDiff, Nat.reduceAdd, Nat.reduceSub, Nat.reduceMul, ↓reduceIte, Int.reduceLE, Int.reduceLT, Int.reduceNeg, Int.reduceToNat, Int.reduceAdd, Int.reduceSub, Int.reduceMul, reduceCtorEq, Try.results7]) | ((with_reducible (show Region.lexB _ _ = true)); kernel_rfl) | ((try rw [inK_i64]); omega)
    all_goals (exfalso; omega)
  obtain ⟨v, hvd⟩ : ∃ v : Int, v = 1 + c.inputs + (c.next.length : Int) + (code.length : Int) % (c.gates.length : Int) := ⟨_, rfl⟩
  have hmod := Int.emod_lt_of_pos (code.length : Int) (show (0 : Int) < (c.gates.length : Int) by omega)
  have hmod0 := Int.emod_nonneg (code.length : Int) (show (c.gates.length : Int) ≠ 0 by omega)
  simp only [go_sem, Nat.reduceBEq, Nat.reduceLT, Nat.reduceLeDiff, Nat.reduceEqDiff, Nat.reduceAdd, Nat.reduceSub, Nat.reduceMul, ↓reduceIte, Int.reduceLE, Int.reduceLT, Int.reduceNeg, Int.reduceToNat, Int.reduceAdd, Int.reduceSub, Int.reduceMul, reduceCtorEq, Try.results7]
  repeat' first | assumption | (simp (disch := first | assumption | omega | (simp; done) | (simp; omega)) only [getD_bss, getD_iss, List.take_of_length_le, remV_pos]; try simp only [go_sem, Nat.reduceBEq, Nat.reduceLT, Nat.reduceLeDiff, Nat.reduceEqDiff, Nat.reduceAdd, Nat.reduceSub, Nat.reduceMul, ↓reduceIte, Int.reduceLE, Int.reduceLT, Int.reduceNeg, Int.reduceToNat, Int.reduceAdd, Int.reduceSub, Int.reduceMul, reduceCtorEq, Try.results7]) | (with_reducible refine And.intro ?_ ?_) | (with_reducible intro _) | (refine pcall_fz hs ?_; simp only [go_sem, Nat.reduceBEq, Nat.reduceLT, Nat.reduceLeDiff, Nat.reduceEqDiff, Nat.reduceAdd, Nat.reduceSub, Nat.reduceMul, ↓reduceIte, Int.reduceLE, Int.reduceLT, Int.reduceNeg, Int.reduceToNat, Int.reduceAdd, Int.reduceSub, Int.reduceMul, reduceCtorEq, Try.results7]) | (refine pcall_fz (Try.c_sameBools _ _) ?_; simp only [go_sem, Nat.reduceBEq, Nat.reduceLT, Nat.reduceLeDiff, Nat.reduceEqDiff, Nat.reduceAdd, Nat.reduceSub, Nat.reduceMul, ↓reduceIte, Int.reduceLE, Int.reduceLT, Int.reduceNeg, Int.reduceToNat, Int.reduceAdd, Int.reduceSub, Int.reduceMul, reduceCtorEq, Try.results7]) | (refine pcall_fz Try.c_alive ?_; simp only [go_sem, Nat.reduceBEq, Nat.reduceLT, Nat.reduceLeDiff, Nat.reduceEqDiff, Nat.reduceAdd, Nat.reduceSub, Nat.reduceMul, ↓reduceIte, Int.reduceLE, Int.reduceLT, Int.reduceNeg, Int.reduceToNat, Int.reduceAdd, Int.reduceSub, Int.reduceMul, reduceCtorEq, Try.results7]) | (refine @Exists.intro I _ (I.d D.nil) ?_; simp only [go_sem, Nat.reduceBEq, Nat.reduceLT, Nat.reduceLeDiff, Nat.reduceEqDiff, Nat.reduceAdd, Nat.reduceSub, Nat.reduceMul, ↓reduceIte, Int.reduceLE, Int.reduceLT, Int.reduceNeg, Int.reduceToNat, Int.reduceAdd, Int.reduceSub, Int.reduceMul, reduceCtorEq, Try.results7]) | ((with_reducible (show Region.lexB _ _ = true)); kernel_rfl) | ((try rw [inK_i64]); omega)
  have hvv : c.first ≤ v ∧ v < c.vars := by unfold Circ.vars Circ.first; omega
  rw [← hvd]
  obtain ⟨I, hI⟩ : ∃ I : Nat, c.inputs = I := ⟨c.inputs.toNat, by omega⟩
  have hsl := h.2.1
  have hil : ins.length = I := by have := h.2.2; omega
  have hbs := fun k => numN_bd st k
  have hbi := fun k => numN_bd ins k
  have hpp : ∀ k, k ≤ 8 → (1 : Int) ≤ 2 ^ k ∧ (2 : Int) ^ k ≤ 256 := fun k hk => by
    have h1 : 2 ^ k ≤ 2 ^ 8 := Nat.pow_le_pow_right (by omega) hk
    have h2 : 1 ≤ 2 ^ k := Nat.one_le_two_pow
    have e : (2 : Int) ^ k = ((2 ^ k : Nat) : Int) := by simp
    omega
  have hbd : ∀ k, k ≤ 3 → 0 ≤ 2 ^ I * numN st k ∧ 2 ^ I * numN st k ≤ 16 * 8 := fun k hk => by
    have h1 := hbs k
    have h2 := hpp k (by omega)
    have h3 : (2 : Int) ^ I ≤ 16 := by
      have h1 : 2 ^ I ≤ 2 ^ 4 := Nat.pow_le_pow_right (by omega) (by omega)
      have e : (2 : Int) ^ I = ((2 ^ I : Nat) : Int) := by simp
      omega
    have h4 : (2 : Int) ^ k ≤ 8 := by
      have h1 : 2 ^ k ≤ 2 ^ 3 := Nat.pow_le_pow_right (by omega) (by omega)
      have e : (2 : Int) ^ k = ((2 ^ k : Nat) : Int) := by simp
      omega
    have h5 := hpp I (by omega)
    exact ⟨Int.mul_nonneg (by omega) h1.1, Int.mul_le_mul h3 (by omega) h1.1 (by omega)⟩
  refine loop_of (E := Try.env 0) Try.tok (σ := Nat) (fun k => [(3, .ptr 0 0), (4, .d (dBs st)), (5, .d (dBs ins)), (6, .d (dBs (testOut c st ins c.next.length))), (7, .d (dI v)), (8, .d (dI (2 ^ I * numN st k))), (9, .d (dI k))])
    (fun _ => [.box [.d (dI c.inputs), .d (dIs c.next), .d (dPs c.gates), .d (dIs c.outs)]]) (fun k => k ≤ st.length) (fun k => st.length - k) [] 1000 1000 ?_ ?_ ?_
  · simp only [go_sem, Nat.reduceBEq, Nat.reduceLT, Nat.reduceLeDiff, Nat.reduceEqDiff, Nat.reduceAdd, Nat.reduceSub, Nat.reduceMul, ↓reduceIte, Int.reduceLE, Int.reduceLT, Int.reduceNeg, Int.reduceToNat, Int.reduceAdd, Int.reduceSub, Int.reduceMul, reduceCtorEq]
  · simp only [go_sem, Nat.reduceBEq, Nat.reduceLT, Nat.reduceLeDiff, Nat.reduceEqDiff, Nat.reduceAdd, Nat.reduceSub, Nat.reduceMul, ↓reduceIte, Int.reduceLE, Int.reduceLT, Int.reduceNeg, Int.reduceToNat, Int.reduceAdd, Int.reduceSub, Int.reduceMul, reduceCtorEq]
    exact ⟨0, by omega, by simp [numN], rfl⟩
  · intro k hk
    by_cases hlt : k < st.length
    · have hE : (c.inputs + (k : Int)).toNat = I + k := by omega
      have hnx : numN st (k + 1) = numN st k + if st.getD k false then 2 ^ k else 0 := rfl
      have hq := hpp (I + k) (by omega)
      have hb := hbd k (by omega)
      have hb1 := hbd (k + 1) (by omega)
      have hpe : (2 : Int) ^ (I + k) = 2 ^ I * 2 ^ k := Int.pow_add ..
      simp only [go_sem, Nat.reduceBEq, Nat.reduceLT, Nat.reduceLeDiff, Nat.reduceEqDiff, Nat.reduceAdd, Nat.reduceSub, Nat.reduceMul, ↓reduceIte, Int.reduceLE, Int.reduceLT, Int.reduceNeg, Int.reduceToNat, Int.reduceAdd, Int.reduceSub, Int.reduceMul, reduceCtorEq, Try.results7, hE]
      repeat' first | assumption | (simp (disch := first | assumption | omega | (simp; done) | (simp; omega)) only [getD_bss, getD_iss, List.take_of_length_le, remV_pos]; try simp only [go_sem, Nat.reduceBEq, Nat.reduceLT, Nat.reduceLeDiff, Nat.reduceEqDiff, Nat.reduceAdd, Nat.reduceSub, Nat.reduceMul, ↓reduceIte, Int.reduceLE, Int.reduceLT, Int.reduceNeg, Int.reduceToNat, Int.reduceAdd, Int.reduceSub, Int.reduceMul, reduceCtorEq, Try.results7, hE]) | (with_reducible refine And.intro ?_ ?_) | (with_reducible intro _) | (refine @Exists.intro I _ (I.d D.nil) ?_; simp only [go_sem, Nat.reduceBEq, Nat.reduceLT, Nat.reduceLeDiff, Nat.reduceEqDiff, Nat.reduceAdd, Nat.reduceSub, Nat.reduceMul, ↓reduceIte, Int.reduceLE, Int.reduceLT, Int.reduceNeg, Int.reduceToNat, Int.reduceAdd, Int.reduceSub, Int.reduceMul, reduceCtorEq, Try.results7, hE]) | ((with_reducible (show Region.lexB _ _ = true)); kernel_rfl) | ((try rw [inK_i64]); omega)
      · rename_i h1 h2
        exact ⟨k + 1, by omega, by omega, by rw [hnx, h2, if_pos rfl, Int.mul_add, hpe], rfl⟩
      · rename_i h1 h2
        exact ⟨k + 1, by omega, by omega, by rw [hnx, h2]; simp, rfl⟩
    · obtain rfl : k = st.length := by omega
      have hB := hbd st.length (by omega)
      generalize hS : numN st st.length = S at *
      simp only [go_sem, Nat.reduceBEq, Nat.reduceLT, Nat.reduceLeDiff, Nat.reduceEqDiff, Nat.reduceAdd, Nat.reduceSub, Nat.reduceMul, ↓reduceIte, Int.reduceLE, Int.reduceLT, Int.reduceNeg, Int.reduceToNat, Int.reduceAdd, Int.reduceSub, Int.reduceMul, reduceCtorEq, Try.results7]
      repeat' first | assumption | (simp (disch := first | assumption | omega | (simp; done) | (simp; omega)) only [getD_bss, getD_iss, List.take_of_length_le, remV_pos]; try simp only [go_sem, Nat.reduceBEq, Nat.reduceLT, Nat.reduceLeDiff, Nat.reduceEqDiff, Nat.reduceAdd, Nat.reduceSub, Nat.reduceMul, ↓reduceIte, Int.reduceLE, Int.reduceLT, Int.reduceNeg, Int.reduceToNat, Int.reduceAdd, Int.reduceSub, Int.reduceMul, reduceCtorEq, Try.results7]) | (with_reducible refine And.intro ?_ ?_) | (with_reducible intro _) | (refine @Exists.intro I _ (I.d D.nil) ?_; simp only [go_sem, Nat.reduceBEq, Nat.reduceLT, Nat.reduceLeDiff, Nat.reduceEqDiff, Nat.reduceAdd, Nat.reduceSub, Nat.reduceMul, ↓reduceIte, Int.reduceLE, Int.reduceLT, Int.reduceNeg, Int.reduceToNat, Int.reduceAdd, Int.reduceSub, Int.reduceMul, reduceCtorEq, Try.results7]) | ((with_reducible (show Region.lexB _ _ = true)); kernel_rfl) | ((try rw [inK_i64]); omega)
      refine loop_of (E := Try.env 0) Try.tok (σ := Nat) (fun k => [(3, .ptr 0 0), (4, .d (dBs st)), (5, .d (dBs ins)), (6, .d (dBs (testOut c st ins c.next.length))), (7, .d (dI v)), (8, .d (dI (2 ^ I * S + numN ins k))), (10, .d (dI k))])
        (fun _ => [.box [.d (dI c.inputs), .d (dIs c.next), .d (dPs c.gates), .d (dIs c.outs)]]) (fun k => k ≤ ins.length) (fun k => ins.length - k) [] 1000 1000 ?_ ?_ ?_
      · simp only [go_sem, Nat.reduceBEq, Nat.reduceLT, Nat.reduceLeDiff, Nat.reduceEqDiff, Nat.reduceAdd, Nat.reduceSub, Nat.reduceMul, ↓reduceIte, Int.reduceLE, Int.reduceLT, Int.reduceNeg, Int.reduceToNat, Int.reduceAdd, Int.reduceSub, Int.reduceMul, reduceCtorEq]
      · simp only [go_sem, Nat.reduceBEq, Nat.reduceLT, Nat.reduceLeDiff, Nat.reduceEqDiff, Nat.reduceAdd, Nat.reduceSub, Nat.reduceMul, ↓reduceIte, Int.reduceLE, Int.reduceLT, Int.reduceNeg, Int.reduceToNat, Int.reduceAdd, Int.reduceSub, Int.reduceMul, reduceCtorEq]
        exact ⟨0, by omega, by simp [numN], rfl⟩
      · intro k hk
        have hik := hbi k
        have hpk := hpp k (by omega)
        by_cases hlt : k < ins.length
        · have hnx : numN ins (k + 1) = numN ins k + if ins.getD k false then 2 ^ k else 0 := rfl
          simp only [go_sem, Nat.reduceBEq, Nat.reduceLT, Nat.reduceLeDiff, Nat.reduceEqDiff, Nat.reduceAdd, Nat.reduceSub, Nat.reduceMul, ↓reduceIte, Int.reduceLE, Int.reduceLT, Int.reduceNeg, Int.reduceToNat, Int.reduceAdd, Int.reduceSub, Int.reduceMul, reduceCtorEq, Try.results7]
          repeat' first | assumption | (simp (disch := first | assumption | omega | (simp; done) | (simp; omega)) only [getD_bss, getD_iss, List.take_of_length_le, remV_pos]; try simp only [go_sem, Nat.reduceBEq, Nat.reduceLT, Nat.reduceLeDiff, Nat.reduceEqDiff, Nat.reduceAdd, Nat.reduceSub, Nat.reduceMul, ↓reduceIte, Int.reduceLE, Int.reduceLT, Int.reduceNeg, Int.reduceToNat, Int.reduceAdd, Int.reduceSub, Int.reduceMul, reduceCtorEq, Try.results7]) | (with_reducible refine And.intro ?_ ?_) | (with_reducible intro _) | (refine @Exists.intro I _ (I.d D.nil) ?_; simp only [go_sem, Nat.reduceBEq, Nat.reduceLT, Nat.reduceLeDiff, Nat.reduceEqDiff, Nat.reduceAdd, Nat.reduceSub, Nat.reduceMul, ↓reduceIte, Int.reduceLE, Int.reduceLT, Int.reduceNeg, Int.reduceToNat, Int.reduceAdd, Int.reduceSub, Int.reduceMul, reduceCtorEq, Try.results7]) | ((with_reducible (show Region.lexB _ _ = true)); kernel_rfl) | ((try rw [inK_i64]); omega)
          · rename_i h1 h2
            exact ⟨k + 1, by omega, by omega, by rw [hnx, h2, if_pos rfl, Int.add_assoc], rfl⟩
          · rename_i h1 h2
            exact ⟨k + 1, by omega, by omega, by rw [hnx, h2]; simp, rfl⟩
        · obtain rfl : k = ins.length := by omega
          have hb1 := bits_num ins S (by have := hbs st.length; omega)
          have hb2 := num_div ins S
          have hb3 := bits_num st 0 (Int.le_refl _)
          rw [Int.mul_zero, Int.add_zero, hS] at hb3
          obtain ⟨X, hX⟩ : ∃ X : Nat, (X : Int) = 2 ^ I * S + numN ins ins.length := ⟨(2 ^ I * S + numN ins ins.length).toNat, by omega⟩
          have hX2 : numN ins ins.length + 2 ^ ins.length * S = (X : Int) := by rw [hX, hil, Int.add_comm]
          rw [hX2, hil] at hb1 hb2
          have hIt : c.inputs.toNat = I := by omega
          have hst2 : bitsOf ((X : Int) / 2 ^ c.inputs.toNat) c.next.length = st := by rw [hIt, hb2, ← hsl, hb3]
          have hin2 : bitsOf (X : Int) c.inputs.toNat = ins := by rw [hIt, hb1]
          have hXlt : X < 2 ^ (c.inputs.toNat + c.next.length) := by
            have h1 := hbs st.length
            rw [hS] at h1
            have e1 : ((2 ^ (c.inputs.toNat + c.next.length) : Nat) : Int) = 2 ^ I * 2 ^ st.length := by rw [hIt, hsl]; simp [Int.pow_add]
            have h2 : 2 ^ I * (S + 1) ≤ 2 ^ I * 2 ^ st.length := Int.mul_le_mul_of_nonneg_left (by omega) (by have := hpp I (by omega); omega)
            rw [Int.mul_add, Int.mul_one] at h2
            rw [hil] at hX hik
            omega
          rw [← hX]
          simp only [go_sem, Nat.reduceBEq, Nat.reduceLT, Nat.reduceLeDiff, Nat.reduceEqDiff, Nat.reduceAdd, Nat.reduceSub, Nat.reduceMul, ↓reduceIte, Int.reduceLE, Int.reduceLT, Int.reduceNeg, Int.reduceToNat, Int.reduceAdd, Int.reduceSub, Int.reduceMul, reduceCtorEq, Try.results7]
          repeat' first | assumption | (simp (disch := first | assumption | omega | (simp; done) | (simp; omega)) only [getD_bss, getD_iss, List.take_of_length_le, remV_pos]; try simp only [go_sem, Nat.reduceBEq, Nat.reduceLT, Nat.reduceLeDiff, Nat.reduceEqDiff, Nat.reduceAdd, Nat.reduceSub, Nat.reduceMul, ↓reduceIte, Int.reduceLE, Int.reduceLT, Int.reduceNeg, Int.reduceToNat, Int.reduceAdd, Int.reduceSub, Int.reduceMul, reduceCtorEq, Try.results7]) | (with_reducible refine And.intro ?_ ?_) | (with_reducible intro _) | (refine @Exists.intro I _ (I.d D.nil) ?_; simp only [go_sem, Nat.reduceBEq, Nat.reduceLT, Nat.reduceLeDiff, Nat.reduceEqDiff, Nat.reduceAdd, Nat.reduceSub, Nat.reduceMul, ↓reduceIte, Int.reduceLE, Int.reduceLT, Int.reduceNeg, Int.reduceToNat, Int.reduceAdd, Int.reduceSub, Int.reduceMul, reduceCtorEq, Try.results7]) | ((with_reducible (show Region.lexB _ _ = true)); kernel_rfl) | ((try rw [inK_i64]); omega)
          refine loop_of (E := Try.env 0) Try.tok (σ := Nat) (fun k => [(3, .ptr 0 0), (4, .d (dBs st)), (5, .d (dBs ins)), (6, .d (dBs (testOut c st ins c.next.length))), (7, .d (dI v)), (8, .d (dI X)), (11, .d (dI k))])
            (fun _ => [.box [.d (dI c.inputs), .d (dIs c.next), .d (dPs c.gates), .d (dIs c.outs)]]) (fun k => k ≤ 2) (fun k => 2 - k) [] 1000 1000 ?_ ?_ ?_
          · simp only [go_sem, Nat.reduceBEq, Nat.reduceLT, Nat.reduceLeDiff, Nat.reduceEqDiff, Nat.reduceAdd, Nat.reduceSub, Nat.reduceMul, ↓reduceIte, Int.reduceLE, Int.reduceLT, Int.reduceNeg, Int.reduceToNat, Int.reduceAdd, Int.reduceSub, Int.reduceMul, reduceCtorEq]
          · simp only [go_sem, Nat.reduceBEq, Nat.reduceLT, Nat.reduceLeDiff, Nat.reduceEqDiff, Nat.reduceAdd, Nat.reduceSub, Nat.reduceMul, ↓reduceIte, Int.reduceLE, Int.reduceLT, Int.reduceNeg, Int.reduceToNat, Int.reduceAdd, Int.reduceSub, Int.reduceMul, reduceCtorEq]
            exact ⟨0, by omega, rfl⟩
          · intro k hk
            by_cases hlt : k < 2
            · obtain ⟨b, hbk⟩ : ∃ b : Bool, decide ((k : Int) = 1) = b := ⟨_, rfl⟩
              have q1 := Try.c_ForceGate c hv v hvv b
              have q2 := Try.c_ApplyTestA (forced c v b) st ins
              have hok : testOk (forced c v b) st ins := ⟨forced_scan h.1 v b, by rw [h.2.1]; simp [forced, cmap], h.2.2⟩
              have hta2 : testAll (forced c v b) st ins = testOut (forced c v b) st ins c.next.length := by
                unfold testAll; rw [if_pos hok]; simp [forced, cmap]
              rw [hta2] at q2
              have q3 := Try.c_sameBools (testOut (forced c v b) st ins c.next.length) (testOut c st ins c.next.length)
              have q4 := Try.c_Detects c hv X hXlt v hvv b
              rw [hst2, hin2, show atX c X = values c st ins by unfold atX; rw [hst2, hin2]] at q4
              rw [decide_eq_decide.2 (forced_test hv h.2.1 h.2.2 hvv.1 b)] at q3
              generalize decide (litVs (values c st ins) c.roots = litVs (valS c st ins v b) c.roots) = e at *
              simp only [go_sem, Nat.reduceBEq, Nat.reduceLT, Nat.reduceLeDiff, Nat.reduceEqDiff, Nat.reduceAdd, Nat.reduceSub, Nat.reduceMul, ↓reduceIte, Int.reduceLE, Int.reduceLT, Int.reduceNeg, Int.reduceToNat, Int.reduceAdd, Int.reduceSub, Int.reduceMul, reduceCtorEq, Try.results7, hbk]
              repeat' first | assumption | (simp (disch := first | assumption | omega | (simp; done) | (simp; omega)) only [getD_bss, getD_iss, List.take_of_length_le, remV_pos]; try simp only [go_sem, Nat.reduceBEq, Nat.reduceLT, Nat.reduceLeDiff, Nat.reduceEqDiff, Nat.reduceAdd, Nat.reduceSub, Nat.reduceMul, ↓reduceIte, Int.reduceLE, Int.reduceLT, Int.reduceNeg, Int.reduceToNat, Int.reduceAdd, Int.reduceSub, Int.reduceMul, reduceCtorEq, Try.results7, hbk]) | (with_reducible refine And.intro ?_ ?_) | (with_reducible intro _) | (refine pcall_fz q1 ?_; simp only [go_sem, Nat.reduceBEq, Nat.reduceLT, Nat.reduceLeDiff, Nat.reduceEqDiff, Nat.reduceAdd, Nat.reduceSub, Nat.reduceMul, ↓reduceIte, Int.reduceLE, Int.reduceLT, Int.reduceNeg, Int.reduceToNat, Int.reduceAdd, Int.reduceSub, Int.reduceMul, reduceCtorEq, Try.results7, hbk]) | (refine pcall_fz q2 ?_; simp only [go_sem, Nat.reduceBEq, Nat.reduceLT, Nat.reduceLeDiff, Nat.reduceEqDiff, Nat.reduceAdd, Nat.reduceSub, Nat.reduceMul, ↓reduceIte, Int.reduceLE, Int.reduceLT, Int.reduceNeg, Int.reduceToNat, Int.reduceAdd, Int.reduceSub, Int.reduceMul, reduceCtorEq, Try.results7, hbk]) | (refine qcall_of (fun _ => ⟨q3, trivial⟩) ?_; simp only [go_sem, Nat.reduceBEq, Nat.reduceLT, Nat.reduceLeDiff, Nat.reduceEqDiff, Nat.reduceAdd, Nat.reduceSub, Nat.reduceMul, ↓reduceIte, Int.reduceLE, Int.reduceLT, Int.reduceNeg, Int.reduceToNat, Int.reduceAdd, Int.reduceSub, Int.reduceMul, reduceCtorEq, Try.results7, hbk]) | (refine qcall_of (fun _ => ⟨q4, trivial⟩) ?_; simp only [go_sem, Nat.reduceBEq, Nat.reduceLT, Nat.reduceLeDiff, Nat.reduceEqDiff, Nat.reduceAdd, Nat.reduceSub, Nat.reduceMul, ↓reduceIte, Int.reduceLE, Int.reduceLT, Int.reduceNeg, Int.reduceToNat, Int.reduceAdd, Int.reduceSub, Int.reduceMul, reduceCtorEq, Try.results7, hbk]) | (refine @Exists.intro I _ (I.d D.nil) ?_; simp only [go_sem, Nat.reduceBEq, Nat.reduceLT, Nat.reduceLeDiff, Nat.reduceEqDiff, Nat.reduceAdd, Nat.reduceSub, Nat.reduceMul, ↓reduceIte, Int.reduceLE, Int.reduceLT, Int.reduceNeg, Int.reduceToNat, Int.reduceAdd, Int.reduceSub, Int.reduceMul, reduceCtorEq, Try.results7, hbk]) | ((with_reducible (show Region.lexB _ _ = true)); kernel_rfl) | ((try rw [inK_i64]); omega)
              · rename_i h9
                cases e <;> simp at h9
              · exact ⟨k + 1, by omega, by omega, rfl⟩
            · simp only [go_sem, Nat.reduceBEq, Nat.reduceLT, Nat.reduceLeDiff, Nat.reduceEqDiff, Nat.reduceAdd, Nat.reduceSub, Nat.reduceMul, ↓reduceIte, Int.reduceLE, Int.reduceLT, Int.reduceNeg, Int.reduceToNat, Int.reduceAdd, Int.reduceSub, Int.reduceMul, reduceCtorEq, Try.results7]
              repeat' first | assumption | (simp (disch := first | assumption | omega | (simp; done) | (simp; omega)) only [getD_bss, getD_iss, List.take_of_length_le, remV_pos]; try simp only [go_sem, Nat.reduceBEq, Nat.reduceLT, Nat.reduceLeDiff, Nat.reduceEqDiff, Nat.reduceAdd, Nat.reduceSub, Nat.reduceMul, ↓reduceIte, Int.reduceLE, Int.reduceLT, Int.reduceNeg, Int.reduceToNat, Int.reduceAdd, Int.reduceSub, Int.reduceMul, reduceCtorEq, Try.results7]) | (with_reducible refine And.intro ?_ ?_) | (with_reducible intro _) | (refine @Exists.intro I _ (I.d D.nil) ?_; simp only [go_sem, Nat.reduceBEq, Nat.reduceLT, Nat.reduceLeDiff, Nat.reduceEqDiff, Nat.reduceAdd, Nat.reduceSub, Nat.reduceMul, ↓reduceIte, Int.reduceLE, Int.reduceLT, Int.reduceNeg, Int.reduceToNat, Int.reduceAdd, Int.reduceSub, Int.reduceMul, reduceCtorEq, Try.results7]) | ((with_reducible (show Region.lexB _ _ = true)); kernel_rfl) | ((try rw [inK_i64]); omega)
end Go.Proofs
