/- Contracts: the laws of scan chains. Conditions: none; lemmas. -/
import Derived.Test.YtligdkhdnebaoaaC20
import Derived.Test.YtligdkhdnebaoaaC19
import Derived.Test.YtligdkhdnebaoaaC21
set_option maxRecDepth 20000
set_option linter.unusedVariables false
set_option linter.unusedSimpArgs false
namespace Go.Proofs
open Go Go.VL

theorem pow_small {e : Nat} (h : e ≤ 6) : 1 ≤ 2 ^ e ∧ 2 ^ e ≤ 64 := ⟨Nat.one_le_two_pow, by have := Nat.pow_le_pow_right (n := 2) (by omega) h; simpa using this⟩
set_option maxHeartbeats 20000000 in
theorem Try.c_FnScanShift (code : List Int) : Pure Try.prog 4 [dUs code] (.bool true) := by
  refine pure_of' (E := Try.env 0) Try.tok rfl 1000 Try.func4 rfl rfl Try.ntmps4 (by simp) fun ok => ?_
  simp only [go_sem, Nat.reduceBEq, Nat.reduceLT, Nat.reduceLeDiff, Nat.reduceEqDiff, Nat.reduceAdd, Nat.reduceSub, Nat.reduceMul, ↓reduceIte, Int.reduceLE, Int.reduceLT, Int.reduceNeg, Int.reduceToNat, Int.reduceAdd, Int.reduceSub, Int.reduceMul, reduceCtorEq] at ok
  simp only [go_sem, Nat.reduceBEq, Nat.reduceLT, Nat.reduceLeDiff, Nat.reduceEqDiff, Nat.reduceAdd, Nat.reduceSub, Nat.reduceMul, ↓reduceIte, Int.reduceLE, Int.reduceLT, Int.reduceNeg, Int.reduceToNat, Int.reduceAdd, Int.reduceSub, Int.reduceMul, reduceCtorEq, Try.results4]
  refine fun h0 => fcallE_of (Try.c_DrawInsertScan code) ?_
  rintro x ⟨c, rfl⟩
  simp only [go_sem, Nat.reduceBEq, Nat.reduceLT, Nat.reduceLeDiff, Nat.reduceEqDiff, Nat.reduceAdd, Nat.reduceSub, Nat.reduceMul, ↓reduceIte, Int.reduceLE, Int.reduceLT, Int.reduceNeg, Int.reduceToNat, Int.reduceAdd, Int.reduceSub, Int.reduceMul, reduceCtorEq, Try.results4]
  refine pcall_fz (Try.c_InsertScanA c) ?_
  simp only [go_sem, Nat.reduceBEq, Nat.reduceLT, Nat.reduceLeDiff, Nat.reduceEqDiff, Nat.reduceAdd, Nat.reduceSub, Nat.reduceMul, ↓reduceIte, Int.reduceLE, Int.reduceLT, Int.reduceNeg, Int.reduceToNat, Int.reduceAdd, Int.reduceSub, Int.reduceMul, reduceCtorEq, Try.results4]
  refine drawn_of (E := Try.env 0) Try.tok Try.follows 1000 1000 [] (.fst 0 (.fst 1 (.one 2 (.one 3 (.fst 4 (.done)))))) (by kernel_rfl) ?_
  simp only [go_sem, Nat.reduceBEq, Nat.reduceLT, Nat.reduceLeDiff, Nat.reduceEqDiff, Nat.reduceAdd, Nat.reduceSub, Nat.reduceMul, ↓reduceIte, Int.reduceLE, Int.reduceLT, Int.reduceNeg, Int.reduceToNat, Int.reduceAdd, Int.reduceSub, Int.reduceMul, reduceCtorEq, Try.results4]
  repeat' first | assumption | (simp (disch := first | assumption | omega | (simp; done) | (simp; omega)) only [getD_bss, getD_iss, List.take_of_length_le, remV_pos]; try simp only [go_sem, Nat.reduceBEq, Nat.reduceLT, Nat.reduceLeDiff, Nat.reduceEqDiff, Nat.reduceAdd, Nat.reduceSub, Nat.reduceMul, ↓reduceIte, Int.reduceLE, Int.reduceLT, Int.reduceNeg, Int.reduceToNat, Int.reduceAdd, Int.reduceSub, Int.reduceMul, reduceCtorEq, Try.results4]) | (with_reducible refine And.intro ?_ ?_) | (with_reducible intro _) | (refine pcall_fz (Try.c_sInsertScanA c) ?_; simp only [go_sem, Nat.reduceBEq, Nat.reduceLT, Nat.reduceLeDiff, Nat.reduceEqDiff, Nat.reduceAdd, Nat.reduceSub, Nat.reduceMul, ↓reduceIte, Int.reduceLE, Int.reduceLT, Int.reduceNeg, Int.reduceToNat, Int.reduceAdd, Int.reduceSub, Int.reduceMul, reduceCtorEq, Try.results4]) | (refine pcall_fz (Try.c_sameCircuit _ _) ?_; simp only [go_sem, Nat.reduceBEq, Nat.reduceLT, Nat.reduceLeDiff, Nat.reduceEqDiff, Nat.reduceAdd, Nat.reduceSub, Nat.reduceMul, ↓reduceIte, Int.reduceLE, Int.reduceLT, Int.reduceNeg, Int.reduceToNat, Int.reduceAdd, Int.reduceSub, Int.reduceMul, reduceCtorEq, Try.results4]) | (refine pcall_fz (Try.c_sCanScan c) ?_; simp only [go_sem, Nat.reduceBEq, Nat.reduceLT, Nat.reduceLeDiff, Nat.reduceEqDiff, Nat.reduceAdd, Nat.reduceSub, Nat.reduceMul, ↓reduceIte, Int.reduceLE, Int.reduceLT, Int.reduceNeg, Int.reduceToNat, Int.reduceAdd, Int.reduceSub, Int.reduceMul, reduceCtorEq, Try.results4]) | (refine pcall_fz Try.c_alive ?_; simp only [go_sem, Nat.reduceBEq, Nat.reduceLT, Nat.reduceLeDiff, Nat.reduceEqDiff, Nat.reduceAdd, Nat.reduceSub, Nat.reduceMul, ↓reduceIte, Int.reduceLE, Int.reduceLT, Int.reduceNeg, Int.reduceToNat, Int.reduceAdd, Int.reduceSub, Int.reduceMul, reduceCtorEq, Try.results4]) | (refine @Exists.intro I _ (I.d D.nil) ?_; simp only [go_sem, Nat.reduceBEq, Nat.reduceLT, Nat.reduceLeDiff, Nat.reduceEqDiff, Nat.reduceAdd, Nat.reduceSub, Nat.reduceMul, ↓reduceIte, Int.reduceLE, Int.reduceLT, Int.reduceNeg, Int.reduceToNat, Int.reduceAdd, Int.reduceSub, Int.reduceMul, reduceCtorEq, Try.results4]) | ((with_reducible (show Region.lexB _ _ = true)); kernel_rfl) | ((try rw [inK_i64]); omega)
  rename_i hc
  have hsa : scanAll c = scanned c := by unfold scanAll; rw [if_pos hc]
  rw [hsa]
  have hv := scanned_valid hc
  have hi0 := hc.1.i0
  have hc' := hc
  obtain ⟨hcv, hc1, hc2, hc3, hc4⟩ := hc
  have hln := hcv.ln
  obtain ⟨I, hI⟩ : ∃ I : Nat, c.inputs = I := ⟨c.inputs.toNat, by omega⟩
  have hpw := pow_small (show I + c.next.length + 1 ≤ 6 by omega)
  refine loop_of (E := Try.env 0) Try.tok (σ := Nat) (fun k => [(3, .ptr 0 0), (4, .ptr 1 0), (5, .d (dI k))]) (fun k => [.box [.d (dI c.inputs), .d (dIs c.next), .d (dPs c.gates), .d (dIs c.outs)], .box [.d (dI (scanned c).inputs), .d (dIs (scanned c).next), .d (dPs (scanned c).gates), .d (dIs (scanned c).outs)]]) (fun k => k ≤ 2 ^ (I + c.next.length + 1)) (fun k => 2 ^ (I + c.next.length + 1) - k) [] 1000 1000 ?_ ?_ ?_
  · simp only [go_sem, Nat.reduceBEq, Nat.reduceLT, Nat.reduceLeDiff, Nat.reduceEqDiff, Nat.reduceAdd, Nat.reduceSub, Nat.reduceMul, ↓reduceIte, Int.reduceLE, Int.reduceLT, Int.reduceNeg, Int.reduceToNat, Int.reduceAdd, Int.reduceSub, Int.reduceMul, reduceCtorEq]
  · simp only [go_sem, Nat.reduceBEq, Nat.reduceLT, Nat.reduceLeDiff, Nat.reduceEqDiff, Nat.reduceAdd, Nat.reduceSub, Nat.reduceMul, ↓reduceIte, Int.reduceLE, Int.reduceLT, Int.reduceNeg, Int.reduceToNat, Int.reduceAdd, Int.reduceSub, Int.reduceMul, reduceCtorEq]
    exact ⟨0, by omega, rfl⟩
  · intro k hk
    have hE : (c.inputs + (c.next.length : Int) + 1).toNat = I + c.next.length + 1 := by omega
    have hP : (2 : Int) ^ (I + c.next.length + 1) = ((2 ^ (I + c.next.length + 1) : Nat) : Int) := by simp
    simp only [go_sem, Nat.reduceBEq, Nat.reduceLT, Nat.reduceLeDiff, Nat.reduceEqDiff, Nat.reduceAdd, Nat.reduceSub, Nat.reduceMul, ↓reduceIte, Int.reduceLE, Int.reduceLT, Int.reduceNeg, Int.reduceToNat, Int.reduceAdd, Int.reduceSub, Int.reduceMul, reduceCtorEq, Try.results4]
    simp only [hE, hP]
    generalize 2 ^ (I + c.next.length + 1) = N at *
    repeat' first | assumption | (simp (disch := first | assumption | omega | (simp; done) | (simp; omega)) only [getD_bss, getD_iss, List.take_of_length_le, remV_pos]; try simp only [go_sem, Nat.reduceBEq, Nat.reduceLT, Nat.reduceLeDiff, Nat.reduceEqDiff, Nat.reduceAdd, Nat.reduceSub, Nat.reduceMul, ↓reduceIte, Int.reduceLE, Int.reduceLT, Int.reduceNeg, Int.reduceToNat, Int.reduceAdd, Int.reduceSub, Int.reduceMul, reduceCtorEq, Try.results4]) | (with_reducible refine And.intro ?_ ?_) | (with_reducible intro _) | (refine @Exists.intro I _ (I.d D.nil) ?_; simp only [go_sem, Nat.reduceBEq, Nat.reduceLT, Nat.reduceLeDiff, Nat.reduceEqDiff, Nat.reduceAdd, Nat.reduceSub, Nat.reduceMul, ↓reduceIte, Int.reduceLE, Int.reduceLT, Int.reduceNeg, Int.reduceToNat, Int.reduceAdd, Int.reduceSub, Int.reduceMul, reduceCtorEq, Try.results4]) | ((with_reducible (show Region.lexB _ _ = true)); kernel_rfl) | ((try rw [inK_i64]); omega)
    have d1 : 0 ≤ (k : Int) / 2 ^ c.inputs.toNat := by
      have : (2 : Int) ^ c.inputs.toNat = ((2 ^ c.inputs.toNat : Nat) : Int) := by simp
      rw [this]; exact Int.ediv_nonneg (by omega) (Int.natCast_nonneg _)
    refine drawn_of (E := Try.env 0) Try.tok Try.follows 1000 1000 [] (.fst 0 (.fst 1 (.fst 4 (.fst 2 (.fst 3 (.fst 5 (.fst 6 (.one 7 (.fst 8 (.done)))))))))) (by kernel_rfl) ?_
    simp only [go_sem, Nat.reduceBEq, Nat.reduceLT, Nat.reduceLeDiff, Nat.reduceEqDiff, Nat.reduceAdd, Nat.reduceSub, Nat.reduceMul, ↓reduceIte, Int.reduceLE, Int.reduceLT, Int.reduceNeg, Int.reduceToNat, Int.reduceAdd, Int.reduceSub, Int.reduceMul, reduceCtorEq, Try.results4]
    repeat' first | assumption | (simp (disch := first | assumption | omega | (simp; done) | (simp; omega)) only [getD_bss, getD_iss, List.take_of_length_le, remV_pos]; try simp only [go_sem, Nat.reduceBEq, Nat.reduceLT, Nat.reduceLeDiff, Nat.reduceEqDiff, Nat.reduceAdd, Nat.reduceSub, Nat.reduceMul, ↓reduceIte, Int.reduceLE, Int.reduceLT, Int.reduceNeg, Int.reduceToNat, Int.reduceAdd, Int.reduceSub, Int.reduceMul, reduceCtorEq, Try.results4]) | (with_reducible refine And.intro ?_ ?_) | (with_reducible intro _) | (refine pcall_fz (Try.c_bits _ _ d1 (by omega)) ?_; simp only [go_sem, Nat.reduceBEq, Nat.reduceLT, Nat.reduceLeDiff, Nat.reduceEqDiff, Nat.reduceAdd, Nat.reduceSub, Nat.reduceMul, ↓reduceIte, Int.reduceLE, Int.reduceLT, Int.reduceNeg, Int.reduceToNat, Int.reduceAdd, Int.reduceSub, Int.reduceMul, reduceCtorEq, Try.results4]) | (refine @Exists.intro I _ (I.d D.nil) ?_; simp only [go_sem, Nat.reduceBEq, Nat.reduceLT, Nat.reduceLeDiff, Nat.reduceEqDiff, Nat.reduceAdd, Nat.reduceSub, Nat.reduceMul, ↓reduceIte, Int.reduceLE, Int.reduceLT, Int.reduceNeg, Int.reduceToNat, Int.reduceAdd, Int.reduceSub, Int.reduceMul, reduceCtorEq, Try.results4]) | ((with_reducible (show Region.lexB _ _ = true)); kernel_rfl) | ((try rw [inK_i64]); omega)
    all_goals (
      generalize decide (remV ((k : Int) / 2 ^ (c.inputs + (c.next.length : Int)).toNat) 2 = 1) = da
      have hst : (bitsOf ((k : Int) / 2 ^ c.inputs.toNat) c.next.length).length = c.next.length := by simp [bitsOf]
      generalize bitsOf ((k : Int) / 2 ^ c.inputs.toNat) c.next.length = st at *
      refine drawn_of (E := Try.env 0) Try.tok Try.follows 1000 1000 [8, 11] (.fst 1 (.fst 2 (.fst 3 (.fst 6 (.fst 4 (.four 0 (.three 5 (.two 7 (.two 8 (.two 9 (.one 10 (.one 11 (.done))) 10 (.one 9 (.one 11 (.done)))) 10 (.one 8 (.one 9 (.one 11 (.done))))) 10 (.one 7 (.one 8 (.one 9 (.one 11 (.done)))))) 7 (.two 5 (.two 8 (.two 9 (.one 10 (.one 11 (.done))) 10 (.one 9 (.one 11 (.done)))) 10 (.one 8 (.one 9 (.one 11 (.done))))) 10 (.one 5 (.one 8 (.one 9 (.one 11 (.done)))))) 10 (.two 5 (.one 7 (.one 8 (.one 9 (.one 11 (.done))))) 7 (.one 5 (.one 8 (.one 9 (.one 11 (.done))))))) 5 (.three 0 (.two 7 (.two 8 (.two 9 (.one 10 (.one 11 (.done))) 10 (.one 9 (.one 11 (.done)))) 10 (.one 8 (.one 9 (.one 11 (.done))))) 10 (.one 7 (.one 8 (.one 9 (.one 11 (.done)))))) 7 (.three 0 (.two 8 (.two 9 (.one 10 (.one 11 (.done))) 10 (.one 9 (.one 11 (.done)))) 10 (.one 8 (.one 9 (.one 11 (.done))))) 8 (.two 0 (.two 9 (.one 10 (.one 11 (.done))) 10 (.one 9 (.one 11 (.done)))) 10 (.one 0 (.one 9 (.one 11 (.done))))) 10 (.two 0 (.one 8 (.one 9 (.one 11 (.done)))) 8 (.one 0 (.one 9 (.one 11 (.done)))))) 10 (.two 0 (.one 7 (.one 8 (.one 9 (.one 11 (.done))))) 7 (.two 0 (.one 8 (.one 9 (.one 11 (.done)))) 8 (.one 0 (.one 9 (.one 11 (.done))))))) 7 (.three 0 (.two 5 (.two 8 (.two 9 (.one 10 (.one 11 (.done))) 10 (.one 9 (.one 11 (.done)))) 10 (.one 8 (.one 9 (.one 11 (.done))))) 10 (.one 5 (.one 8 (.one 9 (.one 11 (.done)))))) 5 (.three 0 (.two 8 (.two 9 (.one 10 (.one 11 (.done))) 10 (.one 9 (.one 11 (.done)))) 10 (.one 8 (.one 9 (.one 11 (.done))))) 8 (.two 0 (.two 9 (.one 10 (.one 11 (.done))) 10 (.one 9 (.one 11 (.done)))) 10 (.one 0 (.one 9 (.one 11 (.done))))) 10 (.two 0 (.one 8 (.one 9 (.one 11 (.done)))) 8 (.one 0 (.one 9 (.one 11 (.done)))))) 10 (.two 0 (.one 5 (.one 8 (.one 9 (.one 11 (.done))))) 5 (.two 0 (.one 8 (.one 9 (.one 11 (.done)))) 8 (.one 0 (.one 9 (.one 11 (.done))))))) 10 (.three 0 (.two 5 (.one 7 (.one 8 (.one 9 (.one 11 (.done))))) 7 (.one 5 (.one 8 (.one 9 (.one 11 (.done)))))) 5 (.two 0 (.one 7 (.one 8 (.one 9 (.one 11 (.done))))) 7 (.two 0 (.one 8 (.one 9 (.one 11 (.done)))) 8 (.one 0 (.one 9 (.one 11 (.done)))))) 7 (.two 0 (.one 5 (.one 8 (.one 9 (.one 11 (.done))))) 5 (.two 0 (.one 8 (.one 9 (.one 11 (.done)))) 8 (.one 0 (.one 9 (.one 11 (.done))))))))))))) (by kernel_rfl) ?_
      have hin : (bitsOf (k : Int) c.inputs.toNat).length = c.inputs.toNat := by simp [bitsOf]
      have hbt := Try.c_bits k c.inputs (by omega) (by omega)
      generalize bitsOf (k : Int) c.inputs.toNat = ins at *
      have hq := Try.c_Step (scanned c) st (ins ++ [true, da]) hv (by simp [scanned, hst]) (by simp [scanned]; omega)
      have hnx : litVs (values (scanned c) st (ins ++ [true, da])) (scanned c).next = da :: st.take (c.next.length - 1) := by
        rw [scan_nexts hc' hst (by omega)]
        have e : (List.range c.next.length).map (scanNew c st ins true da) = (List.range c.next.length).map (fun j => (da :: st).getD j false) := List.map_congr_left fun j hj => by simp [scanNew]
        obtain ⟨n, hn⟩ : ∃ n, c.next.length = n + 1 := ⟨c.next.length - 1, by omega⟩
        rw [e, range_get false (by simp; omega), hn, List.take_succ_cons, Nat.add_sub_cancel]
      rw [hnx] at hq
      generalize litVs (values (scanned c) st (ins ++ [true, da])) (scanned c).outs = os at *
      simp only [go_sem, Nat.reduceBEq, Nat.reduceLT, Nat.reduceLeDiff, Nat.reduceEqDiff, Nat.reduceAdd, Nat.reduceSub, Nat.reduceMul, ↓reduceIte, Int.reduceLE, Int.reduceLT, Int.reduceNeg, Int.reduceToNat, Int.reduceAdd, Int.reduceSub, Int.reduceMul, reduceCtorEq, Try.results4]
      have hq' : Pure Try.prog 22 [dC (scanned c), dBs st, .lst 1 (ins.map D.bool ++ [.bool true, .bool da])] (.agg [dBs os, dBs (da :: st.take (c.next.length - 1))]) := by
        have e : dBs (ins ++ [true, da]) = .lst 1 (ins.map D.bool ++ [.bool true, .bool da]) := by simp [dBs]
        rw [e] at hq
        exact hq
      have hsb := Try.c_sameBools (da :: st.take (c.next.length - 1)) (da :: st.take ((st.length : Int) - 1).toNat)
      have htl : (st.take ((st.length : Int) - 1).toNat).length ≤ 3 := by rw [List.length_take]; omega
      have htk : st.take ((st.length : Int) - 1).toNat = st.take (c.next.length - 1) := by rw [hst]; congr 1; omega
      have fin : ∃ s', s' ≤ N ∧ N - s' < N - k ∧ k + 1 = s' := ⟨k + 1, by omega, by omega, rfl⟩
      repeat' first | assumption | (simp (disch := first | assumption | omega | (simp; done) | (simp; omega)) only [getD_bss, getD_iss, List.take_of_length_le, remV_pos]; try simp only [go_sem, Nat.reduceBEq, Nat.reduceLT, Nat.reduceLeDiff, Nat.reduceEqDiff, Nat.reduceAdd, Nat.reduceSub, Nat.reduceMul, ↓reduceIte, Int.reduceLE, Int.reduceLT, Int.reduceNeg, Int.reduceToNat, Int.reduceAdd, Int.reduceSub, Int.reduceMul, reduceCtorEq, Try.results4]) | (with_reducible refine And.intro ?_ ?_) | (with_reducible intro _) | (refine pcall_own hbt ?_; simp only [go_sem, Nat.reduceBEq, Nat.reduceLT, Nat.reduceLeDiff, Nat.reduceEqDiff, Nat.reduceAdd, Nat.reduceSub, Nat.reduceMul, ↓reduceIte, Int.reduceLE, Int.reduceLT, Int.reduceNeg, Int.reduceToNat, Int.reduceAdd, Int.reduceSub, Int.reduceMul, reduceCtorEq, Try.results4]) | (refine pcall_fz hq' ?_; simp only [go_sem, Nat.reduceBEq, Nat.reduceLT, Nat.reduceLeDiff, Nat.reduceEqDiff, Nat.reduceAdd, Nat.reduceSub, Nat.reduceMul, ↓reduceIte, Int.reduceLE, Int.reduceLT, Int.reduceNeg, Int.reduceToNat, Int.reduceAdd, Int.reduceSub, Int.reduceMul, reduceCtorEq, Try.results4]) | (refine pcall_fz hsb ?_; simp only [go_sem, Nat.reduceBEq, Nat.reduceLT, Nat.reduceLeDiff, Nat.reduceEqDiff, Nat.reduceAdd, Nat.reduceSub, Nat.reduceMul, ↓reduceIte, Int.reduceLE, Int.reduceLT, Int.reduceNeg, Int.reduceToNat, Int.reduceAdd, Int.reduceSub, Int.reduceMul, reduceCtorEq, Try.results4]) | (refine @Exists.intro I _ (I.d D.nil) ?_; simp only [go_sem, Nat.reduceBEq, Nat.reduceLT, Nat.reduceLeDiff, Nat.reduceEqDiff, Nat.reduceAdd, Nat.reduceSub, Nat.reduceMul, ↓reduceIte, Int.reduceLE, Int.reduceLT, Int.reduceNeg, Int.reduceToNat, Int.reduceAdd, Int.reduceSub, Int.reduceMul, reduceCtorEq, Try.results4]) | ((with_reducible (show Region.lexB _ _ = true)); kernel_rfl) | ((try rw [inK_i64]); omega)
      all_goals first
        | omega
        | exact fin
        | (rename_i h; exact h (by rw [htk])))
end Go.Proofs
