/- Contracts: a disabled scan chain, cycle by cycle. Conditions: none; lemmas. -/
import Derived.Test.YtaegedoalbnafaaC20
import Derived.Test.YtaegedoalbnafaaC19
import Derived.Test.YtaegedoalbnafaaC21
import Derived.Test.YtaegedoalbnafaaC23
set_option maxRecDepth 20000
set_option linter.unusedVariables false
set_option linter.unusedSimpArgs false
namespace Go.Proofs
open Go Go.VL

section off
variable {c : Circ} (hc : canScan c) {f : Nat → List Bool} {m : Nat} (hf : ∀ i, i < m → ((f i).length : Int) = c.inputs)
include hc hf
def tabN (f : Nat → List Bool) (m : Nat) : List (List Bool) := (List.range m).map f
def wideN (f : Nat → List Bool) (m : Nat) : List (List Bool) := (List.range m).map fun j => f j ++ [false, false]
theorem off_step {i : Nat} (hi : i < m) {st : List Bool} (hst : st.length = c.next.length) : litVs (values (scanned c) st (f i ++ [false, false])) (scanned c).next = litVs (values c st (f i)) c.next := by
  rw [scan_nexts hc hst (hf i hi)]
  refine List.ext_getElem (by simp [litVs]) fun j h1 h2 => ?_
  simp only [litVs, List.length_map] at h2
  simp [scanNew, litVs, List.getD_eq_getElem?_getD, h2]
theorem off_state : ∀ i, i ≤ m → stateAt (scanned c) (wideN f m) i = stateAt c (tabN f m) i
  | 0, _ => by simp [stateAt, scanned]
  | i + 1, hi => by
    have hs : (stateAt c (tabN f m) i).length = c.next.length := by cases i <;> simp [stateAt, litVs]
    rw [stateAt, stateAt, off_state i (by omega), wideN, tabN, range_map_get (by omega), range_map_get (by omega)]
    exact off_step hc hf (by omega) hs
theorem off_out {i : Nat} (hi : i < m) : ∃ b, litVs (valsAt (scanned c) (wideN f m) i) (scanned c).outs = litVs (valsAt c (tabN f m) i) c.outs ++ [b] := by
  have hs : (stateAt c (tabN f m) i).length = c.next.length := by cases i <;> simp [stateAt, litVs]
  rw [valsAt, valsAt, off_state hc hf i (by omega), wideN, tabN, range_map_get (by omega), range_map_get (by omega)]
  exact ⟨_, scan_outs hc hs (hf i (by omega)) false false⟩
end off
set_option maxHeartbeats 4000000 in
theorem Try.c_FnScanDisabled (code more : List Int) : Pure Try.prog 3 [dUs code, dUs more] (.bool true) := by
  refine pure_of' (E := Try.env 0) Try.tok rfl 1000 Try.func3 rfl rfl Try.ntmps3 (by simp) fun ok => ?_
  simp only [go_sem, Nat.reduceBEq, Nat.reduceLT, Nat.reduceLeDiff, Nat.reduceEqDiff, Nat.reduceAdd, Nat.reduceSub, Nat.reduceMul, ↓reduceIte, Int.reduceLE, Int.reduceLT, Int.reduceNeg, Int.reduceToNat, Int.reduceAdd, Int.reduceSub, Int.reduceMul, reduceCtorEq] at ok
  simp only [go_sem, Nat.reduceBEq, Nat.reduceLT, Nat.reduceLeDiff, Nat.reduceEqDiff, Nat.reduceAdd, Nat.reduceSub, Nat.reduceMul, ↓reduceIte, Int.reduceLE, Int.reduceLT, Int.reduceNeg, Int.reduceToNat, Int.reduceAdd, Int.reduceSub, Int.reduceMul, reduceCtorEq, Try.results3]
  refine fun h0 => fcallE_of (Try.c_DrawInsertScan code) ?_
  rintro x ⟨c, rfl⟩
  simp only [go_sem, Nat.reduceBEq, Nat.reduceLT, Nat.reduceLeDiff, Nat.reduceEqDiff, Nat.reduceAdd, Nat.reduceSub, Nat.reduceMul, ↓reduceIte, Int.reduceLE, Int.reduceLT, Int.reduceNeg, Int.reduceToNat, Int.reduceAdd, Int.reduceSub, Int.reduceMul, reduceCtorEq, Try.results3]
  refine pcall_fz (Try.c_InsertScanA c) ?_
  simp only [go_sem, Nat.reduceBEq, Nat.reduceLT, Nat.reduceLeDiff, Nat.reduceEqDiff, Nat.reduceAdd, Nat.reduceSub, Nat.reduceMul, ↓reduceIte, Int.reduceLE, Int.reduceLT, Int.reduceNeg, Int.reduceToNat, Int.reduceAdd, Int.reduceSub, Int.reduceMul, reduceCtorEq, Try.results3]
  refine drawn_of (E := Try.env 0) Try.tok Try.follows 1000 1000 [] (.fst 0 (.fst 1 (.one 2 (.one 3 (.fst 4 (.done)))))) (by kernel_rfl) ?_
  simp only [go_sem, Nat.reduceBEq, Nat.reduceLT, Nat.reduceLeDiff, Nat.reduceEqDiff, Nat.reduceAdd, Nat.reduceSub, Nat.reduceMul, ↓reduceIte, Int.reduceLE, Int.reduceLT, Int.reduceNeg, Int.reduceToNat, Int.reduceAdd, Int.reduceSub, Int.reduceMul, reduceCtorEq, Try.results3]
  repeat' first | assumption | (simp (disch := first | assumption | omega | (simp; done) | (simp; omega)) only [getD_bss, getD_iss, List.take_of_length_le, remV_pos]; try simp only [go_sem, Nat.reduceBEq, Nat.reduceLT, Nat.reduceLeDiff, Nat.reduceEqDiff, Nat.reduceAdd, Nat.reduceSub, Nat.reduceMul, ↓reduceIte, Int.reduceLE, Int.reduceLT, Int.reduceNeg, Int.reduceToNat, Int.reduceAdd, Int.reduceSub, Int.reduceMul, reduceCtorEq, Try.results3]) | (with_reducible refine And.intro ?_ ?_) | (with_reducible intro _) | (refine pcall_fz (Try.c_sInsertScanA c) ?_; simp only [go_sem, Nat.reduceBEq, Nat.reduceLT, Nat.reduceLeDiff, Nat.reduceEqDiff, Nat.reduceAdd, Nat.reduceSub, Nat.reduceMul, ↓reduceIte, Int.reduceLE, Int.reduceLT, Int.reduceNeg, Int.reduceToNat, Int.reduceAdd, Int.reduceSub, Int.reduceMul, reduceCtorEq, Try.results3]) | (refine pcall_fz (Try.c_sameCircuit _ _) ?_; simp only [go_sem, Nat.reduceBEq, Nat.reduceLT, Nat.reduceLeDiff, Nat.reduceEqDiff, Nat.reduceAdd, Nat.reduceSub, Nat.reduceMul, ↓reduceIte, Int.reduceLE, Int.reduceLT, Int.reduceNeg, Int.reduceToNat, Int.reduceAdd, Int.reduceSub, Int.reduceMul, reduceCtorEq, Try.results3]) | (refine pcall_fz (Try.c_sCanScan c) ?_; simp only [go_sem, Nat.reduceBEq, Nat.reduceLT, Nat.reduceLeDiff, Nat.reduceEqDiff, Nat.reduceAdd, Nat.reduceSub, Nat.reduceMul, ↓reduceIte, Int.reduceLE, Int.reduceLT, Int.reduceNeg, Int.reduceToNat, Int.reduceAdd, Int.reduceSub, Int.reduceMul, reduceCtorEq, Try.results3]) | (refine pcall_fz Try.c_alive ?_; simp only [go_sem, Nat.reduceBEq, Nat.reduceLT, Nat.reduceLeDiff, Nat.reduceEqDiff, Nat.reduceAdd, Nat.reduceSub, Nat.reduceMul, ↓reduceIte, Int.reduceLE, Int.reduceLT, Int.reduceNeg, Int.reduceToNat, Int.reduceAdd, Int.reduceSub, Int.reduceMul, reduceCtorEq, Try.results3]) | (refine @Exists.intro I _ (I.d D.nil) ?_; simp only [go_sem, Nat.reduceBEq, Nat.reduceLT, Nat.reduceLeDiff, Nat.reduceEqDiff, Nat.reduceAdd, Nat.reduceSub, Nat.reduceMul, ↓reduceIte, Int.reduceLE, Int.reduceLT, Int.reduceNeg, Int.reduceToNat, Int.reduceAdd, Int.reduceSub, Int.reduceMul, reduceCtorEq, Try.results3]) | ((with_reducible (show Region.lexB _ _ = true)); kernel_rfl) | ((try rw [inK_i64]); omega)
  rename_i hc
  have hsa : scanAll c = scanned c := by unfold scanAll; rw [if_pos hc]
  rw [hsa]
  have hv := scanned_valid hc
  have hi0 := hc.1.i0
  have hi1 := hc.1.i1
  have hc' := hc
  obtain ⟨hcv, hc1, hc2, hc3, hc4⟩ := hc
  obtain ⟨L, hL⟩ : ∃ L, L = min more.length 20 := ⟨_, rfl⟩
  obtain ⟨f, hfd⟩ : ∃ f : Nat → List Bool, f = fun j => bitsOf (more.getD j 0) c.inputs.toNat := ⟨_, rfl⟩
  have hf : ∀ i, i < L → ((f i).length : Int) = c.inputs := fun i hi => by rw [hfd]; simp [bitsOf]; omega
  have hfl : ∀ i, (f i).length ≤ 4 := fun i => by rw [hfd]; simp [bitsOf]; omega
  have hb : ∀ i, i < L → Pure Try.prog 21 [dI (more.getD i 0), dI c.inputs] (dBs (f i)) := fun i hi => by
    have := ok.2.2 _ (getD_mem' (l := more) (i := i) (z := 0) (by omega))
    have h2 := Try.c_bits (more.getD i 0) c.inputs this.1 (by omega)
    rw [hfd]
    exact h2
  clear hfd
  have o1 : rowsOk c (tabN f L) := ⟨hcv, by simp [tabN]; omega, fun r hr => by
    obtain ⟨j, hj, rfl⟩ := List.mem_map.1 hr
    exact hf j (List.mem_range.1 hj)⟩
  have o2 : rowsOk (scanned c) (wideN f L) := ⟨hv, by simp [wideN]; omega, fun r hr => by
    obtain ⟨j, hj, rfl⟩ := List.mem_map.1 hr
    have := hf j (List.mem_range.1 hj)
    simp [scanned]; omega⟩
  have hst := fun i hi => off_out hc' hf (i := i) hi
  have hscl : (scanned c).next.length = c.next.length := by simp [scanned]
  have hsci : (scanned c).inputs = c.inputs + 2 := rfl
  generalize scanned c = x at *
  refine loop_of (E := Try.env 0) Try.tok (σ := Nat) (fun i => [(1, .d (dUs more)), (5, .ptr 0 0), (6, .ptr 1 0), (7, .sl 2 i 1 0 i), (8, .sl 3 i 1 0 i), (9, .d (dI i))])
    (fun i => [.box [.d (dI c.inputs), .d (dIs c.next), .d (dPs c.gates), .d (dIs c.outs)], .box [.d (dI x.inputs), .d (dIs x.next), .d (dPs x.gates), .d (dIs x.outs)], .row i 1 false ((tabN f i).map fun x => dBs x), .row i 1 false ((wideN f i).map fun x => dBs x)]) (fun i => i ≤ L) (fun i => L - i) [] 1000 1000 ?_ ?_ ?_
  · simp only [go_sem, Nat.reduceBEq, Nat.reduceLT, Nat.reduceLeDiff, Nat.reduceEqDiff, Nat.reduceAdd, Nat.reduceSub, Nat.reduceMul, ↓reduceIte, Int.reduceLE, Int.reduceLT, Int.reduceNeg, Int.reduceToNat, Int.reduceAdd, Int.reduceSub, Int.reduceMul, reduceCtorEq]
  · simp only [go_sem, Nat.reduceBEq, Nat.reduceLT, Nat.reduceLeDiff, Nat.reduceEqDiff, Nat.reduceAdd, Nat.reduceSub, Nat.reduceMul, ↓reduceIte, Int.reduceLE, Int.reduceLT, Int.reduceNeg, Int.reduceToNat, Int.reduceAdd, Int.reduceSub, Int.reduceMul, reduceCtorEq]
    refine ⟨0, by omega, ?_⟩
    simp [tabN, wideN]
  · intro i hi
    have hl1 : (tabN f i).length = i := by simp [tabN]
    have hl2 : (wideN f i).length = i := by simp [wideN]
    by_cases hlt : i < L
    · have hbi := hb i hlt
      have hfi := hfl i
      have ht : tabN f (i + 1) = tabN f i ++ [f i] := by rw [tabN, List.range_succ, List.map_append]; rfl
      have hw : wideN f (i + 1) = wideN f i ++ [f i ++ [false, false]] := by rw [wideN, List.range_succ, List.map_append]; rfl
      simp only [go_sem, Nat.reduceBEq, Nat.reduceLT, Nat.reduceLeDiff, Nat.reduceEqDiff, Nat.reduceAdd, Nat.reduceSub, Nat.reduceMul, ↓reduceIte, Int.reduceLE, Int.reduceLT, Int.reduceNeg, Int.reduceToNat, Int.reduceAdd, Int.reduceSub, Int.reduceMul, reduceCtorEq, Try.results3]
      repeat' first | assumption | (simp (disch := first | assumption | omega | (simp; done) | (simp; omega)) only [getD_bss, getD_iss, List.take_of_length_le, remV_pos]; try simp only [go_sem, Nat.reduceBEq, Nat.reduceLT, Nat.reduceLeDiff, Nat.reduceEqDiff, Nat.reduceAdd, Nat.reduceSub, Nat.reduceMul, ↓reduceIte, Int.reduceLE, Int.reduceLT, Int.reduceNeg, Int.reduceToNat, Int.reduceAdd, Int.reduceSub, Int.reduceMul, reduceCtorEq, Try.results3]) | (with_reducible refine And.intro ?_ ?_) | (with_reducible intro _) | (refine @Exists.intro I _ (I.d D.nil) ?_; simp only [go_sem, Nat.reduceBEq, Nat.reduceLT, Nat.reduceLeDiff, Nat.reduceEqDiff, Nat.reduceAdd, Nat.reduceSub, Nat.reduceMul, ↓reduceIte, Int.reduceLE, Int.reduceLT, Int.reduceNeg, Int.reduceToNat, Int.reduceAdd, Int.reduceSub, Int.reduceMul, reduceCtorEq, Try.results3]) | ((with_reducible (show Region.lexB _ _ = true)); kernel_rfl) | ((try rw [inK_i64]); omega)
      refine drawn_of (E := Try.env 0) Try.tok Try.follows 1000 1000 [] (.fst 0 (.fst 1 (.fst 2 (.fst 5 (.fst 3 (.fst 4 (.fst 6 (.one 7 (.fst 8 (.done)))))))))) (by kernel_rfl) ?_
      simp only [go_sem, Nat.reduceBEq, Nat.reduceLT, Nat.reduceLeDiff, Nat.reduceEqDiff, Nat.reduceAdd, Nat.reduceSub, Nat.reduceMul, ↓reduceIte, Int.reduceLE, Int.reduceLT, Int.reduceNeg, Int.reduceToNat, Int.reduceAdd, Int.reduceSub, Int.reduceMul, reduceCtorEq, Try.results3]
      repeat' first | assumption | (simp (disch := first | assumption | omega | (simp; done) | (simp; omega)) only [getD_bss, getD_iss, List.take_of_length_le, remV_pos]; try simp only [go_sem, Nat.reduceBEq, Nat.reduceLT, Nat.reduceLeDiff, Nat.reduceEqDiff, Nat.reduceAdd, Nat.reduceSub, Nat.reduceMul, ↓reduceIte, Int.reduceLE, Int.reduceLT, Int.reduceNeg, Int.reduceToNat, Int.reduceAdd, Int.reduceSub, Int.reduceMul, reduceCtorEq, Try.results3]) | (with_reducible refine And.intro ?_ ?_) | (with_reducible intro _) | (refine pcall_fz hbi ?_; simp only [go_sem, Nat.reduceBEq, Nat.reduceLT, Nat.reduceLeDiff, Nat.reduceEqDiff, Nat.reduceAdd, Nat.reduceSub, Nat.reduceMul, ↓reduceIte, Int.reduceLE, Int.reduceLT, Int.reduceNeg, Int.reduceToNat, Int.reduceAdd, Int.reduceSub, Int.reduceMul, reduceCtorEq, Try.results3]) | (refine @Exists.intro I _ (I.d D.nil) ?_; simp only [go_sem, Nat.reduceBEq, Nat.reduceLT, Nat.reduceLeDiff, Nat.reduceEqDiff, Nat.reduceAdd, Nat.reduceSub, Nat.reduceMul, ↓reduceIte, Int.reduceLE, Int.reduceLT, Int.reduceNeg, Int.reduceToNat, Int.reduceAdd, Int.reduceSub, Int.reduceMul, reduceCtorEq, Try.results3]) | ((with_reducible (show Region.lexB _ _ = true)); kernel_rfl) | ((try rw [inK_i64]); omega)
      · have := ok.2.2 _ (getD_mem' (l := more) (i := i) (z := 0) (by omega))
        have h2 : (0 : Int) ≤ more.getD i 0 := this.1
        have h3 : more.getD i 0 ≤ 255 := this.2
        rw [inK_i64]; omega
      · refine ⟨i + 1, by omega, by omega, rfl, ⟨rfl, ht.symm⟩, rfl, ?_⟩
        rw [hw, List.map_append]
        simp
    · obtain rfl : i = L := by omega
      have s1 := Try.c_Simulate i c (tabN f i) o1
      have s2 := Try.c_Simulate i x (wideN f i) o2
      rw [hl1] at s1
      rw [hl2] at s2
      simp only [go_sem, Nat.reduceBEq, Nat.reduceLT, Nat.reduceLeDiff, Nat.reduceEqDiff, Nat.reduceAdd, Nat.reduceSub, Nat.reduceMul, ↓reduceIte, Int.reduceLE, Int.reduceLT, Int.reduceNeg, Int.reduceToNat, Int.reduceAdd, Int.reduceSub, Int.reduceMul, reduceCtorEq, Try.results3]
      repeat' first | assumption | (simp (disch := first | assumption | omega | (simp; done) | (simp; omega)) only [getD_bss, getD_iss, List.take_of_length_le, remV_pos]; try simp only [go_sem, Nat.reduceBEq, Nat.reduceLT, Nat.reduceLeDiff, Nat.reduceEqDiff, Nat.reduceAdd, Nat.reduceSub, Nat.reduceMul, ↓reduceIte, Int.reduceLE, Int.reduceLT, Int.reduceNeg, Int.reduceToNat, Int.reduceAdd, Int.reduceSub, Int.reduceMul, reduceCtorEq, Try.results3]) | (with_reducible refine And.intro ?_ ?_) | (with_reducible intro _) | (refine @Exists.intro I _ (I.d D.nil) ?_; simp only [go_sem, Nat.reduceBEq, Nat.reduceLT, Nat.reduceLeDiff, Nat.reduceEqDiff, Nat.reduceAdd, Nat.reduceSub, Nat.reduceMul, ↓reduceIte, Int.reduceLE, Int.reduceLT, Int.reduceNeg, Int.reduceToNat, Int.reduceAdd, Int.reduceSub, Int.reduceMul, reduceCtorEq, Try.results3]) | ((with_reducible (show Region.lexB _ _ = true)); kernel_rfl) | ((try rw [inK_i64]); omega)
      refine call_proc s1 [2] (by simp only [go_sem, Nat.reduceBEq, Nat.reduceLT, Nat.reduceLeDiff, Nat.reduceEqDiff, Nat.reduceAdd, Nat.reduceSub, Nat.reduceMul, ↓reduceIte, Int.reduceLE, Int.reduceLT, Int.reduceNeg, Int.reduceToNat, Int.reduceAdd, Int.reduceSub, Int.reduceMul, reduceCtorEq]) ?_
      simp only [go_sem, Nat.reduceBEq, Nat.reduceLT, Nat.reduceLeDiff, Nat.reduceEqDiff, Nat.reduceAdd, Nat.reduceSub, Nat.reduceMul, ↓reduceIte, Int.reduceLE, Int.reduceLT, Int.reduceNeg, Int.reduceToNat, Int.reduceAdd, Int.reduceSub, Int.reduceMul, reduceCtorEq, Try.results3]
      repeat' first | assumption | (simp (disch := first | assumption | omega | (simp; done) | (simp; omega)) only [getD_bss, getD_iss, List.take_of_length_le, remV_pos]; try simp only [go_sem, Nat.reduceBEq, Nat.reduceLT, Nat.reduceLeDiff, Nat.reduceEqDiff, Nat.reduceAdd, Nat.reduceSub, Nat.reduceMul, ↓reduceIte, Int.reduceLE, Int.reduceLT, Int.reduceNeg, Int.reduceToNat, Int.reduceAdd, Int.reduceSub, Int.reduceMul, reduceCtorEq, Try.results3]) | (with_reducible refine And.intro ?_ ?_) | (with_reducible intro _) | (refine @Exists.intro I _ (I.d D.nil) ?_; simp only [go_sem, Nat.reduceBEq, Nat.reduceLT, Nat.reduceLeDiff, Nat.reduceEqDiff, Nat.reduceAdd, Nat.reduceSub, Nat.reduceMul, ↓reduceIte, Int.reduceLE, Int.reduceLT, Int.reduceNeg, Int.reduceToNat, Int.reduceAdd, Int.reduceSub, Int.reduceMul, reduceCtorEq, Try.results3]) | ((with_reducible (show Region.lexB _ _ = true)); kernel_rfl) | ((try rw [inK_i64]); omega)
      refine call_proc s2 [3] (by simp only [go_sem, Nat.reduceBEq, Nat.reduceLT, Nat.reduceLeDiff, Nat.reduceEqDiff, Nat.reduceAdd, Nat.reduceSub, Nat.reduceMul, ↓reduceIte, Int.reduceLE, Int.reduceLT, Int.reduceNeg, Int.reduceToNat, Int.reduceAdd, Int.reduceSub, Int.reduceMul, reduceCtorEq]) ?_
      simp only [go_sem, Nat.reduceBEq, Nat.reduceLT, Nat.reduceLeDiff, Nat.reduceEqDiff, Nat.reduceAdd, Nat.reduceSub, Nat.reduceMul, ↓reduceIte, Int.reduceLE, Int.reduceLT, Int.reduceNeg, Int.reduceToNat, Int.reduceAdd, Int.reduceSub, Int.reduceMul, reduceCtorEq, Try.results3]
      have a1 : (simOut c (tabN f i)).length = i := by simp [simOut, hl1]
      have a2 : (simOut x (wideN f i)).length = i := by simp [simOut, hl2]
      have hg : ∀ k, k < i → ((simOut c (tabN f i)).getD k []).length = c.outs.length ∧ ∃ b, (simOut x (wideN f i)).getD k [] = (simOut c (tabN f i)).getD k [] ++ [b] := fun k hk => by
        rw [simOut, simOut, range_map_get (by omega), range_map_get (by omega)]
        exact ⟨litVs_len, hst k hk⟩
      generalize simOut c (tabN f i) = sa at *
      generalize simOut x (wideN f i) = sb at *
      repeat' first | assumption | (simp (disch := first | assumption | omega | (simp; done) | (simp; omega)) only [getD_bss, getD_iss, List.take_of_length_le, remV_pos]; try simp only [go_sem, Nat.reduceBEq, Nat.reduceLT, Nat.reduceLeDiff, Nat.reduceEqDiff, Nat.reduceAdd, Nat.reduceSub, Nat.reduceMul, ↓reduceIte, Int.reduceLE, Int.reduceLT, Int.reduceNeg, Int.reduceToNat, Int.reduceAdd, Int.reduceSub, Int.reduceMul, reduceCtorEq, Try.results3]) | (with_reducible refine And.intro ?_ ?_) | (with_reducible intro _) | (refine @Exists.intro I _ (I.d D.nil) ?_; simp only [go_sem, Nat.reduceBEq, Nat.reduceLT, Nat.reduceLeDiff, Nat.reduceEqDiff, Nat.reduceAdd, Nat.reduceSub, Nat.reduceMul, ↓reduceIte, Int.reduceLE, Int.reduceLT, Int.reduceNeg, Int.reduceToNat, Int.reduceAdd, Int.reduceSub, Int.reduceMul, reduceCtorEq, Try.results3]) | ((with_reducible (show Region.lexB _ _ = true)); kernel_rfl) | ((try rw [inK_i64]); omega)
      refine loop_of (E := Try.env 0) Try.tok (σ := Nat) (fun k => [(5, .ptr 0 0), (7, .d (dBss (tabN f i))), (11, .d (dBss sa)), (12, .d (dBss sb)), (13, .d (dI k))])
        (fun k => [.box [.d (dI c.inputs), .d (dIs c.next), .d (dPs c.gates), .d (dIs c.outs)]]) (fun k => k ≤ i) (fun k => i - k) [] 1000 1000 ?_ ?_ ?_
      · simp only [go_sem, Nat.reduceBEq, Nat.reduceLT, Nat.reduceLeDiff, Nat.reduceEqDiff, Nat.reduceAdd, Nat.reduceSub, Nat.reduceMul, ↓reduceIte, Int.reduceLE, Int.reduceLT, Int.reduceNeg, Int.reduceToNat, Int.reduceAdd, Int.reduceSub, Int.reduceMul, reduceCtorEq]
      · simp only [go_sem, Nat.reduceBEq, Nat.reduceLT, Nat.reduceLeDiff, Nat.reduceEqDiff, Nat.reduceAdd, Nat.reduceSub, Nat.reduceMul, ↓reduceIte, Int.reduceLE, Int.reduceLT, Int.reduceNeg, Int.reduceToNat, Int.reduceAdd, Int.reduceSub, Int.reduceMul, reduceCtorEq]
        exact ⟨0, by omega, List.take_of_length_le (by omega), List.take_of_length_le (by omega), List.take_of_length_le (by omega), rfl⟩
      · intro k hk
        by_cases hlt2 : k < i
        · obtain ⟨g1, b, g2⟩ := hg k hlt2
          have htk : (sa.getD k [] ++ [b]).take c.outs.length = sa.getD k [] := List.take_left' g1
          have hsb := Try.c_sameBools (sa.getD k []) (sa.getD k [])
          rw [decide_eq_true rfl] at hsb
          have hgl : (sa.getD k [] ++ [b]).length = c.outs.length + 1 := by rw [List.length_append, g1]; rfl
          simp only [go_sem, Nat.reduceBEq, Nat.reduceLT, Nat.reduceLeDiff, Nat.reduceEqDiff, Nat.reduceAdd, Nat.reduceSub, Nat.reduceMul, ↓reduceIte, Int.reduceLE, Int.reduceLT, Int.reduceNeg, Int.reduceToNat, Int.reduceAdd, Int.reduceSub, Int.reduceMul, reduceCtorEq, Try.results3, g2, htk]
          repeat' first | assumption | (simp (disch := first | assumption | omega | (simp; done) | (simp; omega)) only [getD_bss, getD_iss, List.take_of_length_le, remV_pos]; try simp only [go_sem, Nat.reduceBEq, Nat.reduceLT, Nat.reduceLeDiff, Nat.reduceEqDiff, Nat.reduceAdd, Nat.reduceSub, Nat.reduceMul, ↓reduceIte, Int.reduceLE, Int.reduceLT, Int.reduceNeg, Int.reduceToNat, Int.reduceAdd, Int.reduceSub, Int.reduceMul, reduceCtorEq, Try.results3, g2, htk]) | (with_reducible refine And.intro ?_ ?_) | (with_reducible intro _) | (refine qcall_of (fun _ => ⟨hsb, trivial⟩) ?_; simp only [go_sem, Nat.reduceBEq, Nat.reduceLT, Nat.reduceLeDiff, Nat.reduceEqDiff, Nat.reduceAdd, Nat.reduceSub, Nat.reduceMul, ↓reduceIte, Int.reduceLE, Int.reduceLT, Int.reduceNeg, Int.reduceToNat, Int.reduceAdd, Int.reduceSub, Int.reduceMul, reduceCtorEq, Try.results3, g2, htk]) | (refine @Exists.intro I _ (I.d D.nil) ?_; simp only [go_sem, Nat.reduceBEq, Nat.reduceLT, Nat.reduceLeDiff, Nat.reduceEqDiff, Nat.reduceAdd, Nat.reduceSub, Nat.reduceMul, ↓reduceIte, Int.reduceLE, Int.reduceLT, Int.reduceNeg, Int.reduceToNat, Int.reduceAdd, Int.reduceSub, Int.reduceMul, reduceCtorEq, Try.results3, g2, htk]) | ((with_reducible (show Region.lexB _ _ = true)); kernel_rfl) | ((try rw [inK_i64]); omega)
          exact ⟨k + 1, by omega, by omega, rfl⟩
        · obtain rfl : k = i := by omega
          simp only [go_sem, Nat.reduceBEq, Nat.reduceLT, Nat.reduceLeDiff, Nat.reduceEqDiff, Nat.reduceAdd, Nat.reduceSub, Nat.reduceMul, ↓reduceIte, Int.reduceLE, Int.reduceLT, Int.reduceNeg, Int.reduceToNat, Int.reduceAdd, Int.reduceSub, Int.reduceMul, reduceCtorEq, Try.results3]
          repeat' first | assumption | (simp (disch := first | assumption | omega | (simp; done) | (simp; omega)) only [getD_bss, getD_iss, List.take_of_length_le, remV_pos]; try simp only [go_sem, Nat.reduceBEq, Nat.reduceLT, Nat.reduceLeDiff, Nat.reduceEqDiff, Nat.reduceAdd, Nat.reduceSub, Nat.reduceMul, ↓reduceIte, Int.reduceLE, Int.reduceLT, Int.reduceNeg, Int.reduceToNat, Int.reduceAdd, Int.reduceSub, Int.reduceMul, reduceCtorEq, Try.results3]) | (with_reducible refine And.intro ?_ ?_) | (with_reducible intro _) | (refine @Exists.intro I _ (I.d D.nil) ?_; simp only [go_sem, Nat.reduceBEq, Nat.reduceLT, Nat.reduceLeDiff, Nat.reduceEqDiff, Nat.reduceAdd, Nat.reduceSub, Nat.reduceMul, ↓reduceIte, Int.reduceLE, Int.reduceLT, Int.reduceNeg, Int.reduceToNat, Int.reduceAdd, Int.reduceSub, Int.reduceMul, reduceCtorEq, Try.results3]) | ((with_reducible (show Region.lexB _ _ = true)); kernel_rfl) | ((try rw [inK_i64]); omega)
end Go.Proofs
