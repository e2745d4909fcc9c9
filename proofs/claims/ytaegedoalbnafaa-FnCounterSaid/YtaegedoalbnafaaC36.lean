/- Contracts: the reference's counter. Conditions: none; lemmas. -/
import Derived.Test.YtaegedoalbnafaaC35
import Derived.Test.YtaegedoalbnafaaVM8
set_option maxRecDepth 20000
set_option linter.unusedVariables false
set_option linter.unusedSimpArgs false
namespace Go.Proofs
open Go Go.VL

def optC (c : Circ) : Circ := built (built c true) false
theorem Try.c_sOptimize (c : Circ) (hv : c.Valid) (hv2 : (built c true).Valid) : PureF Try.prog 84 [dC c] (dC (optC c)) := by
  refine pureF_of' (E := Try.env 0) Try.tok rfl 1000 Try.func84 rfl rfl Try.ntmps84 (by simp) fun ok => ?_
  simp only [go_sem, Nat.reduceBEq, Nat.reduceLT, Nat.reduceLeDiff, Nat.reduceEqDiff, Nat.reduceAdd, Nat.reduceSub, Nat.reduceMul, ↓reduceIte, Int.reduceLE, Int.reduceLT, Int.reduceNeg, Int.reduceToNat, Int.reduceAdd, Int.reduceSub, Int.reduceMul, reduceCtorEq] at ok
  simp only [go_sem, Nat.reduceBEq, Nat.reduceLT, Nat.reduceLeDiff, Nat.reduceEqDiff, Nat.reduceAdd, Nat.reduceSub, Nat.reduceMul, ↓reduceIte, Int.reduceLE, Int.reduceLT, Int.reduceNeg, Int.reduceToNat, Int.reduceAdd, Int.reduceSub, Int.reduceMul, reduceCtorEq, Try.results84]
  refine pcall_fz (Try.c_sCircuitValid c) ?_
  rw [decide_eq_true hv]
  simp only [go_sem, Nat.reduceBEq, Nat.reduceLT, Nat.reduceLeDiff, Nat.reduceEqDiff, Nat.reduceAdd, Nat.reduceSub, Nat.reduceMul, ↓reduceIte, Int.reduceLE, Int.reduceLT, Int.reduceNeg, Int.reduceToNat, Int.reduceAdd, Int.reduceSub, Int.reduceMul, reduceCtorEq, Try.results84]
  repeat' first | assumption | (simp (disch := first | assumption | omega | (simp; done) | (simp; omega)) only [getD_bss, getD_iss, List.take_of_length_le, remV_pos]; try simp only [go_sem, Nat.reduceBEq, Nat.reduceLT, Nat.reduceLeDiff, Nat.reduceEqDiff, Nat.reduceAdd, Nat.reduceSub, Nat.reduceMul, ↓reduceIte, Int.reduceLE, Int.reduceLT, Int.reduceNeg, Int.reduceToNat, Int.reduceAdd, Int.reduceSub, Int.reduceMul, reduceCtorEq, Try.results84]) | (with_reducible refine And.intro ?_ ?_) | (with_reducible intro _) | (refine fcall_of (Try.c_l3BuildT c hv) ?_; simp only [go_sem, Nat.reduceBEq, Nat.reduceLT, Nat.reduceLeDiff, Nat.reduceEqDiff, Nat.reduceAdd, Nat.reduceSub, Nat.reduceMul, ↓reduceIte, Int.reduceLE, Int.reduceLT, Int.reduceNeg, Int.reduceToNat, Int.reduceAdd, Int.reduceSub, Int.reduceMul, reduceCtorEq, Try.results84]) | (refine fcall_of (Try.c_l3BuildF _ hv2) ?_; simp only [go_sem, Nat.reduceBEq, Nat.reduceLT, Nat.reduceLeDiff, Nat.reduceEqDiff, Nat.reduceAdd, Nat.reduceSub, Nat.reduceMul, ↓reduceIte, Int.reduceLE, Int.reduceLT, Int.reduceNeg, Int.reduceToNat, Int.reduceAdd, Int.reduceSub, Int.reduceMul, reduceCtorEq, Try.results84]) | (refine @Exists.intro I _ (I.d D.nil) ?_; simp only [go_sem, Nat.reduceBEq, Nat.reduceLT, Nat.reduceLeDiff, Nat.reduceEqDiff, Nat.reduceAdd, Nat.reduceSub, Nat.reduceMul, ↓reduceIte, Int.reduceLE, Int.reduceLT, Int.reduceNeg, Int.reduceToNat, Int.reduceAdd, Int.reduceSub, Int.reduceMul, reduceCtorEq, Try.results84]) | ((with_reducible (show Region.lexB _ _ = true)); kernel_rfl) | ((try rw [inK_i64]); omega)
  all_goals rfl
theorem circ_ext {a b : Circ} (h : a.inputs = b.inputs ∧ a.next = b.next ∧ a.gates = b.gates ∧ a.outs = b.outs) : a = b := by
  obtain ⟨h1, h2, h3, h4⟩ := h
  cases a; cases b
  simp only at h1 h2 h3 h4
  simp [h1, h2, h3, h4]
theorem cnC_opt (n : Int) (h : 1 ≤ n ∧ n ≤ 3) : optC (cnC n) = cnC n := by
  obtain rfl | rfl | rfl : n = 1 ∨ n = 2 ∨ n = 3 := by omega
  · exact circ_ext (by decide +kernel)
  · exact circ_ext (by decide +kernel)
  · exact circ_ext (by decide +kernel)
theorem cnC_valid (n : Int) (h : 1 ≤ n ∧ n ≤ 3) : (cnC n).Valid ∧ (built (cnC n) true).Valid := by
  obtain rfl | rfl | rfl : n = 1 ∨ n = 2 ∨ n = 3 := by omega
  · exact ⟨by constructor <;> decide +kernel, by constructor <;> decide +kernel⟩
  · exact ⟨by constructor <;> decide +kernel, by constructor <;> decide +kernel⟩
  · exact ⟨by constructor <;> decide +kernel, by constructor <;> decide +kernel⟩
theorem Try.c_sCounter (n : Int) : PureF Try.prog 26 [dI n] (dC (cnC n)) := by
  refine pureF_of' (E := Try.env 0) Try.tok rfl 1000 Try.func26 rfl rfl Try.ntmps26 (by simp) fun ok => ?_
  simp only [go_sem, Nat.reduceBEq, Nat.reduceLT, Nat.reduceLeDiff, Nat.reduceEqDiff, Nat.reduceAdd, Nat.reduceSub, Nat.reduceMul, ↓reduceIte, Int.reduceLE, Int.reduceLT, Int.reduceNeg, Int.reduceToNat, Int.reduceAdd, Int.reduceSub, Int.reduceMul, reduceCtorEq] at ok
  simp only [go_sem, Nat.reduceBEq, Nat.reduceLT, Nat.reduceLeDiff, Nat.reduceEqDiff, Nat.reduceAdd, Nat.reduceSub, Nat.reduceMul, ↓reduceIte, Int.reduceLE, Int.reduceLT, Int.reduceNeg, Int.reduceToNat, Int.reduceAdd, Int.reduceSub, Int.reduceMul, reduceCtorEq, Try.results26]
  by_cases h : n < 1 ∨ 3 < n
  · have e : cnC n = Circ.zero := by rw [cnC, if_pos h]
    rw [e]
    repeat' first | assumption | (simp (disch := first | assumption | omega | (simp; done) | (simp; omega)) only [getD_bss, getD_iss, List.take_of_length_le, remV_pos]; try simp only [go_sem, Nat.reduceBEq, Nat.reduceLT, Nat.reduceLeDiff, Nat.reduceEqDiff, Nat.reduceAdd, Nat.reduceSub, Nat.reduceMul, ↓reduceIte, Int.reduceLE, Int.reduceLT, Int.reduceNeg, Int.reduceToNat, Int.reduceAdd, Int.reduceSub, Int.reduceMul, reduceCtorEq, Try.results26]) | (with_reducible refine And.intro ?_ ?_) | (with_reducible intro _) | (refine pcall_fz (Try.c_l1In _ _ _) ?_; simp only [go_sem, Nat.reduceBEq, Nat.reduceLT, Nat.reduceLeDiff, Nat.reduceEqDiff, Nat.reduceAdd, Nat.reduceSub, Nat.reduceMul, ↓reduceIte, Int.reduceLE, Int.reduceLT, Int.reduceNeg, Int.reduceToNat, Int.reduceAdd, Int.reduceSub, Int.reduceMul, reduceCtorEq, Try.results26]) | (refine @Exists.intro I _ (I.d D.nil) ?_; simp only [go_sem, Nat.reduceBEq, Nat.reduceLT, Nat.reduceLeDiff, Nat.reduceEqDiff, Nat.reduceAdd, Nat.reduceSub, Nat.reduceMul, ↓reduceIte, Int.reduceLE, Int.reduceLT, Int.reduceNeg, Int.reduceToNat, Int.reduceAdd, Int.reduceSub, Int.reduceMul, reduceCtorEq, Try.results26]) | ((with_reducible (show Region.lexB _ _ = true)); kernel_rfl) | ((try rw [inK_i64]); omega)
    all_goals first | omega | simp [Circ.zero]
  repeat' first | assumption | (simp (disch := first | assumption | omega | (simp; done) | (simp; omega)) only [getD_bss, getD_iss, List.take_of_length_le, remV_pos]; try simp only [go_sem, Nat.reduceBEq, Nat.reduceLT, Nat.reduceLeDiff, Nat.reduceEqDiff, Nat.reduceAdd, Nat.reduceSub, Nat.reduceMul, ↓reduceIte, Int.reduceLE, Int.reduceLT, Int.reduceNeg, Int.reduceToNat, Int.reduceAdd, Int.reduceSub, Int.reduceMul, reduceCtorEq, Try.results26]) | (with_reducible refine And.intro ?_ ?_) | (with_reducible intro _) | (refine pcall_fz (Try.c_l1In _ _ _) ?_; simp only [go_sem, Nat.reduceBEq, Nat.reduceLT, Nat.reduceLeDiff, Nat.reduceEqDiff, Nat.reduceAdd, Nat.reduceSub, Nat.reduceMul, ↓reduceIte, Int.reduceLE, Int.reduceLT, Int.reduceNeg, Int.reduceToNat, Int.reduceAdd, Int.reduceSub, Int.reduceMul, reduceCtorEq, Try.results26]) | (refine @Exists.intro I _ (I.d D.nil) ?_; simp only [go_sem, Nat.reduceBEq, Nat.reduceLT, Nat.reduceLeDiff, Nat.reduceEqDiff, Nat.reduceAdd, Nat.reduceSub, Nat.reduceMul, ↓reduceIte, Int.reduceLE, Int.reduceLT, Int.reduceNeg, Int.reduceToNat, Int.reduceAdd, Int.reduceSub, Int.reduceMul, reduceCtorEq, Try.results26]) | ((with_reducible (show Region.lexB _ _ = true)); kernel_rfl) | ((try rw [inK_i64]); omega)
  have hop := cnC_opt n (by omega)
  have hvl := cnC_valid n (by omega)
  have e : cnC n = ⟨1, (cnSt n.toNat n.toNat).next, (cnSt n.toNat n.toNat).b.gates, (cnSt n.toNat n.toNat).outs⟩ := by rw [cnC, if_neg h]
  refine iwp_frz 1 rfl (by simp) ?_
  simp only [go_sem, Nat.reduceBEq, Nat.reduceLT, Nat.reduceLeDiff, Nat.reduceEqDiff, Nat.reduceAdd, Nat.reduceSub, Nat.reduceMul, ↓reduceIte, Int.reduceLE, Int.reduceLT, Int.reduceNeg, Int.reduceToNat, Int.reduceAdd, Int.reduceSub, Int.reduceMul, reduceCtorEq]
  refine loop_of4 (E := Try.env 0) Try.tok (σ := Nat) (fun i => [(0, .d (dI n)), (2, .ptr 0 0), (3, .ptr 2 0), (4, .d (dI (cnSt n.toNat i).en)), (5, .sl 3 i 1 0 i), (6, .d (dI i))])
    (fun i => [.box [.d (dI 0), .d .nil, .d .nil, .d .nil], .dead 0, .box [.d (dI 1), .d (dIs (List.replicate n.toNat 0)), .d (dPs (cnSt n.toNat i).b.gates), .d (dIs (cnSt n.toNat i).outs)], .row i 1 true ((cnSt n.toNat i).next.map (D.int .i64))]) (fun i => i ≤ n.toNat) (fun i => n.toNat - i) [] [] 1000 ?_ ?_ ?_ ?_
  · simp only [go_sem, Nat.reduceBEq, Nat.reduceLT, Nat.reduceLeDiff, Nat.reduceEqDiff, Nat.reduceAdd, Nat.reduceSub, Nat.reduceMul, ↓reduceIte, Int.reduceLE, Int.reduceLT, Int.reduceNeg, Int.reduceToNat, Int.reduceAdd, Int.reduceSub, Int.reduceMul, reduceCtorEq]
  · simp only [go_sem, Nat.reduceBEq, Nat.reduceLT, Nat.reduceLeDiff, Nat.reduceEqDiff, Nat.reduceAdd, Nat.reduceSub, Nat.reduceMul, ↓reduceIte, Int.reduceLE, Int.reduceLT, Int.reduceNeg, Int.reduceToNat, Int.reduceAdd, Int.reduceSub, Int.reduceMul, reduceCtorEq]
  · simp only [go_sem, Nat.reduceBEq, Nat.reduceLT, Nat.reduceLeDiff, Nat.reduceEqDiff, Nat.reduceAdd, Nat.reduceSub, Nat.reduceMul, ↓reduceIte, Int.reduceLE, Int.reduceLT, Int.reduceNeg, Int.reduceToNat, Int.reduceAdd, Int.reduceSub, Int.reduceMul, reduceCtorEq]
    refine ⟨0, by omega, ?_⟩
    simp [cnSt, Bld.new, List.take_replicate]
  · intro i hi
    have ho := cnSt_ok (n := n.toNat) (by omega) i hi
    have hnl := ho.nx
    have hol := ho.o
    by_cases hlt : i < n.toNat
    · obtain ⟨b1, z1, b2, z2, e1, e2, e3, k1, k2⟩ := cn_chain ho (by omega) (by omega)
      have hstep : cnSt n.toNat (i + 1) = ⟨b2, (cnSt n.toNat i).next ++ [z1], (cnSt n.toNat i).outs ++ [2 * (2 + (i : Int))], z2⟩ := by rw [cnSt, e3]
      obtain ⟨ok1, fst1, len1, cc, _, _⟩ := ho
      unfold Bld.lit at cc
      have hm : ∀ (b : Bld), b.first = (cnSt n.toNat i).b.first → (1 : Int).toNat + (List.replicate n.toNat (0 : Int)).length + 1 = b.first := fun b hb => by simp only [List.length_replicate]; omega
      have hMk : ∀ (gs : List (Int × Int)) (os : List Int), Mk ⟨1, List.replicate n.toNat 0, gs, os⟩ := fun gs os => ⟨by simp, by simp; omega⟩
      have hl : ∀ (b : Bld) (x : Int), b.first = (cnSt n.toNat i).b.first → 0 ≤ x → x < 2 * ((b.first + b.gates.length : Nat) : Int) → litR ⟨1, List.replicate n.toNat 0, b.gates, (cnSt n.toNat i).outs⟩ x := by
        intro b x hb h0 h1
        have e : cFst ⟨1, List.replicate n.toNat 0, b.gates, (cnSt n.toNat i).outs⟩ = b.first := hm b hb
        unfold litR
        rw [e]
        exact ⟨h0, h1⟩
      have g1 := Try.c_l26Xor ⟨1, List.replicate n.toNat 0, (cnSt n.toNat i).b.gates, (cnSt n.toNat i).outs⟩ (hMk _ _) (2 * (2 + (i : Int))) (cnSt n.toNat i).en (by simp only; omega) (hl _ _ rfl (by omega) (by omega)) (hl _ _ rfl (by omega) (by omega))
      rw [xorR_mk (hm _ rfl), e1] at g1
      have g2 := Try.c_l3And ⟨1, List.replicate n.toNat 0, b1.gates, (cnSt n.toNat i).outs⟩ (2 * (2 + (i : Int))) (cnSt n.toNat i).en (hMk b1.gates (cnSt n.toNat i).outs).i (by simp; omega) (by simp only; omega) (by omega) (by omega)
      rw [andR_mk (hm _ k1.2.1), e2] at g2
      refine run_code Try.tok 1000 ?_
      simp only [go_sem, Nat.reduceBEq, Nat.reduceLT, Nat.reduceLeDiff, Nat.reduceEqDiff, Nat.reduceAdd, Nat.reduceSub, Nat.reduceMul, ↓reduceIte, Int.reduceLE, Int.reduceLT, Int.reduceNeg, Int.reduceToNat, Int.reduceAdd, Int.reduceSub, Int.reduceMul, reduceCtorEq, Try.results26]
      repeat' first | assumption | (simp (disch := first | assumption | omega | (simp; done) | (simp; omega)) only [getD_bss, getD_iss, List.take_of_length_le, remV_pos]; try simp only [go_sem, Nat.reduceBEq, Nat.reduceLT, Nat.reduceLeDiff, Nat.reduceEqDiff, Nat.reduceAdd, Nat.reduceSub, Nat.reduceMul, ↓reduceIte, Int.reduceLE, Int.reduceLT, Int.reduceNeg, Int.reduceToNat, Int.reduceAdd, Int.reduceSub, Int.reduceMul, reduceCtorEq, Try.results26]) | (with_reducible refine And.intro ?_ ?_) | (with_reducible intro _) | (refine fcall_of g1 ?_; simp only [go_sem, Nat.reduceBEq, Nat.reduceLT, Nat.reduceLeDiff, Nat.reduceEqDiff, Nat.reduceAdd, Nat.reduceSub, Nat.reduceMul, ↓reduceIte, Int.reduceLE, Int.reduceLT, Int.reduceNeg, Int.reduceToNat, Int.reduceAdd, Int.reduceSub, Int.reduceMul, reduceCtorEq, Try.results26]) | (refine call_proc (procF g2) [] ?_ ?_; (· simp only [go_sem, Nat.reduceBEq, Nat.reduceLT, Nat.reduceLeDiff, Nat.reduceEqDiff, Nat.reduceAdd, Nat.reduceSub, Nat.reduceMul, ↓reduceIte, Int.reduceLE, Int.reduceLT, Int.reduceNeg, Int.reduceToNat, Int.reduceAdd, Int.reduceSub, Int.reduceMul, reduceCtorEq]); simp only [go_sem, Nat.reduceBEq, Nat.reduceLT, Nat.reduceLeDiff, Nat.reduceEqDiff, Nat.reduceAdd, Nat.reduceSub, Nat.reduceMul, ↓reduceIte, Int.reduceLE, Int.reduceLT, Int.reduceNeg, Int.reduceToNat, Int.reduceAdd, Int.reduceSub, Int.reduceMul, reduceCtorEq, Try.results26]) | (refine @Exists.intro I _ (I.d D.nil) ?_; simp only [go_sem, Nat.reduceBEq, Nat.reduceLT, Nat.reduceLeDiff, Nat.reduceEqDiff, Nat.reduceAdd, Nat.reduceSub, Nat.reduceMul, ↓reduceIte, Int.reduceLE, Int.reduceLT, Int.reduceNeg, Int.reduceToNat, Int.reduceAdd, Int.reduceSub, Int.reduceMul, reduceCtorEq, Try.results26]) | ((with_reducible (show Region.lexB _ _ = true)); kernel_rfl) | ((try rw [inK_i64]); omega)
      refine ⟨i + 1, by omega, by omega, ?_⟩
      rw [hstep]
      exact ⟨⟨rfl, rfl⟩, ⟨rfl, rfl⟩, rfl, rfl⟩
    · obtain rfl : i = n.toNat := by omega
      refine iwp_frz 3 rfl (Nat.zero_le _) ?_
      refine run_code Try.tok 1000 ?_
      simp only [go_sem, Nat.reduceBEq, Nat.reduceLT, Nat.reduceLeDiff, Nat.reduceEqDiff, Nat.reduceAdd, Nat.reduceSub, Nat.reduceMul, ↓reduceIte, Int.reduceLE, Int.reduceLT, Int.reduceNeg, Int.reduceToNat, Int.reduceAdd, Int.reduceSub, Int.reduceMul, reduceCtorEq, Try.results26]
      have hq := Try.c_sOptimize (cnC n) hvl.1 hvl.2
      rw [hop, e] at hq
      have htk : (cnSt n.toNat n.toNat).next.take n.toNat = (cnSt n.toNat n.toNat).next := List.take_of_length_le (by omega)
      repeat' first | assumption | (simp (disch := first | assumption | omega | (simp; done) | (simp; omega)) only [getD_bss, getD_iss, List.take_of_length_le, remV_pos]; try simp only [go_sem, Nat.reduceBEq, Nat.reduceLT, Nat.reduceLeDiff, Nat.reduceEqDiff, Nat.reduceAdd, Nat.reduceSub, Nat.reduceMul, ↓reduceIte, Int.reduceLE, Int.reduceLT, Int.reduceNeg, Int.reduceToNat, Int.reduceAdd, Int.reduceSub, Int.reduceMul, reduceCtorEq, Try.results26, htk]) | (with_reducible refine And.intro ?_ ?_) | (with_reducible intro _) | (refine fcall_of hq ?_; simp only [go_sem, Nat.reduceBEq, Nat.reduceLT, Nat.reduceLeDiff, Nat.reduceEqDiff, Nat.reduceAdd, Nat.reduceSub, Nat.reduceMul, ↓reduceIte, Int.reduceLE, Int.reduceLT, Int.reduceNeg, Int.reduceToNat, Int.reduceAdd, Int.reduceSub, Int.reduceMul, reduceCtorEq, Try.results26, htk]) | (refine @Exists.intro I _ (I.d D.nil) ?_; simp only [go_sem, Nat.reduceBEq, Nat.reduceLT, Nat.reduceLeDiff, Nat.reduceEqDiff, Nat.reduceAdd, Nat.reduceSub, Nat.reduceMul, ↓reduceIte, Int.reduceLE, Int.reduceLT, Int.reduceNeg, Int.reduceToNat, Int.reduceAdd, Int.reduceSub, Int.reduceMul, reduceCtorEq, Try.results26, htk]) | ((with_reducible (show Region.lexB _ _ = true)); kernel_rfl) | ((try rw [inK_i64]); omega)
      all_goals (rw [e])
end Go.Proofs
