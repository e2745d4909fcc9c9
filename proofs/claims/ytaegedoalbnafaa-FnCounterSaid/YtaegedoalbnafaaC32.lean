/- Contracts: counters. Conditions: none; lemmas. -/
import Derived.Test.YtaegedoalbnafaaC31
set_option maxRecDepth 20000
set_option linter.unusedVariables false
set_option linter.unusedSimpArgs false
namespace Go.Proofs
open Go Go.VL

structure CnS where
  b : Bld
  next : List Int
  outs : List Int
  en : Int
def cnStep (i : Nat) (s : CnS) : CnS :=
  let p := s.b.xor (2 * (2 + i)) s.en
  let q := p.1.and (2 * (2 + i)) s.en
  ⟨q.1, s.next ++ [p.2], s.outs ++ [2 * (2 + (i : Int))], q.2⟩
def cnSt (n : Nat) : Nat → CnS
  | 0 => ⟨Bld.new (1 + 1 + n), [], [], 2⟩
  | i + 1 => cnStep i (cnSt n i)
def cnC (n : Int) : Circ := if n < 1 ∨ 3 < n then Circ.zero else ⟨1, (cnSt n.toNat n.toNat).next, (cnSt n.toNat n.toNat).b.gates, (cnSt n.toNat n.toNat).outs⟩
structure CnOk (n i : Nat) (s : CnS) : Prop where
  ok : s.b.Ok
  fst : s.b.first = 2 + n
  len : s.b.gates.length ≤ 4 * i
  e : s.b.lit s.en
  nx : s.next.length = i
  o : s.outs.length = i
theorem cn_chain {n i : Nat} {s : CnS} (h : CnOk n i s) (hi : i < n) (hn : n ≤ 3) : ∃ b1 z1 b2 z2, s.b.xor (2 * (2 + (i : Int))) s.en = (b1, z1) ∧ b1.and (2 * (2 + (i : Int))) s.en = (b2, z2) ∧
    cnStep i s = ⟨b2, s.next ++ [z1], s.outs ++ [2 * (2 + (i : Int))], z2⟩ ∧
    (b1.Ok ∧ b1.first = s.b.first ∧ s.b.gates.length ≤ b1.gates.length ∧ b1.gates.length ≤ s.b.gates.length + 3) ∧
    (b2.Ok ∧ b2.first = s.b.first ∧ b1.gates.length ≤ b2.gates.length ∧ b2.gates.length ≤ s.b.gates.length + 4 ∧ b2.lit z2) := by
  obtain ⟨ok, fst, len, c, nx, o⟩ := h
  unfold Bld.lit at c
  have h1 := Bld.xor_ok ok (x := 2 * (2 + i)) (y := s.en) (by omega) (by omega) c
  unfold cnStep
  simp only
  generalize s.b.xor (2 * (2 + (i : Int))) s.en = p at *
  obtain ⟨b1, z1⟩ := p
  simp only at h1 ⊢
  have h2 := Bld.and_ok h1.1 (2 * (2 + (i : Int))) s.en (by omega)
  have r2 := Bld.and_res h1.1 (x := 2 * (2 + (i : Int))) (y := s.en) (by omega) (by omega)
  generalize e2 : b1.and (2 * (2 + (i : Int))) s.en = p at *
  obtain ⟨b2, z2⟩ := p
  simp only at h2 r2 ⊢
  exact ⟨b1, z1, b2, z2, rfl, e2, rfl, ⟨h1.1, by omega, by omega, by omega⟩, ⟨h2.1, by omega, by omega, by omega, r2⟩⟩
theorem cnSt_ok {n : Nat} (hn : 1 ≤ n ∧ n ≤ 3) : ∀ i, i ≤ n → CnOk n i (cnSt n i)
  | 0, _ => ⟨Bld.new_ok (by omega), by simp [cnSt, Bld.new], by simp [cnSt, Bld.new], by simp [cnSt, Bld.new, Bld.lit]; omega, rfl, rfl⟩
  | i + 1, hi => by
    have h := cnSt_ok hn i (by omega)
    obtain ⟨b1, z1, b2, z2, e1, e2, e3, k1, k2⟩ := cn_chain h (by omega) (by omega)
    obtain ⟨ok, fst, len, c, nx, o⟩ := h
    rw [cnSt, e3]
    exact ⟨k2.1, by simp only; omega, by simp only; omega, k2.2.2.2.2, by simp [nx], by simp [o]⟩
theorem Try.c_Counter (n : Int) : Pure Try.prog 25 [dI n] (dC (cnC n)) := by
  refine pure_of' (E := Try.env 0) Try.tok rfl 1000 Try.func25 rfl rfl Try.ntmps25 (by simp) fun ok => ?_
  simp only [go_sem, Nat.reduceBEq, Nat.reduceLT, Nat.reduceLeDiff, Nat.reduceEqDiff, Nat.reduceAdd, Nat.reduceSub, Nat.reduceMul, ↓reduceIte, Int.reduceLE, Int.reduceLT, Int.reduceNeg, Int.reduceToNat, Int.reduceAdd, Int.reduceSub, Int.reduceMul, reduceCtorEq] at ok
  by_cases h : n < 1 ∨ 3 < n
  · have e : cnC n = Circ.zero := by rw [cnC, if_pos h]
    rw [e]
    simp only [go_sem, Nat.reduceBEq, Nat.reduceLT, Nat.reduceLeDiff, Nat.reduceEqDiff, Nat.reduceAdd, Nat.reduceSub, Nat.reduceMul, ↓reduceIte, Int.reduceLE, Int.reduceLT, Int.reduceNeg, Int.reduceToNat, Int.reduceAdd, Int.reduceSub, Int.reduceMul, reduceCtorEq, Try.results25]
    repeat' first | assumption | (simp (disch := first | assumption | omega | (simp; done) | (simp; omega)) only [getD_bss, getD_iss, List.take_of_length_le, remV_pos]; try simp only [go_sem, Nat.reduceBEq, Nat.reduceLT, Nat.reduceLeDiff, Nat.reduceEqDiff, Nat.reduceAdd, Nat.reduceSub, Nat.reduceMul, ↓reduceIte, Int.reduceLE, Int.reduceLT, Int.reduceNeg, Int.reduceToNat, Int.reduceAdd, Int.reduceSub, Int.reduceMul, reduceCtorEq, Try.results25]) | (with_reducible refine And.intro ?_ ?_) | (with_reducible intro _) | (refine @Exists.intro I _ (I.d D.nil) ?_; simp only [go_sem, Nat.reduceBEq, Nat.reduceLT, Nat.reduceLeDiff, Nat.reduceEqDiff, Nat.reduceAdd, Nat.reduceSub, Nat.reduceMul, ↓reduceIte, Int.reduceLE, Int.reduceLT, Int.reduceNeg, Int.reduceToNat, Int.reduceAdd, Int.reduceSub, Int.reduceMul, reduceCtorEq, Try.results25]) | ((with_reducible (show Region.lexB _ _ = true)); kernel_rfl) | ((try rw [inK_i64]); omega)
    all_goals simp [Circ.zero]
  have e : cnC n = ⟨1, (cnSt n.toNat n.toNat).next, (cnSt n.toNat n.toNat).b.gates, (cnSt n.toNat n.toNat).outs⟩ := by rw [cnC, if_neg h]
  rw [e]
  simp only [go_sem, Nat.reduceBEq, Nat.reduceLT, Nat.reduceLeDiff, Nat.reduceEqDiff, Nat.reduceAdd, Nat.reduceSub, Nat.reduceMul, ↓reduceIte, Int.reduceLE, Int.reduceLT, Int.reduceNeg, Int.reduceToNat, Int.reduceAdd, Int.reduceSub, Int.reduceMul, reduceCtorEq, Try.results25]
  repeat' first | assumption | (simp (disch := first | assumption | omega | (simp; done) | (simp; omega)) only [getD_bss, getD_iss, List.take_of_length_le, remV_pos]; try simp only [go_sem, Nat.reduceBEq, Nat.reduceLT, Nat.reduceLeDiff, Nat.reduceEqDiff, Nat.reduceAdd, Nat.reduceSub, Nat.reduceMul, ↓reduceIte, Int.reduceLE, Int.reduceLT, Int.reduceNeg, Int.reduceToNat, Int.reduceAdd, Int.reduceSub, Int.reduceMul, reduceCtorEq, Try.results25]) | (with_reducible refine And.intro ?_ ?_) | (with_reducible intro _) | (refine @Exists.intro I _ (I.d D.nil) ?_; simp only [go_sem, Nat.reduceBEq, Nat.reduceLT, Nat.reduceLeDiff, Nat.reduceEqDiff, Nat.reduceAdd, Nat.reduceSub, Nat.reduceMul, ↓reduceIte, Int.reduceLE, Int.reduceLT, Int.reduceNeg, Int.reduceToNat, Int.reduceAdd, Int.reduceSub, Int.reduceMul, reduceCtorEq, Try.results25]) | ((with_reducible (show Region.lexB _ _ = true)); kernel_rfl) | ((try rw [inK_i64]); omega)
  have c0 := Try.c_newBuilder 1 n.toNat (by omega)
  have e0 : ((n.toNat : Nat) : Int) = n := by omega
  rw [e0] at c0
  refine call_proc c0 [] (by simp only [go_sem, Nat.reduceBEq, Nat.reduceLT, Nat.reduceLeDiff, Nat.reduceEqDiff, Nat.reduceAdd, Nat.reduceSub, Nat.reduceMul, ↓reduceIte, Int.reduceLE, Int.reduceLT, Int.reduceNeg, Int.reduceToNat, Int.reduceAdd, Int.reduceSub, Int.reduceMul, reduceCtorEq]) ?_
  simp only [go_sem, Nat.reduceBEq, Nat.reduceLT, Nat.reduceLeDiff, Nat.reduceEqDiff, Nat.reduceAdd, Nat.reduceSub, Nat.reduceMul, ↓reduceIte, Int.reduceLE, Int.reduceLT, Int.reduceNeg, Int.reduceToNat, Int.reduceAdd, Int.reduceSub, Int.reduceMul, reduceCtorEq, Try.results25, bN]
  repeat' first | assumption | (simp (disch := first | assumption | omega | (simp; done) | (simp; omega)) only [getD_bss, getD_iss, List.take_of_length_le, remV_pos]; try simp only [go_sem, Nat.reduceBEq, Nat.reduceLT, Nat.reduceLeDiff, Nat.reduceEqDiff, Nat.reduceAdd, Nat.reduceSub, Nat.reduceMul, ↓reduceIte, Int.reduceLE, Int.reduceLT, Int.reduceNeg, Int.reduceToNat, Int.reduceAdd, Int.reduceSub, Int.reduceMul, reduceCtorEq, Try.results25]) | (with_reducible refine And.intro ?_ ?_) | (with_reducible intro _) | (refine @Exists.intro I _ (I.d D.nil) ?_; simp only [go_sem, Nat.reduceBEq, Nat.reduceLT, Nat.reduceLeDiff, Nat.reduceEqDiff, Nat.reduceAdd, Nat.reduceSub, Nat.reduceMul, ↓reduceIte, Int.reduceLE, Int.reduceLT, Int.reduceNeg, Int.reduceToNat, Int.reduceAdd, Int.reduceSub, Int.reduceMul, reduceCtorEq, Try.results25]) | ((with_reducible (show Region.lexB _ _ = true)); kernel_rfl) | ((try rw [inK_i64]); omega)
  refine loop_of2 (E := Try.env 0) Try.tok (σ := Nat) (fun i => [(0, .d (dI n)), (2, .ptr 0 0), (3, .ptr 3 0), (4, .d (dI (cnSt n.toNat i).en)), (5, .ptr 5 0), (18, .d (dI n)), (19, .d (dI i))])
    (fun i => .box [.d (dI 0), .d .nil, .d .nil, .d .nil] :: (bN1 (cnSt n.toNat i).b ++ [.box [.d (dI 1), .sl 6 i 1 0 i, .d .nil, .sl 7 i 1 0 i], .row i 1 true ((cnSt n.toNat i).next.map (D.int .i64)), .row i 1 true ((cnSt n.toNat i).outs.map (D.int .i64))])) (fun i => i ≤ n.toNat) (fun i => n.toNat - i) [(5, 1, 1, true), (5, 3, 1, true)] [] 1000 1000 ?_ ?_ ?_ ?_
  · simp only [go_sem, Nat.reduceBEq, Nat.reduceLT, Nat.reduceLeDiff, Nat.reduceEqDiff, Nat.reduceAdd, Nat.reduceSub, Nat.reduceMul, ↓reduceIte, Int.reduceLE, Int.reduceLT, Int.reduceNeg, Int.reduceToNat, Int.reduceAdd, Int.reduceSub, Int.reduceMul, reduceCtorEq]
  · simp only [go_sem, Nat.reduceBEq, Nat.reduceLT, Nat.reduceLeDiff, Nat.reduceEqDiff, Nat.reduceAdd, Nat.reduceSub, Nat.reduceMul, ↓reduceIte, Int.reduceLE, Int.reduceLT, Int.reduceNeg, Int.reduceToNat, Int.reduceAdd, Int.reduceSub, Int.reduceMul, reduceCtorEq]
  · simp only [go_sem, Nat.reduceBEq, Nat.reduceLT, Nat.reduceLeDiff, Nat.reduceEqDiff, Nat.reduceAdd, Nat.reduceSub, Nat.reduceMul, ↓reduceIte, Int.reduceLE, Int.reduceLT, Int.reduceNeg, Int.reduceToNat, Int.reduceAdd, Int.reduceSub, Int.reduceMul, reduceCtorEq, Try.results25, bN1]
    refine ⟨0, by omega, ?_⟩
    simp only [go_sem, Nat.reduceBEq, Nat.reduceLT, Nat.reduceLeDiff, Nat.reduceEqDiff, Nat.reduceAdd, Nat.reduceSub, Nat.reduceMul, ↓reduceIte, Int.reduceLE, Int.reduceLT, Int.reduceNeg, Int.reduceToNat, Int.reduceAdd, Int.reduceSub, Int.reduceMul, reduceCtorEq, Try.results25, bN1, cnSt, Nat.add_zero]
  · intro i hi
    have ho := cnSt_ok (n := n.toNat) (by omega) i hi
    have hnl := ho.nx
    have hol := ho.o
    by_cases hlt : i < n.toNat
    · obtain ⟨b1, z1, b2, z2, e1, e2, e3, k1, k2⟩ := cn_chain ho (by omega) (by omega)
      have hstep : cnSt n.toNat (i + 1) = ⟨b2, (cnSt n.toNat i).next ++ [z1], (cnSt n.toNat i).outs ++ [2 * (2 + (i : Int))], z2⟩ := by rw [cnSt, e3]
      obtain ⟨ok1, fst1, len1, cc, _, _⟩ := ho
      have g1 := Try.c_xor (cnSt n.toNat i).b ok1 (by omega) (2 * (2 + (i : Int))) (cnSt n.toNat i).en (by omega) cc
      rw [e1] at g1
      unfold Bld.lit at cc
      have g2 := Try.c_and b1 k1.1 (2 * (2 + (i : Int))) (cnSt n.toNat i).en (by omega) (by omega)
      rw [e2] at g2
      simp only [go_sem, Nat.reduceBEq, Nat.reduceLT, Nat.reduceLeDiff, Nat.reduceEqDiff, Nat.reduceAdd, Nat.reduceSub, Nat.reduceMul, ↓reduceIte, Int.reduceLE, Int.reduceLT, Int.reduceNeg, Int.reduceToNat, Int.reduceAdd, Int.reduceSub, Int.reduceMul, reduceCtorEq, Try.results25, bN1]
      repeat' first | assumption | (simp (disch := first | assumption | omega | (simp; done) | (simp; omega)) only [getD_bss, getD_iss, List.take_of_length_le, remV_pos]; try simp only [go_sem, Nat.reduceBEq, Nat.reduceLT, Nat.reduceLeDiff, Nat.reduceEqDiff, Nat.reduceAdd, Nat.reduceSub, Nat.reduceMul, ↓reduceIte, Int.reduceLE, Int.reduceLT, Int.reduceNeg, Int.reduceToNat, Int.reduceAdd, Int.reduceSub, Int.reduceMul, reduceCtorEq, Try.results25]) | (with_reducible refine And.intro ?_ ?_) | (with_reducible intro _) | (refine @Exists.intro I _ (I.d D.nil) ?_; simp only [go_sem, Nat.reduceBEq, Nat.reduceLT, Nat.reduceLeDiff, Nat.reduceEqDiff, Nat.reduceAdd, Nat.reduceSub, Nat.reduceMul, ↓reduceIte, Int.reduceLE, Int.reduceLT, Int.reduceNeg, Int.reduceToNat, Int.reduceAdd, Int.reduceSub, Int.reduceMul, reduceCtorEq, Try.results25]) | ((with_reducible (show Region.lexB _ _ = true)); kernel_rfl) | ((try rw [inK_i64]); omega)
      refine drawn_of (E := Try.env 0) Try.tok Try.follows 1000 1000 [5, 7, 9] (.fst 0 (.fst 2 (.fst 3 (.fst 4 (.two 1 (.one 5 (.one 6 (.one 7 (.fst 8 (.one 9 (.done)))))) 5 (.two 1 (.one 6 (.one 7 (.fst 8 (.one 9 (.done))))) 6 (.one 1 (.one 7 (.fst 8 (.one 9 (.done))))))))))) (by kernel_rfl) ?_
      simp only [go_sem, Nat.reduceBEq, Nat.reduceLT, Nat.reduceLeDiff, Nat.reduceEqDiff, Nat.reduceAdd, Nat.reduceSub, Nat.reduceMul, ↓reduceIte, Int.reduceLE, Int.reduceLT, Int.reduceNeg, Int.reduceToNat, Int.reduceAdd, Int.reduceSub, Int.reduceMul, reduceCtorEq, Try.results25, bN1]
      repeat' first | assumption | (simp (disch := first | assumption | omega | (simp; done) | (simp; omega)) only [getD_bss, getD_iss, List.take_of_length_le, remV_pos]; try simp only [go_sem, Nat.reduceBEq, Nat.reduceLT, Nat.reduceLeDiff, Nat.reduceEqDiff, Nat.reduceAdd, Nat.reduceSub, Nat.reduceMul, ↓reduceIte, Int.reduceLE, Int.reduceLT, Int.reduceNeg, Int.reduceToNat, Int.reduceAdd, Int.reduceSub, Int.reduceMul, reduceCtorEq, Try.results25]) | (with_reducible refine And.intro ?_ ?_) | (with_reducible intro _) | (refine @Exists.intro I _ (I.d D.nil) ?_; simp only [go_sem, Nat.reduceBEq, Nat.reduceLT, Nat.reduceLeDiff, Nat.reduceEqDiff, Nat.reduceAdd, Nat.reduceSub, Nat.reduceMul, ↓reduceIte, Int.reduceLE, Int.reduceLT, Int.reduceNeg, Int.reduceToNat, Int.reduceAdd, Int.reduceSub, Int.reduceMul, reduceCtorEq, Try.results25]) | ((with_reducible (show Region.lexB _ _ = true)); kernel_rfl) | ((try rw [inK_i64]); omega)
      all_goals repeat' first | assumption | (simp (disch := first | assumption | omega | (simp; done) | (simp; omega)) only [getD_bss, getD_iss, List.take_of_length_le, remV_pos]; try simp only [go_sem, Nat.reduceBEq, Nat.reduceLT, Nat.reduceLeDiff, Nat.reduceEqDiff, Nat.reduceAdd, Nat.reduceSub, Nat.reduceMul, ↓reduceIte, Int.reduceLE, Int.reduceLT, Int.reduceNeg, Int.reduceToNat, Int.reduceAdd, Int.reduceSub, Int.reduceMul, reduceCtorEq, Try.results25, bH]) | (with_reducible refine And.intro ?_ ?_) | (with_reducible intro _) | (refine call_proc g1 [3, 4, 1, 2] (by simp only [bH]; simp only [go_sem, Nat.reduceBEq, Nat.reduceLT, Nat.reduceLeDiff, Nat.reduceEqDiff, Nat.reduceAdd, Nat.reduceSub, Nat.reduceMul, ↓reduceIte, Int.reduceLE, Int.reduceLT, Int.reduceNeg, Int.reduceToNat, Int.reduceAdd, Int.reduceSub, Int.reduceMul, reduceCtorEq]) ?_; simp only [go_sem, Nat.reduceBEq, Nat.reduceLT, Nat.reduceLeDiff, Nat.reduceEqDiff, Nat.reduceAdd, Nat.reduceSub, Nat.reduceMul, ↓reduceIte, Int.reduceLE, Int.reduceLT, Int.reduceNeg, Int.reduceToNat, Int.reduceAdd, Int.reduceSub, Int.reduceMul, reduceCtorEq, Try.results25, bH]) | (refine call_proc g2 [3, 4, 1, 2] (by simp only [bH]; simp only [go_sem, Nat.reduceBEq, Nat.reduceLT, Nat.reduceLeDiff, Nat.reduceEqDiff, Nat.reduceAdd, Nat.reduceSub, Nat.reduceMul, ↓reduceIte, Int.reduceLE, Int.reduceLT, Int.reduceNeg, Int.reduceToNat, Int.reduceAdd, Int.reduceSub, Int.reduceMul, reduceCtorEq]) ?_; simp only [go_sem, Nat.reduceBEq, Nat.reduceLT, Nat.reduceLeDiff, Nat.reduceEqDiff, Nat.reduceAdd, Nat.reduceSub, Nat.reduceMul, ↓reduceIte, Int.reduceLE, Int.reduceLT, Int.reduceNeg, Int.reduceToNat, Int.reduceAdd, Int.reduceSub, Int.reduceMul, reduceCtorEq, Try.results25, bH]) | (refine @Exists.intro I _ (I.d D.nil) ?_; simp only [go_sem, Nat.reduceBEq, Nat.reduceLT, Nat.reduceLeDiff, Nat.reduceEqDiff, Nat.reduceAdd, Nat.reduceSub, Nat.reduceMul, ↓reduceIte, Int.reduceLE, Int.reduceLT, Int.reduceNeg, Int.reduceToNat, Int.reduceAdd, Int.reduceSub, Int.reduceMul, reduceCtorEq, Try.results25, bH]) | ((with_reducible (show Region.lexB _ _ = true)); kernel_rfl) | ((try rw [inK_i64]); omega)
      all_goals
        refine ⟨i + 1, by omega, by omega, ?_⟩
        rw [hstep]
        simp
    · obtain rfl : i = n.toNat := by omega
      simp only [go_sem, Nat.reduceBEq, Nat.reduceLT, Nat.reduceLeDiff, Nat.reduceEqDiff, Nat.reduceAdd, Nat.reduceSub, Nat.reduceMul, ↓reduceIte, Int.reduceLE, Int.reduceLT, Int.reduceNeg, Int.reduceToNat, Int.reduceAdd, Int.reduceSub, Int.reduceMul, reduceCtorEq, Try.results25, bN1]
      repeat' first | assumption | (simp (disch := first | assumption | omega | (simp; done) | (simp; omega)) only [getD_bss, getD_iss, List.take_of_length_le, remV_pos]; try simp only [go_sem, Nat.reduceBEq, Nat.reduceLT, Nat.reduceLeDiff, Nat.reduceEqDiff, Nat.reduceAdd, Nat.reduceSub, Nat.reduceMul, ↓reduceIte, Int.reduceLE, Int.reduceLT, Int.reduceNeg, Int.reduceToNat, Int.reduceAdd, Int.reduceSub, Int.reduceMul, reduceCtorEq, Try.results25]) | (with_reducible refine And.intro ?_ ?_) | (with_reducible intro _) | (refine @Exists.intro I _ (I.d D.nil) ?_; simp only [go_sem, Nat.reduceBEq, Nat.reduceLT, Nat.reduceLeDiff, Nat.reduceEqDiff, Nat.reduceAdd, Nat.reduceSub, Nat.reduceMul, ↓reduceIte, Int.reduceLE, Int.reduceLT, Int.reduceNeg, Int.reduceToNat, Int.reduceAdd, Int.reduceSub, Int.reduceMul, reduceCtorEq, Try.results25]) | ((with_reducible (show Region.lexB _ _ = true)); kernel_rfl) | ((try rw [inK_i64]); omega)
end Go.Proofs
