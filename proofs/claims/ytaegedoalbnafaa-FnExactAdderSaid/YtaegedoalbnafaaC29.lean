/- Contracts: adders, counters and decoders. Conditions: none; lemmas. -/
import Derived.Test.YtaegedoalbnafaaC28
import Derived.Test.YtaegedoalbnafaaC11
import Derived.Test.YtaegedoalbnafaaVM8
set_option maxRecDepth 20000
set_option linter.unusedVariables false
set_option linter.unusedSimpArgs false
namespace Go.Proofs
open Go Go.VL

/-! ### The adder -/
structure AdS where
  b : Bld
  carry : Int
  outs : List Int
def adStep (n i : Nat) (s : AdS) : AdS :=
  let p := s.b.xor (2 * (1 + i)) (2 * (1 + n + i))
  let q := p.1.xor p.2 s.carry
  let g := q.1.and (2 * (1 + i)) (2 * (1 + n + i))
  let h := g.1.and p.2 s.carry
  let e := h.1.and (flip g.2) (flip h.2)
  ⟨e.1, flip e.2, s.outs ++ [q.2]⟩
def adSt (n : Nat) : Nat → AdS
  | 0 => ⟨Bld.new (1 + 2 * n + 0), 0, []⟩
  | i + 1 => adStep n i (adSt n i)
def adderC (n : Int) : Circ := if n < 1 ∨ 2 < n then Circ.zero else ⟨2 * n, [], (adSt n.toNat n.toNat).b.gates, (adSt n.toNat n.toNat).outs ++ [(adSt n.toNat n.toNat).carry]⟩
/-- A builder behind one other root. -/
def bN1 (b : Bld) : List R := [.row b.gates.length 1 true (b.levels.map (D.int .i64)), .map (knownOf b.first 0 b.gates), .box [.d (dI b.first), .sl 4 b.gates.length 2 0 b.gates.length, .sl 1 b.gates.length 1 0 (b.first + b.gates.length), .map 2], .row b.gates.length 2 true (b.gates.map dP)]
structure AdOk (n i : Nat) (s : AdS) : Prop where
  ok : s.b.Ok
  fst : s.b.first = 1 + 2 * n
  len : s.b.gates.length ≤ 9 * i
  c : 0 ≤ s.carry ∧ s.carry < 2 * ((s.b.first + s.b.gates.length : Nat) : Int)
  o : s.outs.length = i
theorem ad_chain {n i : Nat} {s : AdS} (h : AdOk n i s) (hi : i < n) (hn : n ≤ 2) : ∃ b1 z1 b2 z2 b3 z3 b4 z4 b5 z5, s.b.xor (2 * (1 + (i : Int))) (2 * (1 + (n : Int) + (i : Int))) = (b1, z1) ∧ b1.xor z1 s.carry = (b2, z2) ∧
    b2.and (2 * (1 + (i : Int))) (2 * (1 + (n : Int) + (i : Int))) = (b3, z3) ∧ b3.and z1 s.carry = (b4, z4) ∧ b4.and (flip z3) (flip z4) = (b5, z5) ∧ adStep n i s = ⟨b5, flip z5, s.outs ++ [z2]⟩ ∧
    (b1.Ok ∧ b1.first = s.b.first ∧ s.b.gates.length ≤ b1.gates.length ∧ b1.gates.length ≤ s.b.gates.length + 3 ∧ 0 ≤ z1) ∧
    (b2.Ok ∧ b2.first = s.b.first ∧ b1.gates.length ≤ b2.gates.length ∧ b2.gates.length ≤ s.b.gates.length + 6 ∧ z1 < 2 * ((b1.first + b1.gates.length : Nat) : Int)) ∧
    (b3.Ok ∧ b3.first = s.b.first ∧ b2.gates.length ≤ b3.gates.length ∧ b3.gates.length ≤ s.b.gates.length + 7 ∧ 0 ≤ z3 ∧ z3 < 2 * ((b3.first + b3.gates.length : Nat) : Int)) ∧
    (b4.Ok ∧ b4.first = s.b.first ∧ b3.gates.length ≤ b4.gates.length ∧ b4.gates.length ≤ s.b.gates.length + 8 ∧ 0 ≤ z4 ∧ z4 < 2 * ((b4.first + b4.gates.length : Nat) : Int)) ∧
    (b5.Ok ∧ b5.first = s.b.first ∧ b4.gates.length ≤ b5.gates.length ∧ b5.gates.length ≤ s.b.gates.length + 9 ∧ 0 ≤ z5 ∧ z5 < 2 * ((b5.first + b5.gates.length : Nat) : Int)) := by
  obtain ⟨ok, fst, len, c, o⟩ := h
  have h1 := Bld.xor_ok ok (x := 2 * (1 + i)) (y := 2 * (1 + n + i)) (by omega) (by omega) (by omega)
  unfold adStep
  simp only
  generalize s.b.xor (2 * (1 + (i : Int))) (2 * (1 + (n : Int) + (i : Int))) = p at *
  obtain ⟨b1, z1⟩ := p
  simp only at h1 ⊢
  have h2 := Bld.xor_ok h1.1 (x := z1) (y := s.carry) (by omega) (by omega) (by omega)
  generalize e2 : b1.xor z1 s.carry = p at *
  obtain ⟨b2, z2⟩ := p
  simp only at h2 ⊢
  have h3 := Bld.and_ok h2.1 (2 * (1 + (i : Int))) (2 * (1 + (n : Int) + (i : Int))) (by omega)
  have r3 := Bld.and_res h2.1 (x := 2 * (1 + (i : Int))) (y := 2 * (1 + (n : Int) + (i : Int))) (by omega) (by omega)
  generalize e3 : b2.and (2 * (1 + (i : Int))) (2 * (1 + (n : Int) + (i : Int))) = p at *
  obtain ⟨b3, z3⟩ := p
  simp only at h3 r3 ⊢
  have h4 := Bld.and_ok h3.1 z1 s.carry (by omega)
  have r4 := Bld.and_res h3.1 (x := z1) (y := s.carry) (by omega) (by omega)
  generalize e4 : b3.and z1 s.carry = p at *
  obtain ⟨b4, z4⟩ := p
  simp only at h4 r4 ⊢
  have f3 := flip_bd (n := ((b4.first + b4.gates.length : Nat) : Int)) (x := z3) (by omega)
  have f4 := flip_bd (n := ((b4.first + b4.gates.length : Nat) : Int)) (x := z4) (by omega)
  have h5 := Bld.and_ok h4.1 (flip z3) (flip z4) (by omega)
  have r5 := Bld.and_res h4.1 f3 f4
  generalize e5 : b4.and (flip z3) (flip z4) = p at *
  obtain ⟨b5, z5⟩ := p
  simp only at h5 r5 ⊢
  refine ⟨b1, z1, b2, z2, b3, z3, b4, z4, b5, z5, rfl, e2, e3, e4, e5, ?_, ⟨h1.1, by omega, by omega, by omega, by omega⟩, ⟨h2.1, by omega, by omega, by omega, by omega⟩, ⟨h3.1, by omega, by omega, by omega, r3⟩, ⟨h4.1, by omega, by omega, by omega, r4⟩, ⟨h5.1, by omega, by omega, by omega, r5⟩⟩
  rfl
theorem adSt_ok {n : Nat} (hn : n ≤ 2) : ∀ i, i ≤ n → AdOk n i (adSt n i)
  | 0, _ => ⟨Bld.new_ok (by omega), rfl, by simp [adSt, Bld.new], by simp [adSt, Bld.new]; omega, rfl⟩
  | i + 1, hi => by
    have h := adSt_ok hn i (by omega)
    obtain ⟨b1, z1, b2, z2, b3, z3, b4, z4, b5, z5, e1, e2, e3, e4, e5, e6, k1, k2, k3, k4, k5⟩ := ad_chain h (by omega) hn
    obtain ⟨ok, fst, len, c, o⟩ := h
    rw [adSt, e6]
    have f5 := flip_bd (n := ((b5.first + b5.gates.length : Nat) : Int)) (x := z5) (by omega)
    exact ⟨k5.1, by simp only; omega, by simp only; omega, f5, by simp [o]⟩
theorem Try.c_Adder (n : Int) : Pure Try.prog 54 [dI n] (dC (adderC n)) := by
  refine pure_of' (E := Try.env 0) Try.tok rfl 1000 Try.func54 rfl rfl Try.ntmps54 (by simp) fun ok => ?_
  simp only [go_sem, Nat.reduceBEq, Nat.reduceLT, Nat.reduceLeDiff, Nat.reduceEqDiff, Nat.reduceAdd, Nat.reduceSub, Nat.reduceMul, ↓reduceIte, Int.reduceLE, Int.reduceLT, Int.reduceNeg, Int.reduceToNat, Int.reduceAdd, Int.reduceSub, Int.reduceMul, reduceCtorEq] at ok
  simp only [go_sem, Nat.reduceBEq, Nat.reduceLT, Nat.reduceLeDiff, Nat.reduceEqDiff, Nat.reduceAdd, Nat.reduceSub, Nat.reduceMul, ↓reduceIte, Int.reduceLE, Int.reduceLT, Int.reduceNeg, Int.reduceToNat, Int.reduceAdd, Int.reduceSub, Int.reduceMul, reduceCtorEq, Try.results54]
  refine ⟨fun h => ?_, fun h => ?_⟩
  · rw [adderC, if_pos (by omega)]; simp [Circ.zero]
  repeat' first | assumption | (simp (disch := first | assumption | omega | (simp; done) | (simp; omega)) only [getD_bss, getD_iss, List.take_of_length_le, remV_pos]; try simp only [go_sem, Nat.reduceBEq, Nat.reduceLT, Nat.reduceLeDiff, Nat.reduceEqDiff, Nat.reduceAdd, Nat.reduceSub, Nat.reduceMul, ↓reduceIte, Int.reduceLE, Int.reduceLT, Int.reduceNeg, Int.reduceToNat, Int.reduceAdd, Int.reduceSub, Int.reduceMul, reduceCtorEq, Try.results54]) | (with_reducible refine And.intro ?_ ?_) | (with_reducible intro _) | (refine @Exists.intro I _ (I.d D.nil) ?_; simp only [go_sem, Nat.reduceBEq, Nat.reduceLT, Nat.reduceLeDiff, Nat.reduceEqDiff, Nat.reduceAdd, Nat.reduceSub, Nat.reduceMul, ↓reduceIte, Int.reduceLE, Int.reduceLT, Int.reduceNeg, Int.reduceToNat, Int.reduceAdd, Int.reduceSub, Int.reduceMul, reduceCtorEq, Try.results54]) | ((with_reducible (show Region.lexB _ _ = true)); kernel_rfl) | ((try rw [inK_i64]); omega)
  have c0 := Try.c_newBuilder (2 * n.toNat) 0 (by omega)
  have e0 : ((2 * n.toNat : Nat) : Int) = 2 * n := by omega
  rw [e0] at c0
  refine call_proc c0 [] (by simp only [go_sem, Nat.reduceBEq, Nat.reduceLT, Nat.reduceLeDiff, Nat.reduceEqDiff, Nat.reduceAdd, Nat.reduceSub, Nat.reduceMul, ↓reduceIte, Int.reduceLE, Int.reduceLT, Int.reduceNeg, Int.reduceToNat, Int.reduceAdd, Int.reduceSub, Int.reduceMul, reduceCtorEq]) ?_
  simp only [go_sem, Nat.reduceBEq, Nat.reduceLT, Nat.reduceLeDiff, Nat.reduceEqDiff, Nat.reduceAdd, Nat.reduceSub, Nat.reduceMul, ↓reduceIte, Int.reduceLE, Int.reduceLT, Int.reduceNeg, Int.reduceToNat, Int.reduceAdd, Int.reduceSub, Int.reduceMul, reduceCtorEq, Try.results54, bN]
  refine loop_of (E := Try.env 0) Try.tok (σ := Nat) (fun i => [(0, .d (dI n)), (2, .ptr 0 0), (3, .ptr 3 0), (4, .d (dI (adSt n.toNat i).carry)), (5, .sl 5 i 1 0 i), (20, .d (dI n)), (21, .d (dI i))])
    (fun i => .box [.d (dI 0), .d .nil, .d .nil, .d .nil] :: (bN1 (adSt n.toNat i).b ++ [.row i 1 true ((adSt n.toNat i).outs.map (D.int .i64))])) (fun i => i ≤ n.toNat) (fun i => n.toNat - i) [(5, 1, true)] 1000 1000 ?_ ?_ ?_
  · simp only [go_sem, Nat.reduceBEq, Nat.reduceLT, Nat.reduceLeDiff, Nat.reduceEqDiff, Nat.reduceAdd, Nat.reduceSub, Nat.reduceMul, ↓reduceIte, Int.reduceLE, Int.reduceLT, Int.reduceNeg, Int.reduceToNat, Int.reduceAdd, Int.reduceSub, Int.reduceMul, reduceCtorEq]
  · simp only [go_sem, Nat.reduceBEq, Nat.reduceLT, Nat.reduceLeDiff, Nat.reduceEqDiff, Nat.reduceAdd, Nat.reduceSub, Nat.reduceMul, ↓reduceIte, Int.reduceLE, Int.reduceLT, Int.reduceNeg, Int.reduceToNat, Int.reduceAdd, Int.reduceSub, Int.reduceMul, reduceCtorEq, Try.results54, bN1]
    refine ⟨0, by omega, ?_⟩
    simp only [go_sem, Nat.reduceBEq, Nat.reduceLT, Nat.reduceLeDiff, Nat.reduceEqDiff, Nat.reduceAdd, Nat.reduceSub, Nat.reduceMul, ↓reduceIte, Int.reduceLE, Int.reduceLT, Int.reduceNeg, Int.reduceToNat, Int.reduceAdd, Int.reduceSub, Int.reduceMul, reduceCtorEq, Try.results54, bN1, adSt, Nat.add_zero]
  · intro i hi
    have ho := adSt_ok (n := n.toNat) (by omega) i hi
    have hol := ho.o
    simp only [go_sem, Nat.reduceBEq, Nat.reduceLT, Nat.reduceLeDiff, Nat.reduceEqDiff, Nat.reduceAdd, Nat.reduceSub, Nat.reduceMul, ↓reduceIte, Int.reduceLE, Int.reduceLT, Int.reduceNeg, Int.reduceToNat, Int.reduceAdd, Int.reduceSub, Int.reduceMul, reduceCtorEq, Try.results54, bN1]
    repeat' first | assumption | (simp (disch := first | assumption | omega | (simp; done) | (simp; omega)) only [getD_bss, getD_iss, List.take_of_length_le, remV_pos]; try simp only [go_sem, Nat.reduceBEq, Nat.reduceLT, Nat.reduceLeDiff, Nat.reduceEqDiff, Nat.reduceAdd, Nat.reduceSub, Nat.reduceMul, ↓reduceIte, Int.reduceLE, Int.reduceLT, Int.reduceNeg, Int.reduceToNat, Int.reduceAdd, Int.reduceSub, Int.reduceMul, reduceCtorEq, Try.results54]) | (with_reducible refine And.intro ?_ ?_) | (with_reducible intro _) | (refine @Exists.intro I _ (I.d D.nil) ?_; simp only [go_sem, Nat.reduceBEq, Nat.reduceLT, Nat.reduceLeDiff, Nat.reduceEqDiff, Nat.reduceAdd, Nat.reduceSub, Nat.reduceMul, ↓reduceIte, Int.reduceLE, Int.reduceLT, Int.reduceNeg, Int.reduceToNat, Int.reduceAdd, Int.reduceSub, Int.reduceMul, reduceCtorEq, Try.results54]) | ((with_reducible (show Region.lexB _ _ = true)); kernel_rfl) | ((try rw [inK_i64]); omega)
    · obtain ⟨b1, z1, b2, z2, b3, z3, b4, z4, b5, z5, e1, e2, e3, e4, e5, e6, k1, k2, k3, k4, k5⟩ := ad_chain ho (by omega) (by omega)
      rw [show ((n.toNat : Nat) : Int) = n by omega] at e1 e3
      have hstep : adSt n.toNat (i + 1) = ⟨b5, flip z5, (adSt n.toNat i).outs ++ [z2]⟩ := by rw [adSt, e6]
      obtain ⟨ok1, fst1, len1, cc, oo⟩ := ho
      have g1 := Try.c_xor (adSt n.toNat i).b ok1 (by omega) (2 * (1 + (i : Int))) (2 * (1 + n + (i : Int))) (by omega) (by omega)
      rw [e1] at g1
      have g2 := Try.c_xor b1 k1.1 (by omega) z1 (adSt n.toNat i).carry (by omega) (by omega)
      rw [e2] at g2
      have g3 := Try.c_and b2 k2.1 (2 * (1 + (i : Int))) (2 * (1 + n + (i : Int))) (by omega) (by omega)
      rw [e3] at g3
      have g4 := Try.c_and b3 k3.1 z1 (adSt n.toNat i).carry (by omega) (by omega)
      rw [e4] at g4
      have f3 := flip_bd (n := ((b4.first + b4.gates.length : Nat) : Int)) (x := z3) (by omega)
      have f4 := flip_bd (n := ((b4.first + b4.gates.length : Nat) : Int)) (x := z4) (by omega)
      have g5 := Try.c_and b4 k4.1 (flip z3) (flip z4) f3 f4
      rw [e5] at g5
      have x3 : ((z3.toNat ^^^ 1 : Nat) : Int) = flip z3 := xor1 (by omega)
      have x4 : ((z4.toNat ^^^ 1 : Nat) : Int) = flip z4 := xor1 (by omega)
      have x5 : ((z5.toNat ^^^ 1 : Nat) : Int) = flip z5 := xor1 (by omega)
      refine call_proc g1 [3, 4, 1, 2] (by simp only [bH]; simp only [go_sem, Nat.reduceBEq, Nat.reduceLT, Nat.reduceLeDiff, Nat.reduceEqDiff, Nat.reduceAdd, Nat.reduceSub, Nat.reduceMul, ↓reduceIte, Int.reduceLE, Int.reduceLT, Int.reduceNeg, Int.reduceToNat, Int.reduceAdd, Int.reduceSub, Int.reduceMul, reduceCtorEq]) ?_
      simp only [go_sem, Nat.reduceBEq, Nat.reduceLT, Nat.reduceLeDiff, Nat.reduceEqDiff, Nat.reduceAdd, Nat.reduceSub, Nat.reduceMul, ↓reduceIte, Int.reduceLE, Int.reduceLT, Int.reduceNeg, Int.reduceToNat, Int.reduceAdd, Int.reduceSub, Int.reduceMul, reduceCtorEq, Try.results54, bH]
      refine call_proc g2 [3, 4, 1, 2] (by simp only [bH]; simp only [go_sem, Nat.reduceBEq, Nat.reduceLT, Nat.reduceLeDiff, Nat.reduceEqDiff, Nat.reduceAdd, Nat.reduceSub, Nat.reduceMul, ↓reduceIte, Int.reduceLE, Int.reduceLT, Int.reduceNeg, Int.reduceToNat, Int.reduceAdd, Int.reduceSub, Int.reduceMul, reduceCtorEq]) ?_
      simp only [go_sem, Nat.reduceBEq, Nat.reduceLT, Nat.reduceLeDiff, Nat.reduceEqDiff, Nat.reduceAdd, Nat.reduceSub, Nat.reduceMul, ↓reduceIte, Int.reduceLE, Int.reduceLT, Int.reduceNeg, Int.reduceToNat, Int.reduceAdd, Int.reduceSub, Int.reduceMul, reduceCtorEq, Try.results54, bH]
      repeat' first | assumption | (simp (disch := first | assumption | omega | (simp; done) | (simp; omega)) only [getD_bss, getD_iss, List.take_of_length_le, remV_pos]; try simp only [go_sem, Nat.reduceBEq, Nat.reduceLT, Nat.reduceLeDiff, Nat.reduceEqDiff, Nat.reduceAdd, Nat.reduceSub, Nat.reduceMul, ↓reduceIte, Int.reduceLE, Int.reduceLT, Int.reduceNeg, Int.reduceToNat, Int.reduceAdd, Int.reduceSub, Int.reduceMul, reduceCtorEq, Try.results54]) | (with_reducible refine And.intro ?_ ?_) | (with_reducible intro _) | (refine @Exists.intro I _ (I.d D.nil) ?_; simp only [go_sem, Nat.reduceBEq, Nat.reduceLT, Nat.reduceLeDiff, Nat.reduceEqDiff, Nat.reduceAdd, Nat.reduceSub, Nat.reduceMul, ↓reduceIte, Int.reduceLE, Int.reduceLT, Int.reduceNeg, Int.reduceToNat, Int.reduceAdd, Int.reduceSub, Int.reduceMul, reduceCtorEq, Try.results54]) | ((with_reducible (show Region.lexB _ _ = true)); kernel_rfl) | ((try rw [inK_i64]); omega)
      refine call_proc g3 [3, 4, 1, 2] (by simp only [bH]; simp only [go_sem, Nat.reduceBEq, Nat.reduceLT, Nat.reduceLeDiff, Nat.reduceEqDiff, Nat.reduceAdd, Nat.reduceSub, Nat.reduceMul, ↓reduceIte, Int.reduceLE, Int.reduceLT, Int.reduceNeg, Int.reduceToNat, Int.reduceAdd, Int.reduceSub, Int.reduceMul, reduceCtorEq]) ?_
      simp only [go_sem, Nat.reduceBEq, Nat.reduceLT, Nat.reduceLeDiff, Nat.reduceEqDiff, Nat.reduceAdd, Nat.reduceSub, Nat.reduceMul, ↓reduceIte, Int.reduceLE, Int.reduceLT, Int.reduceNeg, Int.reduceToNat, Int.reduceAdd, Int.reduceSub, Int.reduceMul, reduceCtorEq, Try.results54, bH, x3]
      repeat' first | assumption | (simp (disch := first | assumption | omega | (simp; done) | (simp; omega)) only [getD_bss, getD_iss, List.take_of_length_le, remV_pos]; try simp only [go_sem, Nat.reduceBEq, Nat.reduceLT, Nat.reduceLeDiff, Nat.reduceEqDiff, Nat.reduceAdd, Nat.reduceSub, Nat.reduceMul, ↓reduceIte, Int.reduceLE, Int.reduceLT, Int.reduceNeg, Int.reduceToNat, Int.reduceAdd, Int.reduceSub, Int.reduceMul, reduceCtorEq, Try.results54]) | (with_reducible refine And.intro ?_ ?_) | (with_reducible intro _) | (refine @Exists.intro I _ (I.d D.nil) ?_; simp only [go_sem, Nat.reduceBEq, Nat.reduceLT, Nat.reduceLeDiff, Nat.reduceEqDiff, Nat.reduceAdd, Nat.reduceSub, Nat.reduceMul, ↓reduceIte, Int.reduceLE, Int.reduceLT, Int.reduceNeg, Int.reduceToNat, Int.reduceAdd, Int.reduceSub, Int.reduceMul, reduceCtorEq, Try.results54]) | ((with_reducible (show Region.lexB _ _ = true)); kernel_rfl) | ((try rw [inK_i64]); omega)
      refine call_proc g4 [3, 4, 1, 2] (by simp only [bH]; simp only [go_sem, Nat.reduceBEq, Nat.reduceLT, Nat.reduceLeDiff, Nat.reduceEqDiff, Nat.reduceAdd, Nat.reduceSub, Nat.reduceMul, ↓reduceIte, Int.reduceLE, Int.reduceLT, Int.reduceNeg, Int.reduceToNat, Int.reduceAdd, Int.reduceSub, Int.reduceMul, reduceCtorEq]) ?_
      simp only [go_sem, Nat.reduceBEq, Nat.reduceLT, Nat.reduceLeDiff, Nat.reduceEqDiff, Nat.reduceAdd, Nat.reduceSub, Nat.reduceMul, ↓reduceIte, Int.reduceLE, Int.reduceLT, Int.reduceNeg, Int.reduceToNat, Int.reduceAdd, Int.reduceSub, Int.reduceMul, reduceCtorEq, Try.results54, bH, x3, x4]
      repeat' first | assumption | (simp (disch := first | assumption | omega | (simp; done) | (simp; omega)) only [getD_bss, getD_iss, List.take_of_length_le, remV_pos]; try simp only [go_sem, Nat.reduceBEq, Nat.reduceLT, Nat.reduceLeDiff, Nat.reduceEqDiff, Nat.reduceAdd, Nat.reduceSub, Nat.reduceMul, ↓reduceIte, Int.reduceLE, Int.reduceLT, Int.reduceNeg, Int.reduceToNat, Int.reduceAdd, Int.reduceSub, Int.reduceMul, reduceCtorEq, Try.results54]) | (with_reducible refine And.intro ?_ ?_) | (with_reducible intro _) | (refine @Exists.intro I _ (I.d D.nil) ?_; simp only [go_sem, Nat.reduceBEq, Nat.reduceLT, Nat.reduceLeDiff, Nat.reduceEqDiff, Nat.reduceAdd, Nat.reduceSub, Nat.reduceMul, ↓reduceIte, Int.reduceLE, Int.reduceLT, Int.reduceNeg, Int.reduceToNat, Int.reduceAdd, Int.reduceSub, Int.reduceMul, reduceCtorEq, Try.results54]) | ((with_reducible (show Region.lexB _ _ = true)); kernel_rfl) | ((try rw [inK_i64]); omega)
      refine call_proc g5 [3, 4, 1, 2] (by simp only [bH]; simp only [go_sem, Nat.reduceBEq, Nat.reduceLT, Nat.reduceLeDiff, Nat.reduceEqDiff, Nat.reduceAdd, Nat.reduceSub, Nat.reduceMul, ↓reduceIte, Int.reduceLE, Int.reduceLT, Int.reduceNeg, Int.reduceToNat, Int.reduceAdd, Int.reduceSub, Int.reduceMul, reduceCtorEq]) ?_
      simp only [go_sem, Nat.reduceBEq, Nat.reduceLT, Nat.reduceLeDiff, Nat.reduceEqDiff, Nat.reduceAdd, Nat.reduceSub, Nat.reduceMul, ↓reduceIte, Int.reduceLE, Int.reduceLT, Int.reduceNeg, Int.reduceToNat, Int.reduceAdd, Int.reduceSub, Int.reduceMul, reduceCtorEq, Try.results54, bH, x5]
      repeat' first | assumption | (simp (disch := first | assumption | omega | (simp; done) | (simp; omega)) only [getD_bss, getD_iss, List.take_of_length_le, remV_pos]; try simp only [go_sem, Nat.reduceBEq, Nat.reduceLT, Nat.reduceLeDiff, Nat.reduceEqDiff, Nat.reduceAdd, Nat.reduceSub, Nat.reduceMul, ↓reduceIte, Int.reduceLE, Int.reduceLT, Int.reduceNeg, Int.reduceToNat, Int.reduceAdd, Int.reduceSub, Int.reduceMul, reduceCtorEq, Try.results54]) | (with_reducible refine And.intro ?_ ?_) | (with_reducible intro _) | (refine @Exists.intro I _ (I.d D.nil) ?_; simp only [go_sem, Nat.reduceBEq, Nat.reduceLT, Nat.reduceLeDiff, Nat.reduceEqDiff, Nat.reduceAdd, Nat.reduceSub, Nat.reduceMul, ↓reduceIte, Int.reduceLE, Int.reduceLT, Int.reduceNeg, Int.reduceToNat, Int.reduceAdd, Int.reduceSub, Int.reduceMul, reduceCtorEq, Try.results54]) | ((with_reducible (show Region.lexB _ _ = true)); kernel_rfl) | ((try rw [inK_i64]); omega)
      refine ⟨i + 1, by omega, by omega, ?_⟩
      rw [hstep]
      simp
    · obtain rfl : i = n.toNat := by omega
      refine drawn_of (E := Try.env 0) Try.tok Try.follows 1000 1000 [9, 11] (.fst 0 (.fst 1 (.fst 2 (.fst 3 (.fst 4 (.fst 6 (.fst 7 (.two 5 (.one 8 (.one 9 (.fst 10 (.one 11 (.done))))) 8 (.two 5 (.one 9 (.fst 10 (.one 11 (.done)))) 9 (.one 5 (.fst 10 (.one 11 (.done))))))))))))) (by kernel_rfl) ?_
      simp only [go_sem, Nat.reduceBEq, Nat.reduceLT, Nat.reduceLeDiff, Nat.reduceEqDiff, Nat.reduceAdd, Nat.reduceSub, Nat.reduceMul, ↓reduceIte, Int.reduceLE, Int.reduceLT, Int.reduceNeg, Int.reduceToNat, Int.reduceAdd, Int.reduceSub, Int.reduceMul, reduceCtorEq, Try.results54]
      repeat' first | assumption | (simp (disch := first | assumption | omega | (simp; done) | (simp; omega)) only [getD_bss, getD_iss, List.take_of_length_le, remV_pos]; try simp only [go_sem, Nat.reduceBEq, Nat.reduceLT, Nat.reduceLeDiff, Nat.reduceEqDiff, Nat.reduceAdd, Nat.reduceSub, Nat.reduceMul, ↓reduceIte, Int.reduceLE, Int.reduceLT, Int.reduceNeg, Int.reduceToNat, Int.reduceAdd, Int.reduceSub, Int.reduceMul, reduceCtorEq, Try.results54]) | (with_reducible refine And.intro ?_ ?_) | (with_reducible intro _) | (refine @Exists.intro I _ (I.d D.nil) ?_; simp only [go_sem, Nat.reduceBEq, Nat.reduceLT, Nat.reduceLeDiff, Nat.reduceEqDiff, Nat.reduceAdd, Nat.reduceSub, Nat.reduceMul, ↓reduceIte, Int.reduceLE, Int.reduceLT, Int.reduceNeg, Int.reduceToNat, Int.reduceAdd, Int.reduceSub, Int.reduceMul, reduceCtorEq, Try.results54]) | ((with_reducible (show Region.lexB _ _ = true)); kernel_rfl) | ((try rw [inK_i64]); omega)
      all_goals (rw [adderC, if_neg (by omega)])
      rfl
/-! ### The reference -/
def cFst (c : Circ) : Nat := c.inputs.toNat + c.next.length + 1
def andR (c : Circ) (a b : Int) : Circ × Int := (⟨c.inputs, c.next, (andG (cFst c) c.gates a b).1, c.outs⟩, (andG (cFst c) c.gates a b).2)
theorem andR_cases (c : Circ) (x y : Int) : ((lo2 x y = 0 ∨ lo2 x y = flip (hi2 x y)) ∧ andR c x y = (c, 0)) ∨
    (¬ (lo2 x y = 0 ∨ lo2 x y = flip (hi2 x y)) ∧ (lo2 x y = 1 ∨ lo2 x y = hi2 x y) ∧ andR c x y = (c, hi2 x y)) ∨
    (¬ (lo2 x y = 0 ∨ lo2 x y = flip (hi2 x y)) ∧ ¬ (lo2 x y = 1 ∨ lo2 x y = hi2 x y) ∧
      (((lo2 x y, hi2 x y) ∈ c.gates ∧ andR c x y = (c, 2 * ((cFst c : Int) + (idx2 c.gates (lo2 x y, hi2 x y) : Nat)))) ∨
       ((lo2 x y, hi2 x y) ∉ c.gates ∧ andR c x y = (⟨c.inputs, c.next, c.gates ++ [(lo2 x y, hi2 x y)], c.outs⟩, 2 * ((cFst c : Int) + (c.gates.length : Nat)))))) := by
  unfold andR andG
  by_cases h1 : lo2 x y = 0 ∨ lo2 x y = flip (hi2 x y)
  · left; simp only [if_pos h1, if_true]; exact ⟨h1, trivial⟩
  · right
    by_cases h2 : lo2 x y = 1 ∨ lo2 x y = hi2 x y
    · left; simp only [if_neg h1, if_pos h2, if_true]; exact ⟨h1, h2, trivial⟩
    · right
      by_cases h3 : (lo2 x y, hi2 x y) ∈ c.gates
      · simp only [if_neg h1, if_neg h2, if_pos h3]; exact ⟨h1, h2, .inl ⟨h3, trivial⟩⟩
      · simp only [if_neg h1, if_neg h2, if_neg h3]; exact ⟨h1, h2, .inr ⟨h3, trivial⟩⟩
theorem idx2_eq {l : List (Int × Int)} {p : Int × Int} {i : Nat} (hi : i < l.length) (h : l.getD i (0, 0) = p) (hn : ∀ j, j < i → l.getD j (0, 0) ≠ p) : idx2 l p = i := by
  unfold idx2
  rw [List.findIdx_eq hi]
  refine ⟨by simpa [List.getD, hi] using h, fun j hj => ?_⟩
  have := hn j hj
  simpa [List.getD, show j < l.length by omega] using this
theorem mem_getD2 {l : List (Int × Int)} {p : Int × Int} : p ∈ l ↔ ∃ i, i < l.length ∧ l.getD i (0, 0) = p := by
  rw [List.mem_iff_getElem]
  constructor
  · rintro ⟨i, h, e⟩; exact ⟨i, h, by simpa [List.getD, h] using e⟩
  · rintro ⟨i, h, e⟩; exact ⟨i, h, by simpa [List.getD, h] using e⟩
theorem Try.c_l3And (c : Circ) (a b : Int) (hi : 0 ≤ c.inputs ∧ c.inputs ≤ 1000) (hn : c.next.length ≤ 1000) (hg : c.gates.length ≤ 100000) (ha : 0 ≤ a ∧ a ≤ 1000000) (hb : 0 ≤ b ∧ b ≤ 1000000) :
    PureF Try.prog 83 [dC c, dI a, dI b] (.tup [dC (andR c a b).1, dI (andR c a b).2]) := by
  refine pureF_of' (E := Try.env 0) Try.tok rfl 1000 Try.func83 rfl rfl Try.ntmps83 (by simp) fun ok => ?_
  simp only [go_sem, Nat.reduceBEq, Nat.reduceLT, Nat.reduceLeDiff, Nat.reduceEqDiff, Nat.reduceAdd, Nat.reduceSub, Nat.reduceMul, ↓reduceIte, Int.reduceLE, Int.reduceLT, Int.reduceNeg, Int.reduceToNat, Int.reduceAdd, Int.reduceSub, Int.reduceMul, reduceCtorEq] at ok
  have hfi := Try.c_l1First c (by omega)
  have hfst : c.first = (cFst c : Int) := by unfold Circ.first cFst; omega
  have hfs : cFst c ≤ 3000 := by unfold cFst; omega
  by_cases hxy : b < a
  · have e1 : lo2 a b = b := if_pos hxy
    have e2 : hi2 a b = a := if_pos hxy
    have hc := andR_cases c a b
    rw [e1, e2] at hc
    have hfl : b = flip a ↔ b = a - 1 ∧ b % 2 = 0 := by unfold flip; split <;> omega
    rw [hfl] at hc
    rcases hc with ⟨hc, hq⟩ | ⟨hc, hc2, hq⟩ | ⟨hc, hc2, hc3⟩
    · rw [hq]; simp only [go_sem, Nat.reduceBEq, Nat.reduceLT, Nat.reduceLeDiff, Nat.reduceEqDiff, Nat.reduceAdd, Nat.reduceSub, Nat.reduceMul, ↓reduceIte, Int.reduceLE, Int.reduceLT, Int.reduceNeg, Int.reduceToNat, Int.reduceAdd, Int.reduceSub, Int.reduceMul, reduceCtorEq, Try.results83, hxy]
      repeat' first | assumption | (simp (disch := first | assumption | omega | (simp; done) | (simp; omega)) only [getD_bss, getD_iss, List.take_of_length_le, remV_pos]; try simp only [go_sem, Nat.reduceBEq, Nat.reduceLT, Nat.reduceLeDiff, Nat.reduceEqDiff, Nat.reduceAdd, Nat.reduceSub, Nat.reduceMul, ↓reduceIte, Int.reduceLE, Int.reduceLT, Int.reduceNeg, Int.reduceToNat, Int.reduceAdd, Int.reduceSub, Int.reduceMul, reduceCtorEq, Try.results83]) | (with_reducible refine And.intro ?_ ?_) | (with_reducible intro _) | (refine pcall_fz hfi ?_; simp only [go_sem, Nat.reduceBEq, Nat.reduceLT, Nat.reduceLeDiff, Nat.reduceEqDiff, Nat.reduceAdd, Nat.reduceSub, Nat.reduceMul, ↓reduceIte, Int.reduceLE, Int.reduceLT, Int.reduceNeg, Int.reduceToNat, Int.reduceAdd, Int.reduceSub, Int.reduceMul, reduceCtorEq, Try.results83]) | (refine @Exists.intro I _ (I.d D.nil) ?_; simp only [go_sem, Nat.reduceBEq, Nat.reduceLT, Nat.reduceLeDiff, Nat.reduceEqDiff, Nat.reduceAdd, Nat.reduceSub, Nat.reduceMul, ↓reduceIte, Int.reduceLE, Int.reduceLT, Int.reduceNeg, Int.reduceToNat, Int.reduceAdd, Int.reduceSub, Int.reduceMul, reduceCtorEq, Try.results83]) | ((with_reducible (show Region.lexB _ _ = true)); kernel_rfl) | ((try rw [inK_i64]); omega)
    · rw [hq]; simp only [go_sem, Nat.reduceBEq, Nat.reduceLT, Nat.reduceLeDiff, Nat.reduceEqDiff, Nat.reduceAdd, Nat.reduceSub, Nat.reduceMul, ↓reduceIte, Int.reduceLE, Int.reduceLT, Int.reduceNeg, Int.reduceToNat, Int.reduceAdd, Int.reduceSub, Int.reduceMul, reduceCtorEq, Try.results83, hxy]
      repeat' first | assumption | (simp (disch := first | assumption | omega | (simp; done) | (simp; omega)) only [getD_bss, getD_iss, List.take_of_length_le, remV_pos]; try simp only [go_sem, Nat.reduceBEq, Nat.reduceLT, Nat.reduceLeDiff, Nat.reduceEqDiff, Nat.reduceAdd, Nat.reduceSub, Nat.reduceMul, ↓reduceIte, Int.reduceLE, Int.reduceLT, Int.reduceNeg, Int.reduceToNat, Int.reduceAdd, Int.reduceSub, Int.reduceMul, reduceCtorEq, Try.results83]) | (with_reducible refine And.intro ?_ ?_) | (with_reducible intro _) | (refine pcall_fz hfi ?_; simp only [go_sem, Nat.reduceBEq, Nat.reduceLT, Nat.reduceLeDiff, Nat.reduceEqDiff, Nat.reduceAdd, Nat.reduceSub, Nat.reduceMul, ↓reduceIte, Int.reduceLE, Int.reduceLT, Int.reduceNeg, Int.reduceToNat, Int.reduceAdd, Int.reduceSub, Int.reduceMul, reduceCtorEq, Try.results83]) | (refine @Exists.intro I _ (I.d D.nil) ?_; simp only [go_sem, Nat.reduceBEq, Nat.reduceLT, Nat.reduceLeDiff, Nat.reduceEqDiff, Nat.reduceAdd, Nat.reduceSub, Nat.reduceMul, ↓reduceIte, Int.reduceLE, Int.reduceLT, Int.reduceNeg, Int.reduceToNat, Int.reduceAdd, Int.reduceSub, Int.reduceMul, reduceCtorEq, Try.results83]) | ((with_reducible (show Region.lexB _ _ = true)); kernel_rfl) | ((try rw [inK_i64]); omega)
    · simp only [go_sem, Nat.reduceBEq, Nat.reduceLT, Nat.reduceLeDiff, Nat.reduceEqDiff, Nat.reduceAdd, Nat.reduceSub, Nat.reduceMul, ↓reduceIte, Int.reduceLE, Int.reduceLT, Int.reduceNeg, Int.reduceToNat, Int.reduceAdd, Int.reduceSub, Int.reduceMul, reduceCtorEq, Try.results83, hxy]
      repeat' first | assumption | (simp (disch := first | assumption | omega | (simp; done) | (simp; omega)) only [getD_bss, getD_iss, List.take_of_length_le, remV_pos]; try simp only [go_sem, Nat.reduceBEq, Nat.reduceLT, Nat.reduceLeDiff, Nat.reduceEqDiff, Nat.reduceAdd, Nat.reduceSub, Nat.reduceMul, ↓reduceIte, Int.reduceLE, Int.reduceLT, Int.reduceNeg, Int.reduceToNat, Int.reduceAdd, Int.reduceSub, Int.reduceMul, reduceCtorEq, Try.results83]) | (with_reducible refine And.intro ?_ ?_) | (with_reducible intro _) | (refine pcall_fz hfi ?_; simp only [go_sem, Nat.reduceBEq, Nat.reduceLT, Nat.reduceLeDiff, Nat.reduceEqDiff, Nat.reduceAdd, Nat.reduceSub, Nat.reduceMul, ↓reduceIte, Int.reduceLE, Int.reduceLT, Int.reduceNeg, Int.reduceToNat, Int.reduceAdd, Int.reduceSub, Int.reduceMul, reduceCtorEq, Try.results83]) | (refine @Exists.intro I _ (I.d D.nil) ?_; simp only [go_sem, Nat.reduceBEq, Nat.reduceLT, Nat.reduceLeDiff, Nat.reduceEqDiff, Nat.reduceAdd, Nat.reduceSub, Nat.reduceMul, ↓reduceIte, Int.reduceLE, Int.reduceLT, Int.reduceNeg, Int.reduceToNat, Int.reduceAdd, Int.reduceSub, Int.reduceMul, reduceCtorEq, Try.results83]) | ((with_reducible (show Region.lexB _ _ = true)); kernel_rfl) | ((try rw [inK_i64]); omega)
      all_goals first | (exfalso; omega) | skip
      refine loop_of (E := Try.env 0) Try.tok (σ := Nat) (fun i => [(0, .d (dC c)), (1, .d (dI b)), (2, .d (dI a)), (3, .ptr 0 0), (6, .ptr 1 0), (9, .d (dI c.first)), (10, .d (dI i))])
        (fun i => [.box [.d (dI c.inputs), .d (dIs c.next), .d (dPs c.gates), .d (dIs c.outs)], .box [.d (dI 0), .d .nil, .d .nil, .d .nil]]) (fun i => i ≤ c.gates.length ∧ ∀ j, j < i → c.gates.getD j (0, 0) ≠ (b, a)) (fun i => c.gates.length - i) [] 1000 1000 ?_ ?_ ?_
      · simp only [go_sem, Nat.reduceBEq, Nat.reduceLT, Nat.reduceLeDiff, Nat.reduceEqDiff, Nat.reduceAdd, Nat.reduceSub, Nat.reduceMul, ↓reduceIte, Int.reduceLE, Int.reduceLT, Int.reduceNeg, Int.reduceToNat, Int.reduceAdd, Int.reduceSub, Int.reduceMul, reduceCtorEq]
      · simp only [go_sem, Nat.reduceBEq, Nat.reduceLT, Nat.reduceLeDiff, Nat.reduceEqDiff, Nat.reduceAdd, Nat.reduceSub, Nat.reduceMul, ↓reduceIte, Int.reduceLE, Int.reduceLT, Int.reduceNeg, Int.reduceToNat, Int.reduceAdd, Int.reduceSub, Int.reduceMul, reduceCtorEq]
        exact ⟨0, ⟨by omega, fun j hj => absurd hj (by omega)⟩, rfl⟩
      · rintro i ⟨hi, hinv⟩
        by_cases hlt : i < c.gates.length
        · by_cases hg2 : c.gates.getD i (0, 0) = (b, a)
          · have hix := idx2_eq hlt hg2 hinv
            have hmem : (b, a) ∈ c.gates := mem_getD2.2 ⟨i, hlt, hg2⟩
            rcases hc3 with ⟨_, hq⟩ | ⟨hno, _⟩
            · rw [hix] at hq
              rw [hq]
              simp only [go_sem, Nat.reduceBEq, Nat.reduceLT, Nat.reduceLeDiff, Nat.reduceEqDiff, Nat.reduceAdd, Nat.reduceSub, Nat.reduceMul, ↓reduceIte, Int.reduceLE, Int.reduceLT, Int.reduceNeg, Int.reduceToNat, Int.reduceAdd, Int.reduceSub, Int.reduceMul, reduceCtorEq, Try.results83, hg2]
              repeat' first | assumption | (simp (disch := first | assumption | omega | (simp; done) | (simp; omega)) only [getD_bss, getD_iss, List.take_of_length_le, remV_pos]; try simp only [go_sem, Nat.reduceBEq, Nat.reduceLT, Nat.reduceLeDiff, Nat.reduceEqDiff, Nat.reduceAdd, Nat.reduceSub, Nat.reduceMul, ↓reduceIte, Int.reduceLE, Int.reduceLT, Int.reduceNeg, Int.reduceToNat, Int.reduceAdd, Int.reduceSub, Int.reduceMul, reduceCtorEq, Try.results83, hg2]) | (with_reducible refine And.intro ?_ ?_) | (with_reducible intro _) | (refine @Exists.intro I _ (I.d D.nil) ?_; simp only [go_sem, Nat.reduceBEq, Nat.reduceLT, Nat.reduceLeDiff, Nat.reduceEqDiff, Nat.reduceAdd, Nat.reduceSub, Nat.reduceMul, ↓reduceIte, Int.reduceLE, Int.reduceLT, Int.reduceNeg, Int.reduceToNat, Int.reduceAdd, Int.reduceSub, Int.reduceMul, reduceCtorEq, Try.results83, hg2]) | ((with_reducible (show Region.lexB _ _ = true)); kernel_rfl) | ((try rw [inK_i64]); omega)
              all_goals first | (rw [hfst, inK_i64]; omega) | (rw [hfst])
            · exact absurd hmem hno
          · have hg3 : ¬ ((c.gates.getD i (0, 0)).1 = b ∧ (c.gates.getD i (0, 0)).2 = a) := fun h => hg2 (Prod.ext h.1 h.2)
            simp only [go_sem, Nat.reduceBEq, Nat.reduceLT, Nat.reduceLeDiff, Nat.reduceEqDiff, Nat.reduceAdd, Nat.reduceSub, Nat.reduceMul, ↓reduceIte, Int.reduceLE, Int.reduceLT, Int.reduceNeg, Int.reduceToNat, Int.reduceAdd, Int.reduceSub, Int.reduceMul, reduceCtorEq, Try.results83]
            repeat' first | assumption | (simp (disch := first | assumption | omega | (simp; done) | (simp; omega)) only [getD_bss, getD_iss, List.take_of_length_le, remV_pos]; try simp only [go_sem, Nat.reduceBEq, Nat.reduceLT, Nat.reduceLeDiff, Nat.reduceEqDiff, Nat.reduceAdd, Nat.reduceSub, Nat.reduceMul, ↓reduceIte, Int.reduceLE, Int.reduceLT, Int.reduceNeg, Int.reduceToNat, Int.reduceAdd, Int.reduceSub, Int.reduceMul, reduceCtorEq, Try.results83]) | (with_reducible refine And.intro ?_ ?_) | (with_reducible intro _) | (refine @Exists.intro I _ (I.d D.nil) ?_; simp only [go_sem, Nat.reduceBEq, Nat.reduceLT, Nat.reduceLeDiff, Nat.reduceEqDiff, Nat.reduceAdd, Nat.reduceSub, Nat.reduceMul, ↓reduceIte, Int.reduceLE, Int.reduceLT, Int.reduceNeg, Int.reduceToNat, Int.reduceAdd, Int.reduceSub, Int.reduceMul, reduceCtorEq, Try.results83]) | ((with_reducible (show Region.lexB _ _ = true)); kernel_rfl) | ((try rw [inK_i64]); omega)
            exact upto_ex hlt hg2 hinv
        · obtain rfl : i = c.gates.length := by omega
          rcases hc3 with ⟨hyes, _⟩ | ⟨_, hq⟩
          · obtain ⟨j, hj, hj2⟩ := mem_getD2.1 hyes
            exact absurd hj2 (hinv j hj)
          · rw [hq]
            simp only [go_sem, Nat.reduceBEq, Nat.reduceLT, Nat.reduceLeDiff, Nat.reduceEqDiff, Nat.reduceAdd, Nat.reduceSub, Nat.reduceMul, ↓reduceIte, Int.reduceLE, Int.reduceLT, Int.reduceNeg, Int.reduceToNat, Int.reduceAdd, Int.reduceSub, Int.reduceMul, reduceCtorEq, Try.results83]
            repeat' first | assumption | (simp (disch := first | assumption | omega | (simp; done) | (simp; omega)) only [getD_bss, getD_iss, List.take_of_length_le, remV_pos]; try simp only [go_sem, Nat.reduceBEq, Nat.reduceLT, Nat.reduceLeDiff, Nat.reduceEqDiff, Nat.reduceAdd, Nat.reduceSub, Nat.reduceMul, ↓reduceIte, Int.reduceLE, Int.reduceLT, Int.reduceNeg, Int.reduceToNat, Int.reduceAdd, Int.reduceSub, Int.reduceMul, reduceCtorEq, Try.results83]) | (with_reducible refine And.intro ?_ ?_) | (with_reducible intro _) | (refine @Exists.intro I _ (I.d D.nil) ?_; simp only [go_sem, Nat.reduceBEq, Nat.reduceLT, Nat.reduceLeDiff, Nat.reduceEqDiff, Nat.reduceAdd, Nat.reduceSub, Nat.reduceMul, ↓reduceIte, Int.reduceLE, Int.reduceLT, Int.reduceNeg, Int.reduceToNat, Int.reduceAdd, Int.reduceSub, Int.reduceMul, reduceCtorEq, Try.results83]) | ((with_reducible (show Region.lexB _ _ = true)); kernel_rfl) | ((try rw [inK_i64]); omega)
            refine drawn_of (E := Try.env 0) Try.tok Try.follows 1000 1000 [8] (.fst 1 (.fst 2 (.fst 0 (.two 3 (.fst 4 (.fst 5 (.fst 6 (.fst 7 (.one 8 (.fst 9 (.done))))))) 8 (.one 3 (.fst 4 (.fst 5 (.fst 6 (.fst 7 (.fst 9 (.done))))))))))) (by kernel_rfl) ?_
            simp only [go_sem, Nat.reduceBEq, Nat.reduceLT, Nat.reduceLeDiff, Nat.reduceEqDiff, Nat.reduceAdd, Nat.reduceSub, Nat.reduceMul, ↓reduceIte, Int.reduceLE, Int.reduceLT, Int.reduceNeg, Int.reduceToNat, Int.reduceAdd, Int.reduceSub, Int.reduceMul, reduceCtorEq, Try.results83]
            repeat' first | assumption | (simp (disch := first | assumption | omega | (simp; done) | (simp; omega)) only [getD_bss, getD_iss, List.take_of_length_le, remV_pos]; try simp only [go_sem, Nat.reduceBEq, Nat.reduceLT, Nat.reduceLeDiff, Nat.reduceEqDiff, Nat.reduceAdd, Nat.reduceSub, Nat.reduceMul, ↓reduceIte, Int.reduceLE, Int.reduceLT, Int.reduceNeg, Int.reduceToNat, Int.reduceAdd, Int.reduceSub, Int.reduceMul, reduceCtorEq, Try.results83]) | (with_reducible refine And.intro ?_ ?_) | (with_reducible intro _) | (refine @Exists.intro I _ (I.d D.nil) ?_; simp only [go_sem, Nat.reduceBEq, Nat.reduceLT, Nat.reduceLeDiff, Nat.reduceEqDiff, Nat.reduceAdd, Nat.reduceSub, Nat.reduceMul, ↓reduceIte, Int.reduceLE, Int.reduceLT, Int.reduceNeg, Int.reduceToNat, Int.reduceAdd, Int.reduceSub, Int.reduceMul, reduceCtorEq, Try.results83]) | ((with_reducible (show Region.lexB _ _ = true)); kernel_rfl) | ((try rw [inK_i64]); omega)
            all_goals first | (rw [hfst, inK_i64]; omega) | skip
  · have e1 : lo2 a b = a := if_neg hxy
    have e2 : hi2 a b = b := if_neg hxy
    have hc := andR_cases c a b
    rw [e1, e2] at hc
    have hfl : a = flip b ↔ a = b - 1 ∧ a % 2 = 0 := by unfold flip; split <;> omega
    rw [hfl] at hc
    rcases hc with ⟨hc, hq⟩ | ⟨hc, hc2, hq⟩ | ⟨hc, hc2, hc3⟩
    · rw [hq]; simp only [go_sem, Nat.reduceBEq, Nat.reduceLT, Nat.reduceLeDiff, Nat.reduceEqDiff, Nat.reduceAdd, Nat.reduceSub, Nat.reduceMul, ↓reduceIte, Int.reduceLE, Int.reduceLT, Int.reduceNeg, Int.reduceToNat, Int.reduceAdd, Int.reduceSub, Int.reduceMul, reduceCtorEq, Try.results83, hxy]
      repeat' first | assumption | (simp (disch := first | assumption | omega | (simp; done) | (simp; omega)) only [getD_bss, getD_iss, List.take_of_length_le, remV_pos]; try simp only [go_sem, Nat.reduceBEq, Nat.reduceLT, Nat.reduceLeDiff, Nat.reduceEqDiff, Nat.reduceAdd, Nat.reduceSub, Nat.reduceMul, ↓reduceIte, Int.reduceLE, Int.reduceLT, Int.reduceNeg, Int.reduceToNat, Int.reduceAdd, Int.reduceSub, Int.reduceMul, reduceCtorEq, Try.results83]) | (with_reducible refine And.intro ?_ ?_) | (with_reducible intro _) | (refine pcall_fz hfi ?_; simp only [go_sem, Nat.reduceBEq, Nat.reduceLT, Nat.reduceLeDiff, Nat.reduceEqDiff, Nat.reduceAdd, Nat.reduceSub, Nat.reduceMul, ↓reduceIte, Int.reduceLE, Int.reduceLT, Int.reduceNeg, Int.reduceToNat, Int.reduceAdd, Int.reduceSub, Int.reduceMul, reduceCtorEq, Try.results83]) | (refine @Exists.intro I _ (I.d D.nil) ?_; simp only [go_sem, Nat.reduceBEq, Nat.reduceLT, Nat.reduceLeDiff, Nat.reduceEqDiff, Nat.reduceAdd, Nat.reduceSub, Nat.reduceMul, ↓reduceIte, Int.reduceLE, Int.reduceLT, Int.reduceNeg, Int.reduceToNat, Int.reduceAdd, Int.reduceSub, Int.reduceMul, reduceCtorEq, Try.results83]) | ((with_reducible (show Region.lexB _ _ = true)); kernel_rfl) | ((try rw [inK_i64]); omega)
    · rw [hq]; simp only [go_sem, Nat.reduceBEq, Nat.reduceLT, Nat.reduceLeDiff, Nat.reduceEqDiff, Nat.reduceAdd, Nat.reduceSub, Nat.reduceMul, ↓reduceIte, Int.reduceLE, Int.reduceLT, Int.reduceNeg, Int.reduceToNat, Int.reduceAdd, Int.reduceSub, Int.reduceMul, reduceCtorEq, Try.results83, hxy]
      repeat' first | assumption | (simp (disch := first | assumption | omega | (simp; done) | (simp; omega)) only [getD_bss, getD_iss, List.take_of_length_le, remV_pos]; try simp only [go_sem, Nat.reduceBEq, Nat.reduceLT, Nat.reduceLeDiff, Nat.reduceEqDiff, Nat.reduceAdd, Nat.reduceSub, Nat.reduceMul, ↓reduceIte, Int.reduceLE, Int.reduceLT, Int.reduceNeg, Int.reduceToNat, Int.reduceAdd, Int.reduceSub, Int.reduceMul, reduceCtorEq, Try.results83]) | (with_reducible refine And.intro ?_ ?_) | (with_reducible intro _) | (refine pcall_fz hfi ?_; simp only [go_sem, Nat.reduceBEq, Nat.reduceLT, Nat.reduceLeDiff, Nat.reduceEqDiff, Nat.reduceAdd, Nat.reduceSub, Nat.reduceMul, ↓reduceIte, Int.reduceLE, Int.reduceLT, Int.reduceNeg, Int.reduceToNat, Int.reduceAdd, Int.reduceSub, Int.reduceMul, reduceCtorEq, Try.results83]) | (refine @Exists.intro I _ (I.d D.nil) ?_; simp only [go_sem, Nat.reduceBEq, Nat.reduceLT, Nat.reduceLeDiff, Nat.reduceEqDiff, Nat.reduceAdd, Nat.reduceSub, Nat.reduceMul, ↓reduceIte, Int.reduceLE, Int.reduceLT, Int.reduceNeg, Int.reduceToNat, Int.reduceAdd, Int.reduceSub, Int.reduceMul, reduceCtorEq, Try.results83]) | ((with_reducible (show Region.lexB _ _ = true)); kernel_rfl) | ((try rw [inK_i64]); omega)
    · simp only [go_sem, Nat.reduceBEq, Nat.reduceLT, Nat.reduceLeDiff, Nat.reduceEqDiff, Nat.reduceAdd, Nat.reduceSub, Nat.reduceMul, ↓reduceIte, Int.reduceLE, Int.reduceLT, Int.reduceNeg, Int.reduceToNat, Int.reduceAdd, Int.reduceSub, Int.reduceMul, reduceCtorEq, Try.results83, hxy]
      repeat' first | assumption | (simp (disch := first | assumption | omega | (simp; done) | (simp; omega)) only [getD_bss, getD_iss, List.take_of_length_le, remV_pos]; try simp only [go_sem, Nat.reduceBEq, Nat.reduceLT, Nat.reduceLeDiff, Nat.reduceEqDiff, Nat.reduceAdd, Nat.reduceSub, Nat.reduceMul, ↓reduceIte, Int.reduceLE, Int.reduceLT, Int.reduceNeg, Int.reduceToNat, Int.reduceAdd, Int.reduceSub, Int.reduceMul, reduceCtorEq, Try.results83]) | (with_reducible refine And.intro ?_ ?_) | (with_reducible intro _) | (refine pcall_fz hfi ?_; simp only [go_sem, Nat.reduceBEq, Nat.reduceLT, Nat.reduceLeDiff, Nat.reduceEqDiff, Nat.reduceAdd, Nat.reduceSub, Nat.reduceMul, ↓reduceIte, Int.reduceLE, Int.reduceLT, Int.reduceNeg, Int.reduceToNat, Int.reduceAdd, Int.reduceSub, Int.reduceMul, reduceCtorEq, Try.results83]) | (refine @Exists.intro I _ (I.d D.nil) ?_; simp only [go_sem, Nat.reduceBEq, Nat.reduceLT, Nat.reduceLeDiff, Nat.reduceEqDiff, Nat.reduceAdd, Nat.reduceSub, Nat.reduceMul, ↓reduceIte, Int.reduceLE, Int.reduceLT, Int.reduceNeg, Int.reduceToNat, Int.reduceAdd, Int.reduceSub, Int.reduceMul, reduceCtorEq, Try.results83]) | ((with_reducible (show Region.lexB _ _ = true)); kernel_rfl) | ((try rw [inK_i64]); omega)
      all_goals first | (exfalso; omega) | skip
      refine loop_of (E := Try.env 0) Try.tok (σ := Nat) (fun i => [(0, .d (dC c)), (1, .d (dI a)), (2, .d (dI b)), (3, .ptr 0 0), (6, .ptr 1 0), (9, .d (dI c.first)), (10, .d (dI i))])
        (fun i => [.box [.d (dI c.inputs), .d (dIs c.next), .d (dPs c.gates), .d (dIs c.outs)], .box [.d (dI 0), .d .nil, .d .nil, .d .nil]]) (fun i => i ≤ c.gates.length ∧ ∀ j, j < i → c.gates.getD j (0, 0) ≠ (a, b)) (fun i => c.gates.length - i) [] 1000 1000 ?_ ?_ ?_
      · simp only [go_sem, Nat.reduceBEq, Nat.reduceLT, Nat.reduceLeDiff, Nat.reduceEqDiff, Nat.reduceAdd, Nat.reduceSub, Nat.reduceMul, ↓reduceIte, Int.reduceLE, Int.reduceLT, Int.reduceNeg, Int.reduceToNat, Int.reduceAdd, Int.reduceSub, Int.reduceMul, reduceCtorEq]
      · simp only [go_sem, Nat.reduceBEq, Nat.reduceLT, Nat.reduceLeDiff, Nat.reduceEqDiff, Nat.reduceAdd, Nat.reduceSub, Nat.reduceMul, ↓reduceIte, Int.reduceLE, Int.reduceLT, Int.reduceNeg, Int.reduceToNat, Int.reduceAdd, Int.reduceSub, Int.reduceMul, reduceCtorEq]
        exact ⟨0, ⟨by omega, fun j hj => absurd hj (by omega)⟩, rfl⟩
      · rintro i ⟨hi, hinv⟩
        by_cases hlt : i < c.gates.length
        · by_cases hg2 : c.gates.getD i (0, 0) = (a, b)
          · have hix := idx2_eq hlt hg2 hinv
            have hmem : (a, b) ∈ c.gates := mem_getD2.2 ⟨i, hlt, hg2⟩
            rcases hc3 with ⟨_, hq⟩ | ⟨hno, _⟩
            · rw [hix] at hq
              rw [hq]
              simp only [go_sem, Nat.reduceBEq, Nat.reduceLT, Nat.reduceLeDiff, Nat.reduceEqDiff, Nat.reduceAdd, Nat.reduceSub, Nat.reduceMul, ↓reduceIte, Int.reduceLE, Int.reduceLT, Int.reduceNeg, Int.reduceToNat, Int.reduceAdd, Int.reduceSub, Int.reduceMul, reduceCtorEq, Try.results83, hg2]
              repeat' first | assumption | (simp (disch := first | assumption | omega | (simp; done) | (simp; omega)) only [getD_bss, getD_iss, List.take_of_length_le, remV_pos]; try simp only [go_sem, Nat.reduceBEq, Nat.reduceLT, Nat.reduceLeDiff, Nat.reduceEqDiff, Nat.reduceAdd, Nat.reduceSub, Nat.reduceMul, ↓reduceIte, Int.reduceLE, Int.reduceLT, Int.reduceNeg, Int.reduceToNat, Int.reduceAdd, Int.reduceSub, Int.reduceMul, reduceCtorEq, Try.results83, hg2]) | (with_reducible refine And.intro ?_ ?_) | (with_reducible intro _) | (refine @Exists.intro I _ (I.d D.nil) ?_; simp only [go_sem, Nat.reduceBEq, Nat.reduceLT, Nat.reduceLeDiff, Nat.reduceEqDiff, Nat.reduceAdd, Nat.reduceSub, Nat.reduceMul, ↓reduceIte, Int.reduceLE, Int.reduceLT, Int.reduceNeg, Int.reduceToNat, Int.reduceAdd, Int.reduceSub, Int.reduceMul, reduceCtorEq, Try.results83, hg2]) | ((with_reducible (show Region.lexB _ _ = true)); kernel_rfl) | ((try rw [inK_i64]); omega)
              all_goals first | (rw [hfst, inK_i64]; omega) | (rw [hfst])
            · exact absurd hmem hno
          · have hg3 : ¬ ((c.gates.getD i (0, 0)).1 = a ∧ (c.gates.getD i (0, 0)).2 = b) := fun h => hg2 (Prod.ext h.1 h.2)
            simp only [go_sem, Nat.reduceBEq, Nat.reduceLT, Nat.reduceLeDiff, Nat.reduceEqDiff, Nat.reduceAdd, Nat.reduceSub, Nat.reduceMul, ↓reduceIte, Int.reduceLE, Int.reduceLT, Int.reduceNeg, Int.reduceToNat, Int.reduceAdd, Int.reduceSub, Int.reduceMul, reduceCtorEq, Try.results83]
            repeat' first | assumption | (simp (disch := first | assumption | omega | (simp; done) | (simp; omega)) only [getD_bss, getD_iss, List.take_of_length_le, remV_pos]; try simp only [go_sem, Nat.reduceBEq, Nat.reduceLT, Nat.reduceLeDiff, Nat.reduceEqDiff, Nat.reduceAdd, Nat.reduceSub, Nat.reduceMul, ↓reduceIte, Int.reduceLE, Int.reduceLT, Int.reduceNeg, Int.reduceToNat, Int.reduceAdd, Int.reduceSub, Int.reduceMul, reduceCtorEq, Try.results83]) | (with_reducible refine And.intro ?_ ?_) | (with_reducible intro _) | (refine @Exists.intro I _ (I.d D.nil) ?_; simp only [go_sem, Nat.reduceBEq, Nat.reduceLT, Nat.reduceLeDiff, Nat.reduceEqDiff, Nat.reduceAdd, Nat.reduceSub, Nat.reduceMul, ↓reduceIte, Int.reduceLE, Int.reduceLT, Int.reduceNeg, Int.reduceToNat, Int.reduceAdd, Int.reduceSub, Int.reduceMul, reduceCtorEq, Try.results83]) | ((with_reducible (show Region.lexB _ _ = true)); kernel_rfl) | ((try rw [inK_i64]); omega)
            exact upto_ex hlt hg2 hinv
        · obtain rfl : i = c.gates.length := by omega
          rcases hc3 with ⟨hyes, _⟩ | ⟨_, hq⟩
          · obtain ⟨j, hj, hj2⟩ := mem_getD2.1 hyes
            exact absurd hj2 (hinv j hj)
          · rw [hq]
            simp only [go_sem, Nat.reduceBEq, Nat.reduceLT, Nat.reduceLeDiff, Nat.reduceEqDiff, Nat.reduceAdd, Nat.reduceSub, Nat.reduceMul, ↓reduceIte, Int.reduceLE, Int.reduceLT, Int.reduceNeg, Int.reduceToNat, Int.reduceAdd, Int.reduceSub, Int.reduceMul, reduceCtorEq, Try.results83]
            repeat' first | assumption | (simp (disch := first | assumption | omega | (simp; done) | (simp; omega)) only [getD_bss, getD_iss, List.take_of_length_le, remV_pos]; try simp only [go_sem, Nat.reduceBEq, Nat.reduceLT, Nat.reduceLeDiff, Nat.reduceEqDiff, Nat.reduceAdd, Nat.reduceSub, Nat.reduceMul, ↓reduceIte, Int.reduceLE, Int.reduceLT, Int.reduceNeg, Int.reduceToNat, Int.reduceAdd, Int.reduceSub, Int.reduceMul, reduceCtorEq, Try.results83]) | (with_reducible refine And.intro ?_ ?_) | (with_reducible intro _) | (refine @Exists.intro I _ (I.d D.nil) ?_; simp only [go_sem, Nat.reduceBEq, Nat.reduceLT, Nat.reduceLeDiff, Nat.reduceEqDiff, Nat.reduceAdd, Nat.reduceSub, Nat.reduceMul, ↓reduceIte, Int.reduceLE, Int.reduceLT, Int.reduceNeg, Int.reduceToNat, Int.reduceAdd, Int.reduceSub, Int.reduceMul, reduceCtorEq, Try.results83]) | ((with_reducible (show Region.lexB _ _ = true)); kernel_rfl) | ((try rw [inK_i64]); omega)
            refine drawn_of (E := Try.env 0) Try.tok Try.follows 1000 1000 [8] (.fst 1 (.fst 2 (.fst 0 (.two 3 (.fst 4 (.fst 5 (.fst 6 (.fst 7 (.one 8 (.fst 9 (.done))))))) 8 (.one 3 (.fst 4 (.fst 5 (.fst 6 (.fst 7 (.fst 9 (.done))))))))))) (by kernel_rfl) ?_
            simp only [go_sem, Nat.reduceBEq, Nat.reduceLT, Nat.reduceLeDiff, Nat.reduceEqDiff, Nat.reduceAdd, Nat.reduceSub, Nat.reduceMul, ↓reduceIte, Int.reduceLE, Int.reduceLT, Int.reduceNeg, Int.reduceToNat, Int.reduceAdd, Int.reduceSub, Int.reduceMul, reduceCtorEq, Try.results83]
            repeat' first | assumption | (simp (disch := first | assumption | omega | (simp; done) | (simp; omega)) only [getD_bss, getD_iss, List.take_of_length_le, remV_pos]; try simp only [go_sem, Nat.reduceBEq, Nat.reduceLT, Nat.reduceLeDiff, Nat.reduceEqDiff, Nat.reduceAdd, Nat.reduceSub, Nat.reduceMul, ↓reduceIte, Int.reduceLE, Int.reduceLT, Int.reduceNeg, Int.reduceToNat, Int.reduceAdd, Int.reduceSub, Int.reduceMul, reduceCtorEq, Try.results83]) | (with_reducible refine And.intro ?_ ?_) | (with_reducible intro _) | (refine @Exists.intro I _ (I.d D.nil) ?_; simp only [go_sem, Nat.reduceBEq, Nat.reduceLT, Nat.reduceLeDiff, Nat.reduceEqDiff, Nat.reduceAdd, Nat.reduceSub, Nat.reduceMul, ↓reduceIte, Int.reduceLE, Int.reduceLT, Int.reduceNeg, Int.reduceToNat, Int.reduceAdd, Int.reduceSub, Int.reduceMul, reduceCtorEq, Try.results83]) | ((with_reducible (show Region.lexB _ _ = true)); kernel_rfl) | ((try rw [inK_i64]); omega)
            all_goals first | (rw [hfst, inK_i64]; omega) | skip
def xorR (c : Circ) (a b : Int) : Circ × Int :=
  let p := andR c a b
  let q := andR p.1 (flip a) (flip b)
  andR q.1 (flip p.2) (flip q.2)
/-- A circuit in the making. -/
structure Mk (c : Circ) : Prop where
  i : 0 ≤ c.inputs ∧ c.inputs ≤ 1000
  n : c.next.length ≤ 1000
def litR (c : Circ) (x : Int) : Prop := 0 ≤ x ∧ x < 2 * ((cFst c + c.gates.length : Nat) : Int)
theorem andR_ok {c : Circ} (h : Mk c) {x y : Int} (hx : litR c x) (hy : litR c y) : Mk (andR c x y).1 ∧ cFst (andR c x y).1 = cFst c ∧ c.gates.length ≤ (andR c x y).1.gates.length ∧ (andR c x y).1.gates.length ≤ c.gates.length + 1 ∧ litR (andR c x y).1 (andR c x y).2 := by
  have hh : litR c (hi2 x y) := by unfold hi2; split <;> assumption
  have hp : 1 ≤ cFst c := by unfold cFst; omega
  unfold litR at *
  rcases andR_cases c x y with ⟨_, q⟩ | ⟨_, _, q⟩ | ⟨_, _, ⟨hm, q⟩ | ⟨_, q⟩⟩
  · rw [q]; exact ⟨h, rfl, by simp, by simp, by simp only; omega⟩
  · rw [q]; exact ⟨h, rfl, by simp, by simp, by simp only; omega⟩
  · rw [q]
    have := idx2_lt hm
    exact ⟨h, rfl, by simp, by simp, by simp only; omega⟩
  · rw [q]; exact ⟨⟨h.i, h.n⟩, rfl, by simp, by simp, by
      simp only [List.length_append, List.length_singleton]
      have e : cFst ⟨c.inputs, c.next, c.gates ++ [(lo2 x y, hi2 x y)], c.outs⟩ = cFst c := rfl
      rw [e]
      omega⟩
theorem litR_mono {c d : Circ} {x : Int} (h : litR c x) (h1 : cFst d = cFst c) (h2 : c.gates.length ≤ d.gates.length) : litR d x := by unfold litR at *; omega
theorem litR_flip {c : Circ} {x : Int} (h : litR c x) : litR c (flip x) := flip_bd h
theorem Try.c_l26Xor (c : Circ) (h : Mk c) (a b : Int) (hg : c.gates.length ≤ 10000) (ha : litR c a) (hb : litR c b) : PureF Try.prog 82 [dC c, dI a, dI b] (.tup [dC (xorR c a b).1, dI (xorR c a b).2]) := by
  have hx1 : ((a.toNat ^^^ 1 : Nat) : Int) = flip a := xor1 ha.1
  have hy1 : ((b.toNat ^^^ 1 : Nat) : Int) = flip b := xor1 hb.1
  have hfs : cFst c ≤ 3000 := by have := h.i; have := h.n; unfold cFst; omega
  have h1 := andR_ok h ha hb
  have c1 := Try.c_l3And c a b h.i h.n (by omega) (by unfold litR at ha; omega) (by unfold litR at hb; omega)
  unfold xorR
  simp only
  generalize andR c a b = p at *
  obtain ⟨d1, z1⟩ := p
  simp only at h1 c1 ⊢
  obtain ⟨m1, f1, l1, u1, r1⟩ := h1
  have h2 := andR_ok m1 (litR_flip (litR_mono ha f1 l1)) (litR_flip (litR_mono hb f1 l1))
  have ga := litR_flip (litR_mono ha f1 l1)
  have gb := litR_flip (litR_mono hb f1 l1)
  have c2 := Try.c_l3And d1 (flip a) (flip b) m1.i m1.n (by omega) (by unfold litR at ga; omega) (by unfold litR at gb; omega)
  generalize andR d1 (flip a) (flip b) = p at *
  obtain ⟨d2, z2⟩ := p
  simp only at h2 c2 ⊢
  obtain ⟨m2, f2, l2, u2, r2⟩ := h2
  have hz1 : ((z1.toNat ^^^ 1 : Nat) : Int) = flip z1 := xor1 r1.1
  have hz2 : ((z2.toNat ^^^ 1 : Nat) : Int) = flip z2 := xor1 r2.1
  have g1 := litR_flip (litR_mono r1 f2 l2)
  have g2 := litR_flip r2
  have c3 := Try.c_l3And d2 (flip z1) (flip z2) m2.i m2.n (by omega) (by unfold litR at g1; omega) (by unfold litR at g2; omega)
  have p1 := r1.1
  have p2 := r2.1
  have p3 := ha.1
  have p4 := hb.1
  refine pureF_of' (E := Try.env 0) Try.tok rfl 1000 Try.func82 rfl rfl Try.ntmps82 (by simp) fun ok => ?_
  simp only [go_sem, Nat.reduceBEq, Nat.reduceLT, Nat.reduceLeDiff, Nat.reduceEqDiff, Nat.reduceAdd, Nat.reduceSub, Nat.reduceMul, ↓reduceIte, Int.reduceLE, Int.reduceLT, Int.reduceNeg, Int.reduceToNat, Int.reduceAdd, Int.reduceSub, Int.reduceMul, reduceCtorEq] at ok
  simp only [go_sem, Nat.reduceBEq, Nat.reduceLT, Nat.reduceLeDiff, Nat.reduceEqDiff, Nat.reduceAdd, Nat.reduceSub, Nat.reduceMul, ↓reduceIte, Int.reduceLE, Int.reduceLT, Int.reduceNeg, Int.reduceToNat, Int.reduceAdd, Int.reduceSub, Int.reduceMul, reduceCtorEq, Try.results82]
  refine fcall_of c1 ?_
  simp only [go_sem, Nat.reduceBEq, Nat.reduceLT, Nat.reduceLeDiff, Nat.reduceEqDiff, Nat.reduceAdd, Nat.reduceSub, Nat.reduceMul, ↓reduceIte, Int.reduceLE, Int.reduceLT, Int.reduceNeg, Int.reduceToNat, Int.reduceAdd, Int.reduceSub, Int.reduceMul, reduceCtorEq, Try.results82, hx1, hy1]
  repeat' first | assumption | (simp (disch := first | assumption | omega | (simp; done) | (simp; omega)) only [getD_bss, getD_iss, List.take_of_length_le, remV_pos]; try simp only [go_sem, Nat.reduceBEq, Nat.reduceLT, Nat.reduceLeDiff, Nat.reduceEqDiff, Nat.reduceAdd, Nat.reduceSub, Nat.reduceMul, ↓reduceIte, Int.reduceLE, Int.reduceLT, Int.reduceNeg, Int.reduceToNat, Int.reduceAdd, Int.reduceSub, Int.reduceMul, reduceCtorEq, Try.results82, hx1, hy1, hz1, hz2]) | (with_reducible refine And.intro ?_ ?_) | (with_reducible intro _) | (refine fcall_of c2 ?_; simp only [go_sem, Nat.reduceBEq, Nat.reduceLT, Nat.reduceLeDiff, Nat.reduceEqDiff, Nat.reduceAdd, Nat.reduceSub, Nat.reduceMul, ↓reduceIte, Int.reduceLE, Int.reduceLT, Int.reduceNeg, Int.reduceToNat, Int.reduceAdd, Int.reduceSub, Int.reduceMul, reduceCtorEq, Try.results82, hx1, hy1, hz1, hz2]) | (refine fcall_of c3 ?_; simp only [go_sem, Nat.reduceBEq, Nat.reduceLT, Nat.reduceLeDiff, Nat.reduceEqDiff, Nat.reduceAdd, Nat.reduceSub, Nat.reduceMul, ↓reduceIte, Int.reduceLE, Int.reduceLT, Int.reduceNeg, Int.reduceToNat, Int.reduceAdd, Int.reduceSub, Int.reduceMul, reduceCtorEq, Try.results82, hx1, hy1, hz1, hz2]) | (refine @Exists.intro I _ (I.d D.nil) ?_; simp only [go_sem, Nat.reduceBEq, Nat.reduceLT, Nat.reduceLeDiff, Nat.reduceEqDiff, Nat.reduceAdd, Nat.reduceSub, Nat.reduceMul, ↓reduceIte, Int.reduceLE, Int.reduceLT, Int.reduceNeg, Int.reduceToNat, Int.reduceAdd, Int.reduceSub, Int.reduceMul, reduceCtorEq, Try.results82, hx1, hy1, hz1, hz2]) | ((with_reducible (show Region.lexB _ _ = true)); kernel_rfl) | ((try rw [inK_i64]); omega)
theorem andR_mk {n : Int} {nx outs : List Int} {b : Bld} (h : n.toNat + nx.length + 1 = b.first) (x y : Int) : andR ⟨n, nx, b.gates, outs⟩ x y = (⟨n, nx, (b.and x y).1.gates, outs⟩, (b.and x y).2) := by
  have e : cFst ⟨n, nx, b.gates, outs⟩ = b.first := h
  unfold andR
  rw [e]
  rfl
theorem and_first (b : Bld) (x y : Int) : (b.and x y).1.first = b.first := rfl
theorem xorR_mk {n : Int} {nx outs : List Int} {b : Bld} (h : n.toNat + nx.length + 1 = b.first) (x y : Int) : xorR ⟨n, nx, b.gates, outs⟩ x y = (⟨n, nx, (b.xor x y).1.gates, outs⟩, (b.xor x y).2) := by
  unfold xorR Bld.xor
  simp only [andR_mk h]
  rw [andR_mk (b := (b.and x y).1) (by rw [and_first]; exact h)]
  simp only
  rw [andR_mk (b := ((b.and x y).1.and (flip x) (flip y)).1) (by rw [and_first, and_first]; exact h)]
def adHp (n : Int) : Nat → List R
  | 0 => [.box [.d (dI 0), .d .nil, .d .nil, .d .nil], .box [.d (dI (2 * n)), .d (dIs []), .d (dPs (adSt n.toNat 0).b.gates), .sl 2 0 1 0 0], .row 0 1 true ((adSt n.toNat 0).outs.map (D.int .i64))]
  | i + 1 => [.box [.d (dI 0), .d .nil, .d .nil, .d .nil], .box [.d (dI (2 * n)), .d (dIs []), .d (dPs (adSt n.toNat (i + 1)).b.gates), .sl 7 2 1 0 (i + 1)], .dead 0, .dead 0, .dead 0, .dead 0, .dead 0, .row 2 1 true ((adSt n.toNat (i + 1)).outs.map (D.int .i64))]
theorem Try.c_sAdder (n : Int) : PureF Try.prog 55 [dI n] (dC (adderC n)) := by
  refine pureF_of' (E := Try.env 0) Try.tok rfl 1000 Try.func55 rfl rfl Try.ntmps55 (by simp) fun ok => ?_
  simp only [go_sem, Nat.reduceBEq, Nat.reduceLT, Nat.reduceLeDiff, Nat.reduceEqDiff, Nat.reduceAdd, Nat.reduceSub, Nat.reduceMul, ↓reduceIte, Int.reduceLE, Int.reduceLT, Int.reduceNeg, Int.reduceToNat, Int.reduceAdd, Int.reduceSub, Int.reduceMul, reduceCtorEq] at ok
  simp only [go_sem, Nat.reduceBEq, Nat.reduceLT, Nat.reduceLeDiff, Nat.reduceEqDiff, Nat.reduceAdd, Nat.reduceSub, Nat.reduceMul, ↓reduceIte, Int.reduceLE, Int.reduceLT, Int.reduceNeg, Int.reduceToNat, Int.reduceAdd, Int.reduceSub, Int.reduceMul, reduceCtorEq, Try.results55]
  by_cases h : n < 1 ∨ 2 < n
  · have e : adderC n = Circ.zero := by rw [adderC, if_pos h]
    rw [e]
    repeat' first | assumption | (simp (disch := first | assumption | omega | (simp; done) | (simp; omega)) only [getD_bss, getD_iss, List.take_of_length_le, remV_pos]; try simp only [go_sem, Nat.reduceBEq, Nat.reduceLT, Nat.reduceLeDiff, Nat.reduceEqDiff, Nat.reduceAdd, Nat.reduceSub, Nat.reduceMul, ↓reduceIte, Int.reduceLE, Int.reduceLT, Int.reduceNeg, Int.reduceToNat, Int.reduceAdd, Int.reduceSub, Int.reduceMul, reduceCtorEq, Try.results55]) | (with_reducible refine And.intro ?_ ?_) | (with_reducible intro _) | (refine pcall_fz (Try.c_l1In _ _ _) ?_; simp only [go_sem, Nat.reduceBEq, Nat.reduceLT, Nat.reduceLeDiff, Nat.reduceEqDiff, Nat.reduceAdd, Nat.reduceSub, Nat.reduceMul, ↓reduceIte, Int.reduceLE, Int.reduceLT, Int.reduceNeg, Int.reduceToNat, Int.reduceAdd, Int.reduceSub, Int.reduceMul, reduceCtorEq, Try.results55]) | (refine @Exists.intro I _ (I.d D.nil) ?_; simp only [go_sem, Nat.reduceBEq, Nat.reduceLT, Nat.reduceLeDiff, Nat.reduceEqDiff, Nat.reduceAdd, Nat.reduceSub, Nat.reduceMul, ↓reduceIte, Int.reduceLE, Int.reduceLT, Int.reduceNeg, Int.reduceToNat, Int.reduceAdd, Int.reduceSub, Int.reduceMul, reduceCtorEq, Try.results55]) | ((with_reducible (show Region.lexB _ _ = true)); kernel_rfl) | ((try rw [inK_i64]); omega)
    all_goals first | omega | simp [Circ.zero]
  repeat' first | assumption | (simp (disch := first | assumption | omega | (simp; done) | (simp; omega)) only [getD_bss, getD_iss, List.take_of_length_le, remV_pos]; try simp only [go_sem, Nat.reduceBEq, Nat.reduceLT, Nat.reduceLeDiff, Nat.reduceEqDiff, Nat.reduceAdd, Nat.reduceSub, Nat.reduceMul, ↓reduceIte, Int.reduceLE, Int.reduceLT, Int.reduceNeg, Int.reduceToNat, Int.reduceAdd, Int.reduceSub, Int.reduceMul, reduceCtorEq, Try.results55]) | (with_reducible refine And.intro ?_ ?_) | (with_reducible intro _) | (refine pcall_fz (Try.c_l1In _ _ _) ?_; simp only [go_sem, Nat.reduceBEq, Nat.reduceLT, Nat.reduceLeDiff, Nat.reduceEqDiff, Nat.reduceAdd, Nat.reduceSub, Nat.reduceMul, ↓reduceIte, Int.reduceLE, Int.reduceLT, Int.reduceNeg, Int.reduceToNat, Int.reduceAdd, Int.reduceSub, Int.reduceMul, reduceCtorEq, Try.results55]) | (refine @Exists.intro I _ (I.d D.nil) ?_; simp only [go_sem, Nat.reduceBEq, Nat.reduceLT, Nat.reduceLeDiff, Nat.reduceEqDiff, Nat.reduceAdd, Nat.reduceSub, Nat.reduceMul, ↓reduceIte, Int.reduceLE, Int.reduceLT, Int.reduceNeg, Int.reduceToNat, Int.reduceAdd, Int.reduceSub, Int.reduceMul, reduceCtorEq, Try.results55]) | ((with_reducible (show Region.lexB _ _ = true)); kernel_rfl) | ((try rw [inK_i64]); omega)
  refine loop_of4 (E := Try.env 0) Try.tok (σ := Nat) (fun i => [(0, .d (dI n)), (2, .ptr 0 0), (3, .ptr 1 0), (4, .d (dI (adSt n.toNat i).carry)), (5, .d (dI i))])
    (adHp n) (fun i => i ≤ n.toNat) (fun i => n.toNat - i) [(1, 3, 1, true)] [] 1000 ?_ ?_ ?_ ?_
  · simp only [go_sem, Nat.reduceBEq, Nat.reduceLT, Nat.reduceLeDiff, Nat.reduceEqDiff, Nat.reduceAdd, Nat.reduceSub, Nat.reduceMul, ↓reduceIte, Int.reduceLE, Int.reduceLT, Int.reduceNeg, Int.reduceToNat, Int.reduceAdd, Int.reduceSub, Int.reduceMul, reduceCtorEq]
  · simp only [go_sem, Nat.reduceBEq, Nat.reduceLT, Nat.reduceLeDiff, Nat.reduceEqDiff, Nat.reduceAdd, Nat.reduceSub, Nat.reduceMul, ↓reduceIte, Int.reduceLE, Int.reduceLT, Int.reduceNeg, Int.reduceToNat, Int.reduceAdd, Int.reduceSub, Int.reduceMul, reduceCtorEq]
  · simp only [go_sem, Nat.reduceBEq, Nat.reduceLT, Nat.reduceLeDiff, Nat.reduceEqDiff, Nat.reduceAdd, Nat.reduceSub, Nat.reduceMul, ↓reduceIte, Int.reduceLE, Int.reduceLT, Int.reduceNeg, Int.reduceToNat, Int.reduceAdd, Int.reduceSub, Int.reduceMul, reduceCtorEq]
    refine ⟨0, by omega, ?_⟩
    simp only [adHp, adSt, Bld.new]
    simp only [go_sem, Nat.reduceBEq, Nat.reduceLT, Nat.reduceLeDiff, Nat.reduceEqDiff, Nat.reduceAdd, Nat.reduceSub, Nat.reduceMul, ↓reduceIte, Int.reduceLE, Int.reduceLT, Int.reduceNeg, Int.reduceToNat, Int.reduceAdd, Int.reduceSub, Int.reduceMul, reduceCtorEq]
  · intro i hi
    have ho := adSt_ok (n := n.toNat) (by omega) i hi
    have hol := ho.o
    by_cases hlt : (i : Int) < n
    · refine iwp_fit [(0, .d (dI n)), (2, .ptr 0 0), (3, .ptr 1 0), (4, .d (dI (adSt n.toNat i).carry)), (5, .d (dI i))] [.box [.d (dI 0), .d .nil, .d .nil, .d .nil], .box [.d (dI (2 * n)), .d (dIs []), .d (dPs (adSt n.toNat i).b.gates), .d (dIs (adSt n.toNat i).outs)]] rfl ?_ ?_
      · rcases i with _ | i
        · simp only [adHp]
          simp only [go_sem, Nat.reduceBEq, Nat.reduceLT, Nat.reduceLeDiff, Nat.reduceEqDiff, Nat.reduceAdd, Nat.reduceSub, Nat.reduceMul, ↓reduceIte, Int.reduceLE, Int.reduceLT, Int.reduceNeg, Int.reduceToNat, Int.reduceAdd, Int.reduceSub, Int.reduceMul, reduceCtorEq]
          simp [adSt]
        · simp only [adHp]
          simp only [go_sem, Nat.reduceBEq, Nat.reduceLT, Nat.reduceLeDiff, Nat.reduceEqDiff, Nat.reduceAdd, Nat.reduceSub, Nat.reduceMul, ↓reduceIte, Int.reduceLE, Int.reduceLT, Int.reduceNeg, Int.reduceToNat, Int.reduceAdd, Int.reduceSub, Int.reduceMul, reduceCtorEq]
          exact List.take_of_length_le (by omega)
      refine run_code Try.tok 1000 ?_
      simp only [go_sem, Nat.reduceBEq, Nat.reduceLT, Nat.reduceLeDiff, Nat.reduceEqDiff, Nat.reduceAdd, Nat.reduceSub, Nat.reduceMul, ↓reduceIte, Int.reduceLE, Int.reduceLT, Int.reduceNeg, Int.reduceToNat, Int.reduceAdd, Int.reduceSub, Int.reduceMul, reduceCtorEq, Try.results55]
      repeat' first | assumption | (simp (disch := first | assumption | omega | (simp; done) | (simp; omega)) only [getD_bss, getD_iss, List.take_of_length_le, remV_pos]; try simp only [go_sem, Nat.reduceBEq, Nat.reduceLT, Nat.reduceLeDiff, Nat.reduceEqDiff, Nat.reduceAdd, Nat.reduceSub, Nat.reduceMul, ↓reduceIte, Int.reduceLE, Int.reduceLT, Int.reduceNeg, Int.reduceToNat, Int.reduceAdd, Int.reduceSub, Int.reduceMul, reduceCtorEq, Try.results55]) | (with_reducible refine And.intro ?_ ?_) | (with_reducible intro _) | (refine @Exists.intro I _ (I.d D.nil) ?_; simp only [go_sem, Nat.reduceBEq, Nat.reduceLT, Nat.reduceLeDiff, Nat.reduceEqDiff, Nat.reduceAdd, Nat.reduceSub, Nat.reduceMul, ↓reduceIte, Int.reduceLE, Int.reduceLT, Int.reduceNeg, Int.reduceToNat, Int.reduceAdd, Int.reduceSub, Int.reduceMul, reduceCtorEq, Try.results55]) | ((with_reducible (show Region.lexB _ _ = true)); kernel_rfl) | ((try rw [inK_i64]); omega)
      obtain ⟨b1, z1, b2, z2, b3, z3, b4, z4, b5, z5, e1, e2, e3, e4, e5, e6, k1, k2, k3, k4, k5⟩ := ad_chain ho (by omega) (by omega)
      rw [show ((n.toNat : Nat) : Int) = n by omega] at e1 e3
      have hstep : adSt n.toNat (i + 1) = ⟨b5, flip z5, (adSt n.toNat i).outs ++ [z2]⟩ := by rw [adSt, e6]
      obtain ⟨ok1, fst1, len1, cc, oo⟩ := ho
      have hm : ∀ (b : Bld), b.first = (adSt n.toNat i).b.first → (2 * n).toNat + ([] : List Int).length + 1 = b.first := fun b hb => by simp only [List.length_nil]; omega
      have hMk : ∀ (gs : List (Int × Int)) (os : List Int), Mk ⟨2 * n, [], gs, os⟩ := fun gs os => ⟨by simp only; omega, by simp⟩
      have hl : ∀ (b : Bld) (x : Int), b.first = (adSt n.toNat i).b.first → 0 ≤ x → x < 2 * ((b.first + b.gates.length : Nat) : Int) → litR ⟨2 * n, [], b.gates, (adSt n.toNat i).outs⟩ x := by
        intro b x hb h0 h1
        have e : cFst ⟨2 * n, [], b.gates, (adSt n.toNat i).outs⟩ = b.first := hm b hb
        unfold litR
        rw [e]
        exact ⟨h0, h1⟩
      have g1 := Try.c_l26Xor ⟨2 * n, [], (adSt n.toNat i).b.gates, (adSt n.toNat i).outs⟩ (hMk _ _) (2 * (1 + (i : Int))) (2 * (1 + n + (i : Int))) (by simp only; omega) (hl _ _ rfl (by omega) (by omega)) (hl _ _ rfl (by omega) (by omega))
      rw [xorR_mk (hm _ rfl), e1] at g1
      have g2 := Try.c_l26Xor ⟨2 * n, [], b1.gates, (adSt n.toNat i).outs⟩ (hMk _ _) z1 (adSt n.toNat i).carry (by simp only; omega) (hl _ _ k1.2.1 (by omega) (by omega)) (hl _ _ k1.2.1 (by omega) (by omega))
      rw [xorR_mk (hm _ k1.2.1), e2] at g2
      have g3 := Try.c_l3And ⟨2 * n, [], b2.gates, (adSt n.toNat i).outs⟩ (2 * (1 + (i : Int))) (2 * (1 + n + (i : Int))) (hMk b2.gates (adSt n.toNat i).outs).i (by simp) (by simp only; omega) (by omega) (by omega)
      rw [andR_mk (hm _ k2.2.1), e3] at g3
      have g4 := Try.c_l3And ⟨2 * n, [], b3.gates, (adSt n.toNat i).outs⟩ z1 (adSt n.toNat i).carry (hMk b3.gates (adSt n.toNat i).outs).i (by simp) (by simp only; omega) (by omega) (by omega)
      rw [andR_mk (hm _ k3.2.1), e4] at g4
      have f3 := flip_bd (n := ((b4.first + b4.gates.length : Nat) : Int)) (x := z3) (by omega)
      have f4 := flip_bd (n := ((b4.first + b4.gates.length : Nat) : Int)) (x := z4) (by omega)
      have g5 := Try.c_l3And ⟨2 * n, [], b4.gates, (adSt n.toNat i).outs⟩ (flip z3) (flip z4) (hMk b4.gates (adSt n.toNat i).outs).i (by simp) (by simp only; omega) (by omega) (by omega)
      rw [andR_mk (hm _ k4.2.1), e5] at g5
      have x3 : ((z3.toNat ^^^ 1 : Nat) : Int) = flip z3 := xor1 (by omega)
      have x4 : ((z4.toNat ^^^ 1 : Nat) : Int) = flip z4 := xor1 (by omega)
      have x5 : ((z5.toNat ^^^ 1 : Nat) : Int) = flip z5 := xor1 (by omega)
      refine fcall_of g1 ?_
      simp only [go_sem, Nat.reduceBEq, Nat.reduceLT, Nat.reduceLeDiff, Nat.reduceEqDiff, Nat.reduceAdd, Nat.reduceSub, Nat.reduceMul, ↓reduceIte, Int.reduceLE, Int.reduceLT, Int.reduceNeg, Int.reduceToNat, Int.reduceAdd, Int.reduceSub, Int.reduceMul, reduceCtorEq, Try.results55]
      repeat' first | assumption | (simp (disch := first | assumption | omega | (simp; done) | (simp; omega)) only [getD_bss, getD_iss, List.take_of_length_le, remV_pos]; try simp only [go_sem, Nat.reduceBEq, Nat.reduceLT, Nat.reduceLeDiff, Nat.reduceEqDiff, Nat.reduceAdd, Nat.reduceSub, Nat.reduceMul, ↓reduceIte, Int.reduceLE, Int.reduceLT, Int.reduceNeg, Int.reduceToNat, Int.reduceAdd, Int.reduceSub, Int.reduceMul, reduceCtorEq, Try.results55, x3, x4, x5]) | (with_reducible refine And.intro ?_ ?_) | (with_reducible intro _) | (refine fcall_of g2 ?_; simp only [go_sem, Nat.reduceBEq, Nat.reduceLT, Nat.reduceLeDiff, Nat.reduceEqDiff, Nat.reduceAdd, Nat.reduceSub, Nat.reduceMul, ↓reduceIte, Int.reduceLE, Int.reduceLT, Int.reduceNeg, Int.reduceToNat, Int.reduceAdd, Int.reduceSub, Int.reduceMul, reduceCtorEq, Try.results55, x3, x4, x5]) | (refine fcall_of g3 ?_; simp only [go_sem, Nat.reduceBEq, Nat.reduceLT, Nat.reduceLeDiff, Nat.reduceEqDiff, Nat.reduceAdd, Nat.reduceSub, Nat.reduceMul, ↓reduceIte, Int.reduceLE, Int.reduceLT, Int.reduceNeg, Int.reduceToNat, Int.reduceAdd, Int.reduceSub, Int.reduceMul, reduceCtorEq, Try.results55, x3, x4, x5]) | (refine fcall_of g4 ?_; simp only [go_sem, Nat.reduceBEq, Nat.reduceLT, Nat.reduceLeDiff, Nat.reduceEqDiff, Nat.reduceAdd, Nat.reduceSub, Nat.reduceMul, ↓reduceIte, Int.reduceLE, Int.reduceLT, Int.reduceNeg, Int.reduceToNat, Int.reduceAdd, Int.reduceSub, Int.reduceMul, reduceCtorEq, Try.results55, x3, x4, x5]) | (refine fcall_of g5 ?_; simp only [go_sem, Nat.reduceBEq, Nat.reduceLT, Nat.reduceLeDiff, Nat.reduceEqDiff, Nat.reduceAdd, Nat.reduceSub, Nat.reduceMul, ↓reduceIte, Int.reduceLE, Int.reduceLT, Int.reduceNeg, Int.reduceToNat, Int.reduceAdd, Int.reduceSub, Int.reduceMul, reduceCtorEq, Try.results55, x3, x4, x5]) | (refine @Exists.intro I _ (I.d D.nil) ?_; simp only [go_sem, Nat.reduceBEq, Nat.reduceLT, Nat.reduceLeDiff, Nat.reduceEqDiff, Nat.reduceAdd, Nat.reduceSub, Nat.reduceMul, ↓reduceIte, Int.reduceLE, Int.reduceLT, Int.reduceNeg, Int.reduceToNat, Int.reduceAdd, Int.reduceSub, Int.reduceMul, reduceCtorEq, Try.results55, x3, x4, x5]) | ((with_reducible (show Region.lexB _ _ = true)); kernel_rfl) | ((try rw [inK_i64]); omega)
      refine ⟨i + 1, by omega, by omega, ?_⟩
      simp only [adHp]
      rw [hstep]
      simp only [go_sem, Nat.reduceBEq, Nat.reduceLT, Nat.reduceLeDiff, Nat.reduceEqDiff, Nat.reduceAdd, Nat.reduceSub, Nat.reduceMul, ↓reduceIte, Int.reduceLE, Int.reduceLT, Int.reduceNeg, Int.reduceToNat, Int.reduceAdd, Int.reduceSub, Int.reduceMul, reduceCtorEq]
      simp [hol]
    · obtain rfl : i = n.toNat := by omega
      refine run_code Try.tok 1000 ?_
      have hq : adHp n n.toNat = [.box [.d (dI 0), .d .nil, .d .nil, .d .nil], .box [.d (dI (2 * n)), .d (dIs []), .d (dPs (adSt n.toNat n.toNat).b.gates), .sl 7 2 1 0 n.toNat], .dead 0, .dead 0, .dead 0, .dead 0, .dead 0, .row 2 1 true ((adSt n.toNat n.toNat).outs.map (D.int .i64))] := by
        obtain ⟨m, hm⟩ : ∃ m, n.toNat = m + 1 := ⟨n.toNat - 1, by omega⟩
        rw [hm, adHp, hm]
      rw [hq]
      simp only [go_sem, Nat.reduceBEq, Nat.reduceLT, Nat.reduceLeDiff, Nat.reduceEqDiff, Nat.reduceAdd, Nat.reduceSub, Nat.reduceMul, ↓reduceIte, Int.reduceLE, Int.reduceLT, Int.reduceNeg, Int.reduceToNat, Int.reduceAdd, Int.reduceSub, Int.reduceMul, reduceCtorEq, Try.results55]
      repeat' first | assumption | (simp (disch := first | assumption | omega | (simp; done) | (simp; omega)) only [getD_bss, getD_iss, List.take_of_length_le, remV_pos]; try simp only [go_sem, Nat.reduceBEq, Nat.reduceLT, Nat.reduceLeDiff, Nat.reduceEqDiff, Nat.reduceAdd, Nat.reduceSub, Nat.reduceMul, ↓reduceIte, Int.reduceLE, Int.reduceLT, Int.reduceNeg, Int.reduceToNat, Int.reduceAdd, Int.reduceSub, Int.reduceMul, reduceCtorEq, Try.results55]) | (with_reducible refine And.intro ?_ ?_) | (with_reducible intro _) | (refine @Exists.intro I _ (I.d D.nil) ?_; simp only [go_sem, Nat.reduceBEq, Nat.reduceLT, Nat.reduceLeDiff, Nat.reduceEqDiff, Nat.reduceAdd, Nat.reduceSub, Nat.reduceMul, ↓reduceIte, Int.reduceLE, Int.reduceLT, Int.reduceNeg, Int.reduceToNat, Int.reduceAdd, Int.reduceSub, Int.reduceMul, reduceCtorEq, Try.results55]) | ((with_reducible (show Region.lexB _ _ = true)); kernel_rfl) | ((try rw [inK_i64]); omega)
      all_goals (rw [adderC, if_neg h])
end Go.Proofs
