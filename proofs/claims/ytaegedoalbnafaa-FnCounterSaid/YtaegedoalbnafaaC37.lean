/- Contracts: cycles of a circuit and reachable states of counters. Conditions: none; lemmas. -/
import Derived.Test.YtaegedoalbnafaaC36
import Derived.Test.YtaegedoalbnafaaC23
set_option maxRecDepth 20000
set_option linter.unusedVariables false
set_option linter.unusedSimpArgs false
namespace Go.Proofs
open Go Go.VL

theorem Try.c_bitsOf (x n : Int) (hx : 0 ≤ x) (hn : 0 ≤ n ∧ n ≤ 60) : Pure Try.prog 125 [dI x, dI n] (dBs (bitsOf x n.toNat)) := by
  refine pure_of' (E := Try.env 0) Try.tok rfl 1000 Try.func125 rfl rfl Try.ntmps125 (by simp) fun ok => ?_
  simp only [go_sem, Nat.reduceBEq, Nat.reduceLT, Nat.reduceLeDiff, Nat.reduceEqDiff, Nat.reduceAdd, Nat.reduceSub, Nat.reduceMul, ↓reduceIte, Int.reduceLE, Int.reduceLT, Int.reduceNeg, Int.reduceToNat, Int.reduceAdd, Int.reduceSub, Int.reduceMul, reduceCtorEq] at ok
  simp only [go_sem, Nat.reduceBEq, Nat.reduceLT, Nat.reduceLeDiff, Nat.reduceEqDiff, Nat.reduceAdd, Nat.reduceSub, Nat.reduceMul, ↓reduceIte, Int.reduceLE, Int.reduceLT, Int.reduceNeg, Int.reduceToNat, Int.reduceAdd, Int.reduceSub, Int.reduceMul, reduceCtorEq, Try.results125]
  repeat' first | assumption | (simp (disch := first | assumption | omega | (simp; done) | (simp; omega)) only [getD_bss, getD_iss, List.take_of_length_le, remV_pos]; try simp only [go_sem, Nat.reduceBEq, Nat.reduceLT, Nat.reduceLeDiff, Nat.reduceEqDiff, Nat.reduceAdd, Nat.reduceSub, Nat.reduceMul, ↓reduceIte, Int.reduceLE, Int.reduceLT, Int.reduceNeg, Int.reduceToNat, Int.reduceAdd, Int.reduceSub, Int.reduceMul, reduceCtorEq, Try.results125]) | (with_reducible refine And.intro ?_ ?_) | (with_reducible intro _) | (refine @Exists.intro I _ (I.d D.nil) ?_; simp only [go_sem, Nat.reduceBEq, Nat.reduceLT, Nat.reduceLeDiff, Nat.reduceEqDiff, Nat.reduceAdd, Nat.reduceSub, Nat.reduceMul, ↓reduceIte, Int.reduceLE, Int.reduceLT, Int.reduceNeg, Int.reduceToNat, Int.reduceAdd, Int.reduceSub, Int.reduceMul, reduceCtorEq, Try.results125]) | ((with_reducible (show Region.lexB _ _ = true)); kernel_rfl) | ((try rw [inK_i64]); omega)
  refine loop_of (E := Try.env 0) Try.tok (σ := Nat) (fun i => [(0, .d (dI x)), (5, .sl 0 0 1 0 n.toNat), (9, .sl 0 0 1 0 n.toNat), (10, .d (dI n.toNat)), (11, .d (dI i))]) (fun i => [.row 0 1 true ((bitsOf x i ++ List.replicate (n.toNat - i) false).map D.bool)]) (fun i => i ≤ n.toNat) (fun i => n.toNat - i) [] 1000 1000 ?_ ?_ ?_
  · simp only [go_sem, Nat.reduceBEq, Nat.reduceLT, Nat.reduceLeDiff, Nat.reduceEqDiff, Nat.reduceAdd, Nat.reduceSub, Nat.reduceMul, ↓reduceIte, Int.reduceLE, Int.reduceLT, Int.reduceNeg, Int.reduceToNat, Int.reduceAdd, Int.reduceSub, Int.reduceMul, reduceCtorEq]
  · simp only [go_sem, Nat.reduceBEq, Nat.reduceLT, Nat.reduceLeDiff, Nat.reduceEqDiff, Nat.reduceAdd, Nat.reduceSub, Nat.reduceMul, ↓reduceIte, Int.reduceLE, Int.reduceLT, Int.reduceNeg, Int.reduceToNat, Int.reduceAdd, Int.reduceSub, Int.reduceMul, reduceCtorEq]
    exact ⟨0, by omega, rfl, by simp [bitsOf]⟩
  · intro i hi
    have hbl : (bitsOf x i).length = i := by simp [bitsOf]
    have hq : 0 ≤ x / 2 ^ i := Int.ediv_nonneg hx (Int.le_of_lt (Int.pow_pos (by omega)))
    have hlen : (bitsOf x i ++ List.replicate (n.toNat - i) false).length = n.toNat := by simp [bitsOf]; omega
    have hbs : bitsOf x (i + 1) = bitsOf x i ++ [decide (x / 2 ^ i % 2 = 1)] := by rw [bitsOf, List.range_succ, List.map_append]; rfl
    by_cases hlt : i < n.toNat
    · simp only [go_sem, Nat.reduceBEq, Nat.reduceLT, Nat.reduceLeDiff, Nat.reduceEqDiff, Nat.reduceAdd, Nat.reduceSub, Nat.reduceMul, ↓reduceIte, Int.reduceLE, Int.reduceLT, Int.reduceNeg, Int.reduceToNat, Int.reduceAdd, Int.reduceSub, Int.reduceMul, reduceCtorEq, Try.results125]
      repeat' first | assumption | (simp (disch := first | assumption | omega | (simp; done) | (simp; omega)) only [getD_bss, getD_iss, List.take_of_length_le, remV_pos]; try simp only [go_sem, Nat.reduceBEq, Nat.reduceLT, Nat.reduceLeDiff, Nat.reduceEqDiff, Nat.reduceAdd, Nat.reduceSub, Nat.reduceMul, ↓reduceIte, Int.reduceLE, Int.reduceLT, Int.reduceNeg, Int.reduceToNat, Int.reduceAdd, Int.reduceSub, Int.reduceMul, reduceCtorEq, Try.results125]) | (with_reducible refine And.intro ?_ ?_) | (with_reducible intro _) | (refine @Exists.intro I _ (I.d D.nil) ?_; simp only [go_sem, Nat.reduceBEq, Nat.reduceLT, Nat.reduceLeDiff, Nat.reduceEqDiff, Nat.reduceAdd, Nat.reduceSub, Nat.reduceMul, ↓reduceIte, Int.reduceLE, Int.reduceLT, Int.reduceNeg, Int.reduceToNat, Int.reduceAdd, Int.reduceSub, Int.reduceMul, reduceCtorEq, Try.results125]) | ((with_reducible (show Region.lexB _ _ = true)); kernel_rfl) | ((try rw [inK_i64]); omega)
      refine ⟨i + 1, by omega, by omega, rfl, ?_⟩
      rw [set_app_replicate hbl (by omega), Nat.sub_sub, hbs, show decide (((x / 2 ^ i).toNat &&& 1 : Nat) = (1 : Int)) = decide (x / 2 ^ i % 2 = 1) from by simp only [land1 hq]]
    · obtain rfl : i = n.toNat := by omega
      simp only [go_sem, Nat.reduceBEq, Nat.reduceLT, Nat.reduceLeDiff, Nat.reduceEqDiff, Nat.reduceAdd, Nat.reduceSub, Nat.reduceMul, ↓reduceIte, Int.reduceLE, Int.reduceLT, Int.reduceNeg, Int.reduceToNat, Int.reduceAdd, Int.reduceSub, Int.reduceMul, reduceCtorEq, Try.results125]
      repeat' first | assumption | (simp (disch := first | assumption | omega | (simp; done) | (simp; omega)) only [getD_bss, getD_iss, List.take_of_length_le, remV_pos]; try simp only [go_sem, Nat.reduceBEq, Nat.reduceLT, Nat.reduceLeDiff, Nat.reduceEqDiff, Nat.reduceAdd, Nat.reduceSub, Nat.reduceMul, ↓reduceIte, Int.reduceLE, Int.reduceLT, Int.reduceNeg, Int.reduceToNat, Int.reduceAdd, Int.reduceSub, Int.reduceMul, reduceCtorEq, Try.results125]) | (with_reducible refine And.intro ?_ ?_) | (with_reducible intro _) | (refine @Exists.intro I _ (I.d D.nil) ?_; simp only [go_sem, Nat.reduceBEq, Nat.reduceLT, Nat.reduceLeDiff, Nat.reduceEqDiff, Nat.reduceAdd, Nat.reduceSub, Nat.reduceMul, ↓reduceIte, Int.reduceLE, Int.reduceLT, Int.reduceNeg, Int.reduceToNat, Int.reduceAdd, Int.reduceSub, Int.reduceMul, reduceCtorEq, Try.results125]) | ((with_reducible (show Region.lexB _ _ = true)); kernel_rfl) | ((try rw [inK_i64]); omega)
      simp
theorem or_pow {m i : Nat} (h : m < 2 ^ i) : m ||| 2 ^ i = m + 2 ^ i := by
  have := Nat.two_pow_add_eq_or_of_lt h 1
  rw [Nat.mul_one] at this
  rw [Nat.or_comm, ← this, Nat.add_comm]
theorem Try.c_inumber (l : List Bool) (h : l.length ≤ 40) : Pure Try.prog 126 [dBs l] (dI (numN l l.length)) := by
  refine pure_of' (E := Try.env 0) Try.tok rfl 1000 Try.func126 rfl rfl Try.ntmps126 (by simp) fun ok => ?_
  simp only [go_sem, Nat.reduceBEq, Nat.reduceLT, Nat.reduceLeDiff, Nat.reduceEqDiff, Nat.reduceAdd, Nat.reduceSub, Nat.reduceMul, ↓reduceIte, Int.reduceLE, Int.reduceLT, Int.reduceNeg, Int.reduceToNat, Int.reduceAdd, Int.reduceSub, Int.reduceMul, reduceCtorEq] at ok
  simp only [go_sem, Nat.reduceBEq, Nat.reduceLT, Nat.reduceLeDiff, Nat.reduceEqDiff, Nat.reduceAdd, Nat.reduceSub, Nat.reduceMul, ↓reduceIte, Int.reduceLE, Int.reduceLT, Int.reduceNeg, Int.reduceToNat, Int.reduceAdd, Int.reduceSub, Int.reduceMul, reduceCtorEq, Try.results126]
  refine loop_of (E := Try.env 0) Try.tok (σ := Nat) (fun i => [(0, .d (dBs l)), (3, .d (dI (numN l i))), (6, .d (dBs l)), (7, .d (dI l.length)), (8, .d (dI i))]) (fun _ => []) (fun i => i ≤ l.length) (fun i => l.length - i) [] 1000 1000 ?_ ?_ ?_
  · simp only [go_sem, Nat.reduceBEq, Nat.reduceLT, Nat.reduceLeDiff, Nat.reduceEqDiff, Nat.reduceAdd, Nat.reduceSub, Nat.reduceMul, ↓reduceIte, Int.reduceLE, Int.reduceLT, Int.reduceNeg, Int.reduceToNat, Int.reduceAdd, Int.reduceSub, Int.reduceMul, reduceCtorEq]
  · simp only [go_sem, Nat.reduceBEq, Nat.reduceLT, Nat.reduceLeDiff, Nat.reduceEqDiff, Nat.reduceAdd, Nat.reduceSub, Nat.reduceMul, ↓reduceIte, Int.reduceLE, Int.reduceLT, Int.reduceNeg, Int.reduceToNat, Int.reduceAdd, Int.reduceSub, Int.reduceMul, reduceCtorEq]
    exact ⟨0, by omega, rfl, rfl⟩
  · intro i hi
    have hb := numN_bd l i
    have hpp : (2 : Int) ^ i ≤ 2 ^ 40 := by
      have := Nat.pow_le_pow_right (n := 2) (by omega) (show i ≤ 40 by omega)
      have e : ((2 ^ i : Nat) : Int) = (2 : Int) ^ i := by simp
      omega
    have hp0 : (0 : Int) < 2 ^ i := Int.pow_pos (by omega)
    have e2 : (2 : Int) ^ i = ((2 ^ i : Nat) : Int) := by simp
    have hor : (((numN l i).toNat ||| ((2 : Int) ^ i).toNat : Nat) : Int) = numN l i + 2 ^ i := by
      rw [e2, Int.toNat_natCast, or_pow (by omega)]; omega
    by_cases hlt : i < l.length
    · have hs : numN l (i + 1) = numN l i + if l.getD i false then 2 ^ i else 0 := rfl
      simp only [go_sem, Nat.reduceBEq, Nat.reduceLT, Nat.reduceLeDiff, Nat.reduceEqDiff, Nat.reduceAdd, Nat.reduceSub, Nat.reduceMul, ↓reduceIte, Int.reduceLE, Int.reduceLT, Int.reduceNeg, Int.reduceToNat, Int.reduceAdd, Int.reduceSub, Int.reduceMul, reduceCtorEq, Try.results126, hor]
      repeat' first | assumption | (simp (disch := first | assumption | omega | (simp; done) | (simp; omega)) only [getD_bss, getD_iss, List.take_of_length_le, remV_pos]; try simp only [go_sem, Nat.reduceBEq, Nat.reduceLT, Nat.reduceLeDiff, Nat.reduceEqDiff, Nat.reduceAdd, Nat.reduceSub, Nat.reduceMul, ↓reduceIte, Int.reduceLE, Int.reduceLT, Int.reduceNeg, Int.reduceToNat, Int.reduceAdd, Int.reduceSub, Int.reduceMul, reduceCtorEq, Try.results126, hor]) | (with_reducible refine And.intro ?_ ?_) | (with_reducible intro _) | (refine @Exists.intro I _ (I.d D.nil) ?_; simp only [go_sem, Nat.reduceBEq, Nat.reduceLT, Nat.reduceLeDiff, Nat.reduceEqDiff, Nat.reduceAdd, Nat.reduceSub, Nat.reduceMul, ↓reduceIte, Int.reduceLE, Int.reduceLT, Int.reduceNeg, Int.reduceToNat, Int.reduceAdd, Int.reduceSub, Int.reduceMul, reduceCtorEq, Try.results126, hor]) | ((with_reducible (show Region.lexB _ _ = true)); kernel_rfl) | ((try rw [inK_i64]); omega)
      · rename_i h1
        exact ⟨i + 1, by omega, by omega, by rw [hs, if_pos h1], rfl⟩
      · rename_i h1
        exact ⟨i + 1, by omega, by omega, by rw [hs, h1]; simp, rfl⟩
    · obtain rfl : i = l.length := by omega
      simp only [go_sem, Nat.reduceBEq, Nat.reduceLT, Nat.reduceLeDiff, Nat.reduceEqDiff, Nat.reduceAdd, Nat.reduceSub, Nat.reduceMul, ↓reduceIte, Int.reduceLE, Int.reduceLT, Int.reduceNeg, Int.reduceToNat, Int.reduceAdd, Int.reduceSub, Int.reduceMul, reduceCtorEq, Try.results126]
      repeat' first | assumption | (simp (disch := first | assumption | omega | (simp; done) | (simp; omega)) only [getD_bss, getD_iss, List.take_of_length_le, remV_pos]; try simp only [go_sem, Nat.reduceBEq, Nat.reduceLT, Nat.reduceLeDiff, Nat.reduceEqDiff, Nat.reduceAdd, Nat.reduceSub, Nat.reduceMul, ↓reduceIte, Int.reduceLE, Int.reduceLT, Int.reduceNeg, Int.reduceToNat, Int.reduceAdd, Int.reduceSub, Int.reduceMul, reduceCtorEq, Try.results126]) | (with_reducible refine And.intro ?_ ?_) | (with_reducible intro _) | (refine @Exists.intro I _ (I.d D.nil) ?_; simp only [go_sem, Nat.reduceBEq, Nat.reduceLT, Nat.reduceLeDiff, Nat.reduceEqDiff, Nat.reduceAdd, Nat.reduceSub, Nat.reduceMul, ↓reduceIte, Int.reduceLE, Int.reduceLT, Int.reduceNeg, Int.reduceToNat, Int.reduceAdd, Int.reduceSub, Int.reduceMul, reduceCtorEq, Try.results126]) | ((with_reducible (show Region.lexB _ _ = true)); kernel_rfl) | ((try rw [inK_i64]); omega)
theorem Try.c_cycle (c : Circ) (hv : c.Valid) (s x : Int) (hs : 0 ≤ s) (hx : 0 ≤ x) : Pure Try.prog 85 [pC c, dI s, dI x]
    (.tup [dI (numN (litVs (values c (bitsOf s c.next.length) (bitsOf x c.inputs.toNat)) c.next) c.next.length), dI (numN (litVs (values c (bitsOf s c.next.length) (bitsOf x c.inputs.toNat)) c.outs) c.outs.length)]) := by
  refine pure_of' (E := Try.env 0) Try.tok rfl 1000 Try.func85 rfl rfl Try.ntmps85 (by simp) fun ok => ?_
  simp only [go_sem, Nat.reduceBEq, Nat.reduceLT, Nat.reduceLeDiff, Nat.reduceEqDiff, Nat.reduceAdd, Nat.reduceSub, Nat.reduceMul, ↓reduceIte, Int.reduceLE, Int.reduceLT, Int.reduceNeg, Int.reduceToNat, Int.reduceAdd, Int.reduceSub, Int.reduceMul, reduceCtorEq] at ok
  simp only [go_sem, Nat.reduceBEq, Nat.reduceLT, Nat.reduceLeDiff, Nat.reduceEqDiff, Nat.reduceAdd, Nat.reduceSub, Nat.reduceMul, ↓reduceIte, Int.reduceLE, Int.reduceLT, Int.reduceNeg, Int.reduceToNat, Int.reduceAdd, Int.reduceSub, Int.reduceMul, reduceCtorEq, Try.results85]
  have hi0 := hv.i0; have hi1 := hv.i1; have hln := hv.ln; have hlo := hv.lo
  have q1 := Try.c_bitsOf s c.next.length hs (by omega)
  have q2 := Try.c_bitsOf x c.inputs hx (by omega)
  rw [Int.toNat_natCast] at q1
  have hl1 : (bitsOf s c.next.length).length = c.next.length := by simp [bitsOf]
  have hl2 : (bitsOf x c.inputs.toNat).length = c.inputs.toNat := by simp [bitsOf]
  have q3 := Try.c_evaluate c hv (bitsOf s c.next.length) (bitsOf x c.inputs.toNat) hl1 (by omega) false
  have hvl : (values c (bitsOf s c.next.length) (bitsOf x c.inputs.toNat)).length = c.vars.toNat := by
    rw [values, evalN_len, hl1, hl2]; unfold Circ.vars Circ.first; omega
  have hvb := hv.vars_bd
  have hfb := hv.first_bd
  generalize values c (bitsOf s c.next.length) (bitsOf x c.inputs.toNat) = vs at *
  have q4 := Try.c_litValues vs c.next (fun l hl => by have := hv.n l hl; unfold litOk at this; omega) (by omega)
  have q5 := Try.c_litValues vs c.outs (fun l hl => by have := hv.o l hl; unfold litOk at this; omega) (by omega)
  have q6 := Try.c_inumber (litVs vs c.next) (by rw [litVs_len]; omega)
  have q7 := Try.c_inumber (litVs vs c.outs) (by rw [litVs_len]; omega)
  rw [litVs_len] at q6 q7
  refine drawn_of (E := Try.env 0) Try.tok Try.follows 1000 1000 [] (.fst 0 (.fst 1 (.fst 2 (.fst 3 (.fst 4 (.fst 8 (.fst 9 (.fst 10 (.fst 11 (.fst 5 (.fst 6 (.fst 12 (.one 7 (.one 13 (.one 14 (.fst 15 (.done))))))))))))))))) (by kernel_rfl) ?_
  simp only [go_sem, Nat.reduceBEq, Nat.reduceLT, Nat.reduceLeDiff, Nat.reduceEqDiff, Nat.reduceAdd, Nat.reduceSub, Nat.reduceMul, ↓reduceIte, Int.reduceLE, Int.reduceLT, Int.reduceNeg, Int.reduceToNat, Int.reduceAdd, Int.reduceSub, Int.reduceMul, reduceCtorEq, Try.results85]
  repeat' first | assumption | (simp (disch := first | assumption | omega | (simp; done) | (simp; omega)) only [getD_bss, getD_iss, List.take_of_length_le, remV_pos]; try simp only [go_sem, Nat.reduceBEq, Nat.reduceLT, Nat.reduceLeDiff, Nat.reduceEqDiff, Nat.reduceAdd, Nat.reduceSub, Nat.reduceMul, ↓reduceIte, Int.reduceLE, Int.reduceLT, Int.reduceNeg, Int.reduceToNat, Int.reduceAdd, Int.reduceSub, Int.reduceMul, reduceCtorEq, Try.results85]) | (with_reducible refine And.intro ?_ ?_) | (with_reducible intro _) | (refine pcall_fz q1 ?_; simp only [go_sem, Nat.reduceBEq, Nat.reduceLT, Nat.reduceLeDiff, Nat.reduceEqDiff, Nat.reduceAdd, Nat.reduceSub, Nat.reduceMul, ↓reduceIte, Int.reduceLE, Int.reduceLT, Int.reduceNeg, Int.reduceToNat, Int.reduceAdd, Int.reduceSub, Int.reduceMul, reduceCtorEq, Try.results85]) | (refine pcall_fz q2 ?_; simp only [go_sem, Nat.reduceBEq, Nat.reduceLT, Nat.reduceLeDiff, Nat.reduceEqDiff, Nat.reduceAdd, Nat.reduceSub, Nat.reduceMul, ↓reduceIte, Int.reduceLE, Int.reduceLT, Int.reduceNeg, Int.reduceToNat, Int.reduceAdd, Int.reduceSub, Int.reduceMul, reduceCtorEq, Try.results85]) | (refine pcall_fz q3 ?_; simp only [go_sem, Nat.reduceBEq, Nat.reduceLT, Nat.reduceLeDiff, Nat.reduceEqDiff, Nat.reduceAdd, Nat.reduceSub, Nat.reduceMul, ↓reduceIte, Int.reduceLE, Int.reduceLT, Int.reduceNeg, Int.reduceToNat, Int.reduceAdd, Int.reduceSub, Int.reduceMul, reduceCtorEq, Try.results85]) | (refine @Exists.intro I _ (I.d D.nil) ?_; simp only [go_sem, Nat.reduceBEq, Nat.reduceLT, Nat.reduceLeDiff, Nat.reduceEqDiff, Nat.reduceAdd, Nat.reduceSub, Nat.reduceMul, ↓reduceIte, Int.reduceLE, Int.reduceLT, Int.reduceNeg, Int.reduceToNat, Int.reduceAdd, Int.reduceSub, Int.reduceMul, reduceCtorEq, Try.results85]) | ((with_reducible (show Region.lexB _ _ = true)); kernel_rfl) | ((try rw [inK_i64]); omega)
  all_goals
    refine drawn_of (E := Try.env 0) Try.tok Try.follows 1000 1000 [] (.fst 0 (.fst 1 (.fst 2 (.fst 3 (.fst 7 (.fst 8 (.fst 9 (.fst 10 (.fst 4 (.fst 11 (.one 5 (.one 6 (.one 12 (.one 13 (.fst 14 (.fst 15 (.done))))))))))))))))) (by kernel_rfl) ?_
    simp only [go_sem, Nat.reduceBEq, Nat.reduceLT, Nat.reduceLeDiff, Nat.reduceEqDiff, Nat.reduceAdd, Nat.reduceSub, Nat.reduceMul, ↓reduceIte, Int.reduceLE, Int.reduceLT, Int.reduceNeg, Int.reduceToNat, Int.reduceAdd, Int.reduceSub, Int.reduceMul, reduceCtorEq, Try.results85]
    repeat' first | assumption | (simp (disch := first | assumption | omega | (simp; done) | (simp; omega)) only [getD_bss, getD_iss, List.take_of_length_le, remV_pos]; try simp only [go_sem, Nat.reduceBEq, Nat.reduceLT, Nat.reduceLeDiff, Nat.reduceEqDiff, Nat.reduceAdd, Nat.reduceSub, Nat.reduceMul, ↓reduceIte, Int.reduceLE, Int.reduceLT, Int.reduceNeg, Int.reduceToNat, Int.reduceAdd, Int.reduceSub, Int.reduceMul, reduceCtorEq, Try.results85]) | (with_reducible refine And.intro ?_ ?_) | (with_reducible intro _) | (refine pcall_fz q4 ?_; simp only [go_sem, Nat.reduceBEq, Nat.reduceLT, Nat.reduceLeDiff, Nat.reduceEqDiff, Nat.reduceAdd, Nat.reduceSub, Nat.reduceMul, ↓reduceIte, Int.reduceLE, Int.reduceLT, Int.reduceNeg, Int.reduceToNat, Int.reduceAdd, Int.reduceSub, Int.reduceMul, reduceCtorEq, Try.results85]) | (refine pcall_fz q5 ?_; simp only [go_sem, Nat.reduceBEq, Nat.reduceLT, Nat.reduceLeDiff, Nat.reduceEqDiff, Nat.reduceAdd, Nat.reduceSub, Nat.reduceMul, ↓reduceIte, Int.reduceLE, Int.reduceLT, Int.reduceNeg, Int.reduceToNat, Int.reduceAdd, Int.reduceSub, Int.reduceMul, reduceCtorEq, Try.results85]) | (refine pcall_fz q6 ?_; simp only [go_sem, Nat.reduceBEq, Nat.reduceLT, Nat.reduceLeDiff, Nat.reduceEqDiff, Nat.reduceAdd, Nat.reduceSub, Nat.reduceMul, ↓reduceIte, Int.reduceLE, Int.reduceLT, Int.reduceNeg, Int.reduceToNat, Int.reduceAdd, Int.reduceSub, Int.reduceMul, reduceCtorEq, Try.results85]) | (refine pcall_fz q7 ?_; simp only [go_sem, Nat.reduceBEq, Nat.reduceLT, Nat.reduceLeDiff, Nat.reduceEqDiff, Nat.reduceAdd, Nat.reduceSub, Nat.reduceMul, ↓reduceIte, Int.reduceLE, Int.reduceLT, Int.reduceNeg, Int.reduceToNat, Int.reduceAdd, Int.reduceSub, Int.reduceMul, reduceCtorEq, Try.results85]) | (refine @Exists.intro I _ (I.d D.nil) ?_; simp only [go_sem, Nat.reduceBEq, Nat.reduceLT, Nat.reduceLeDiff, Nat.reduceEqDiff, Nat.reduceAdd, Nat.reduceSub, Nat.reduceMul, ↓reduceIte, Int.reduceLE, Int.reduceLT, Int.reduceNeg, Int.reduceToNat, Int.reduceAdd, Int.reduceSub, Int.reduceMul, reduceCtorEq, Try.results85]) | ((with_reducible (show Region.lexB _ _ = true)); kernel_rfl) | ((try rw [inK_i64]); omega)
def mpN (m : Nat) : List (D × D) := (List.range m).map fun (j : Nat) => (dI j, D.bool true)
theorem findD_app (k : D) : ∀ (a b : List (D × D)), findD (a ++ b) k = (findD a k).or (findD b k)
  | [], b => by simp [findD]
  | x :: r, b => by
    simp only [List.cons_append, findD]
    split
    · rfl
    · exact findD_app k r b
theorem mpN_succ (m : Nat) : mpN (m + 1) = mpN m ++ [(dI m, .bool true)] := by rw [mpN, List.range_succ, List.map_append]; rfl
theorem mpN_look : ∀ (m : Nat) (x : Int), findD (mpN m) (dI x) = if 0 ≤ x ∧ x < m then some (D.bool true) else none
  | 0, x => by rw [if_neg (by omega)]; rfl
  | m + 1, x => by
    rw [mpN_succ, findD_app, mpN_look m x]
    by_cases h : x = m
    · subst h; rw [if_neg (by omega), if_pos (by omega)]; simp [findD, keyEq]
    · by_cases h2 : 0 ≤ x ∧ x < m
      · rw [if_pos h2, if_pos (by omega)]; rfl
      · rw [if_neg h2, if_neg (by omega)]; simp [findD, keyEq, h]
theorem mpN_upd (m : Nat) : updD (mpN m) (dI m) (.bool true) = mpN (m + 1) := by
  rw [updD_new (by rw [mpN_look, if_neg (by omega)]), mpN_succ]
theorem mpN_keys (m : Nat) : keysAre (.int .i64) (mpN m) := by
  rw [keysAre_iff]
  intro e he
  obtain ⟨j, _, rfl⟩ := List.mem_map.1 he
  simp [keyIs, D.isInt]
def rng (m : Nat) : List Int := (List.range m).map fun (j : Nat) => (j : Int)
theorem rng_len (m : Nat) : (rng m).length = m := by simp [rng]
theorem rng_succ (m : Nat) : rng (m + 1) = rng m ++ [(m : Int)] := by rw [rng, List.range_succ, List.map_append]; rfl
theorem rng_get {m i : Nat} (h : i < m) : (rng m).getD i 0 = i := range_map_get h
set_option maxHeartbeats 1000000 in
theorem Try.c_Reachable (c : Circ) (hv : c.Valid) (n N : Nat) (hn : c.next.length = n) (hN : N = 2 ^ n) (hi : c.inputs = 1)
    (hc : ∀ s x : Nat, s < N → x < 2 → numN (litVs (values c (bitsOf s c.next.length) (bitsOf x c.inputs.toNat)) c.next) c.next.length = ((s + x) % N : Nat)) :
    Pure Try.prog 28 [dC c] (dIs (rng N)) := by
  have hcy : ∀ s x : Nat, s < N → x < 2 → ∃ o, Pure Try.prog 85 [pC c, dI s, dI x] (.tup [dI ((s + x) % N : Nat), dI o]) := fun s x h1 h2 => ⟨_, by
    have := Try.c_cycle c hv s x (by omega) (by omega)
    rw [hc s x h1 h2] at this
    exact this⟩
  obtain ⟨inp, nx, gs, os⟩ := c
  simp only at hi hn
  subst hi
  have hln := hv.ln
  simp only at hln
  have hNb : 1 ≤ N ∧ N ≤ 8 := by
    subst hN
    have := Nat.pow_le_pow_right (n := 2) (by omega) (show n ≤ 3 by omega)
    exact ⟨Nat.one_le_two_pow, by omega⟩
  clear hc
  refine pure_of' (E := Try.env 0) Try.tok rfl 1000 Try.func28 rfl rfl Try.ntmps28 (by simp) fun ok => ?_
  simp only [go_sem, Nat.reduceBEq, Nat.reduceLT, Nat.reduceLeDiff, Nat.reduceEqDiff, Nat.reduceAdd, Nat.reduceSub, Nat.reduceMul, ↓reduceIte, Int.reduceLE, Int.reduceLT, Int.reduceNeg, Int.reduceToNat, Int.reduceAdd, Int.reduceSub, Int.reduceMul, reduceCtorEq] at ok
  simp only [go_sem, Nat.reduceBEq, Nat.reduceLT, Nat.reduceLeDiff, Nat.reduceEqDiff, Nat.reduceAdd, Nat.reduceSub, Nat.reduceMul, ↓reduceIte, Int.reduceLE, Int.reduceLT, Int.reduceNeg, Int.reduceToNat, Int.reduceAdd, Int.reduceSub, Int.reduceMul, reduceCtorEq, Try.results28]
  refine pcall_fz (Try.c_CircuitValid ⟨1, nx, gs, os⟩) ?_
  rw [decide_eq_true hv]
  simp only [go_sem, Nat.reduceBEq, Nat.reduceLT, Nat.reduceLeDiff, Nat.reduceEqDiff, Nat.reduceAdd, Nat.reduceSub, Nat.reduceMul, ↓reduceIte, Int.reduceLE, Int.reduceLT, Int.reduceNeg, Int.reduceToNat, Int.reduceAdd, Int.reduceSub, Int.reduceMul, reduceCtorEq, Try.results28]
  repeat' first | assumption | (simp (disch := first | assumption | omega | (simp; done) | (simp; omega)) only [getD_bss, getD_iss, List.take_of_length_le, remV_pos]; try simp only [go_sem, Nat.reduceBEq, Nat.reduceLT, Nat.reduceLeDiff, Nat.reduceEqDiff, Nat.reduceAdd, Nat.reduceSub, Nat.reduceMul, ↓reduceIte, Int.reduceLE, Int.reduceLT, Int.reduceNeg, Int.reduceToNat, Int.reduceAdd, Int.reduceSub, Int.reduceMul, reduceCtorEq, Try.results28]) | (with_reducible refine And.intro ?_ ?_) | (with_reducible intro _) | (refine @Exists.intro I _ (I.d D.nil) ?_; simp only [go_sem, Nat.reduceBEq, Nat.reduceLT, Nat.reduceLeDiff, Nat.reduceEqDiff, Nat.reduceAdd, Nat.reduceSub, Nat.reduceMul, ↓reduceIte, Int.reduceLE, Int.reduceLT, Int.reduceNeg, Int.reduceToNat, Int.reduceAdd, Int.reduceSub, Int.reduceMul, reduceCtorEq, Try.results28]) | ((with_reducible (show Region.lexB _ _ = true)); kernel_rfl) | ((try rw [inK_i64]); omega)
  refine loop_of (E := Try.env 0) Try.tok (σ := Nat) (fun i => [(1, .ptr 0 0), (3, .sl 1 (min (i + 1) N - 1) 1 0 (min (i + 1) N)), (4, .map 2), (5, .d (dI i))])
    (fun i => [.box [.d (dI 1), .d (dIs nx), .d (dPs gs), .d (dIs os)], .row (min (i + 1) N - 1) 1 true ((rng (min (i + 1) N)).map (D.int .i64)), .map (mpN (min (i + 1) N))]) (fun i => i ≤ N) (fun i => N - i) [] 1000 1000 ?_ ?_ ?_
  · simp only [go_sem, Nat.reduceBEq, Nat.reduceLT, Nat.reduceLeDiff, Nat.reduceEqDiff, Nat.reduceAdd, Nat.reduceSub, Nat.reduceMul, ↓reduceIte, Int.reduceLE, Int.reduceLT, Int.reduceNeg, Int.reduceToNat, Int.reduceAdd, Int.reduceSub, Int.reduceMul, reduceCtorEq]
  · simp only [go_sem, Nat.reduceBEq, Nat.reduceLT, Nat.reduceLeDiff, Nat.reduceEqDiff, Nat.reduceAdd, Nat.reduceSub, Nat.reduceMul, ↓reduceIte, Int.reduceLE, Int.reduceLT, Int.reduceNeg, Int.reduceToNat, Int.reduceAdd, Int.reduceSub, Int.reduceMul, reduceCtorEq]
    refine ⟨0, by omega, ?_⟩
    rw [show min (0 + 1) N = 1 by omega]
    exact ⟨⟨⟨rfl, rfl⟩, rfl⟩, ⟨rfl, rfl⟩, rfl⟩
  · intro i hi
    have hrl := rng_len (min (i + 1) N)
    by_cases hlt : i < N
    · have e1 : min (i + 1) N = i + 1 := by omega
      rw [e1] at hrl
      simp only [go_sem, Nat.reduceBEq, Nat.reduceLT, Nat.reduceLeDiff, Nat.reduceEqDiff, Nat.reduceAdd, Nat.reduceSub, Nat.reduceMul, ↓reduceIte, Int.reduceLE, Int.reduceLT, Int.reduceNeg, Int.reduceToNat, Int.reduceAdd, Int.reduceSub, Int.reduceMul, reduceCtorEq, Try.results28, e1]
      repeat' first | assumption | (simp (disch := first | assumption | omega | (simp; done) | (simp; omega)) only [getD_bss, getD_iss, List.take_of_length_le, remV_pos]; try simp only [go_sem, Nat.reduceBEq, Nat.reduceLT, Nat.reduceLeDiff, Nat.reduceEqDiff, Nat.reduceAdd, Nat.reduceSub, Nat.reduceMul, ↓reduceIte, Int.reduceLE, Int.reduceLT, Int.reduceNeg, Int.reduceToNat, Int.reduceAdd, Int.reduceSub, Int.reduceMul, reduceCtorEq, Try.results28, e1]) | (with_reducible refine And.intro ?_ ?_) | (with_reducible intro _) | (refine @Exists.intro I _ (I.d D.nil) ?_; simp only [go_sem, Nat.reduceBEq, Nat.reduceLT, Nat.reduceLeDiff, Nat.reduceEqDiff, Nat.reduceAdd, Nat.reduceSub, Nat.reduceMul, ↓reduceIte, Int.reduceLE, Int.reduceLT, Int.reduceNeg, Int.reduceToNat, Int.reduceAdd, Int.reduceSub, Int.reduceMul, reduceCtorEq, Try.results28, e1]) | ((with_reducible (show Region.lexB _ _ = true)); kernel_rfl) | ((try rw [inK_i64]); omega)
      refine loop_of (E := Try.env 0) Try.tok (σ := Nat) (fun j => [(1, .ptr 0 0), (3, .sl 1 (min (i + 1 + j / 2) N - 1) 1 0 (min (i + 1 + j / 2) N)), (4, .map 2), (5, .d (dI i)), (23, .d (dI 2)), (24, .d (dI j))])
        (fun j => [.box [.d (dI 1), .d (dIs nx), .d (dPs gs), .d (dIs os)], .row (min (i + 1 + j / 2) N - 1) 1 true ((rng (min (i + 1 + j / 2) N)).map (D.int .i64)), .map (mpN (min (i + 1 + j / 2) N))]) (fun j => j ≤ 2) (fun j => 2 - j) [] 1000 1000 ?_ ?_ ?_
      · simp only [go_sem, Nat.reduceBEq, Nat.reduceLT, Nat.reduceLeDiff, Nat.reduceEqDiff, Nat.reduceAdd, Nat.reduceSub, Nat.reduceMul, ↓reduceIte, Int.reduceLE, Int.reduceLT, Int.reduceNeg, Int.reduceToNat, Int.reduceAdd, Int.reduceSub, Int.reduceMul, reduceCtorEq]
      · simp only [go_sem, Nat.reduceBEq, Nat.reduceLT, Nat.reduceLeDiff, Nat.reduceEqDiff, Nat.reduceAdd, Nat.reduceSub, Nat.reduceMul, ↓reduceIte, Int.reduceLE, Int.reduceLT, Int.reduceNeg, Int.reduceToNat, Int.reduceAdd, Int.reduceSub, Int.reduceMul, reduceCtorEq]
        exact ⟨0, by omega, ⟨⟨by simp; omega, by simp; omega⟩, by omega, rfl⟩, ⟨by simp; omega, by simp [e1]⟩, by simp [e1]⟩
      · intro j hj
        obtain rfl | rfl | rfl : j = 0 ∨ j = 1 ∨ j = 2 := by omega
        · have e2 : min (i + 1 + 0 / 2) N = i + 1 := by omega
          have e3 : min (i + 1 + 1 / 2) N = i + 1 := by omega
          obtain ⟨o, hq⟩ := hcy i 0 hlt (by omega)
          have hg : (rng (i + 1)).getD i 0 = i := rng_get (by omega)
          have hl := mpN_look (i + 1) (i : Int)
          rw [show (i + 0) % N = i by rw [Nat.add_zero, Nat.mod_eq_of_lt hlt]] at hq
          rw [if_pos (by omega)] at hl
          have hk := mpN_keys (i + 1)
          simp only [go_sem, Nat.reduceBEq, Nat.reduceLT, Nat.reduceLeDiff, Nat.reduceEqDiff, Nat.reduceAdd, Nat.reduceSub, Nat.reduceMul, ↓reduceIte, Int.reduceLE, Int.reduceLT, Int.reduceNeg, Int.reduceToNat, Int.reduceAdd, Int.reduceSub, Int.reduceMul, reduceCtorEq, Try.results28, e2, hg, hl]
          repeat' first | assumption | (simp (disch := first | assumption | omega | (simp; done) | (simp; omega)) only [getD_bss, getD_iss, List.take_of_length_le, remV_pos]; try simp only [go_sem, Nat.reduceBEq, Nat.reduceLT, Nat.reduceLeDiff, Nat.reduceEqDiff, Nat.reduceAdd, Nat.reduceSub, Nat.reduceMul, ↓reduceIte, Int.reduceLE, Int.reduceLT, Int.reduceNeg, Int.reduceToNat, Int.reduceAdd, Int.reduceSub, Int.reduceMul, reduceCtorEq, Try.results28, e2, hg, hl]) | (with_reducible refine And.intro ?_ ?_) | (with_reducible intro _) | (refine pcall_fz hq ?_; simp only [go_sem, Nat.reduceBEq, Nat.reduceLT, Nat.reduceLeDiff, Nat.reduceEqDiff, Nat.reduceAdd, Nat.reduceSub, Nat.reduceMul, ↓reduceIte, Int.reduceLE, Int.reduceLT, Int.reduceNeg, Int.reduceToNat, Int.reduceAdd, Int.reduceSub, Int.reduceMul, reduceCtorEq, Try.results28, e2, hg, hl]) | (refine @Exists.intro I _ (I.d D.nil) ?_; simp only [go_sem, Nat.reduceBEq, Nat.reduceLT, Nat.reduceLeDiff, Nat.reduceEqDiff, Nat.reduceAdd, Nat.reduceSub, Nat.reduceMul, ↓reduceIte, Int.reduceLE, Int.reduceLT, Int.reduceNeg, Int.reduceToNat, Int.reduceAdd, Int.reduceSub, Int.reduceMul, reduceCtorEq, Try.results28, e2, hg, hl]) | ((with_reducible (show Region.lexB _ _ = true)); kernel_rfl) | ((try rw [inK_i64]); omega)
          all_goals first
            | omega
            | exact ⟨1, by omega, by omega, ⟨⟨by omega, by omega⟩, rfl⟩, ⟨by omega, by rw [e3]⟩, by rw [e3]⟩
        · have e2 : min (i + 1 + 1 / 2) N = i + 1 := by omega
          obtain ⟨o, hq⟩ := hcy i 1 hlt (by omega)
          have hg : (rng (i + 1)).getD i 0 = i := rng_get (by omega)
          have hk := mpN_keys (i + 1)
          by_cases hl1 : i + 1 < N
          · have e3 : min (i + 1 + 2 / 2) N = i + 2 := by omega
            have hl := mpN_look (i + 1) ((i + 1 : Nat) : Int)
            rw [Nat.mod_eq_of_lt hl1] at hq
            rw [if_neg (by omega)] at hl
            have hu := mpN_upd (i + 1)
            have hr := rng_succ (i + 1)
            simp only [go_sem, Nat.reduceBEq, Nat.reduceLT, Nat.reduceLeDiff, Nat.reduceEqDiff, Nat.reduceAdd, Nat.reduceSub, Nat.reduceMul, ↓reduceIte, Int.reduceLE, Int.reduceLT, Int.reduceNeg, Int.reduceToNat, Int.reduceAdd, Int.reduceSub, Int.reduceMul, reduceCtorEq, Try.results28, e2, hg, hl, hu]
            repeat' first | assumption | (simp (disch := first | assumption | omega | (simp; done) | (simp; omega)) only [getD_bss, getD_iss, List.take_of_length_le, remV_pos]; try simp only [go_sem, Nat.reduceBEq, Nat.reduceLT, Nat.reduceLeDiff, Nat.reduceEqDiff, Nat.reduceAdd, Nat.reduceSub, Nat.reduceMul, ↓reduceIte, Int.reduceLE, Int.reduceLT, Int.reduceNeg, Int.reduceToNat, Int.reduceAdd, Int.reduceSub, Int.reduceMul, reduceCtorEq, Try.results28, e2, hg, hl, hu]) | (with_reducible refine And.intro ?_ ?_) | (with_reducible intro _) | (refine pcall_fz hq ?_; simp only [go_sem, Nat.reduceBEq, Nat.reduceLT, Nat.reduceLeDiff, Nat.reduceEqDiff, Nat.reduceAdd, Nat.reduceSub, Nat.reduceMul, ↓reduceIte, Int.reduceLE, Int.reduceLT, Int.reduceNeg, Int.reduceToNat, Int.reduceAdd, Int.reduceSub, Int.reduceMul, reduceCtorEq, Try.results28, e2, hg, hl, hu]) | (refine @Exists.intro I _ (I.d D.nil) ?_; simp only [go_sem, Nat.reduceBEq, Nat.reduceLT, Nat.reduceLeDiff, Nat.reduceEqDiff, Nat.reduceAdd, Nat.reduceSub, Nat.reduceMul, ↓reduceIte, Int.reduceLE, Int.reduceLT, Int.reduceNeg, Int.reduceToNat, Int.reduceAdd, Int.reduceSub, Int.reduceMul, reduceCtorEq, Try.results28, e2, hg, hl, hu]) | ((with_reducible (show Region.lexB _ _ = true)); kernel_rfl) | ((try rw [inK_i64]); omega)
            all_goals first
              | omega
              | exact ⟨2, by omega, by omega, ⟨⟨by omega, by omega⟩, rfl⟩, ⟨by omega, by rw [e3, ← hr]⟩, by rw [e3]⟩
          · have e3 : min (i + 1 + 2 / 2) N = i + 1 := by omega
            have hl := mpN_look (i + 1) 0
            rw [show (i + 1) % N = 0 by rw [show i + 1 = N by omega, Nat.mod_self]] at hq
            rw [if_pos (by omega)] at hl
            simp only [go_sem, Nat.reduceBEq, Nat.reduceLT, Nat.reduceLeDiff, Nat.reduceEqDiff, Nat.reduceAdd, Nat.reduceSub, Nat.reduceMul, ↓reduceIte, Int.reduceLE, Int.reduceLT, Int.reduceNeg, Int.reduceToNat, Int.reduceAdd, Int.reduceSub, Int.reduceMul, reduceCtorEq, Try.results28, e2, hg, hl]
            repeat' first | assumption | (simp (disch := first | assumption | omega | (simp; done) | (simp; omega)) only [getD_bss, getD_iss, List.take_of_length_le, remV_pos]; try simp only [go_sem, Nat.reduceBEq, Nat.reduceLT, Nat.reduceLeDiff, Nat.reduceEqDiff, Nat.reduceAdd, Nat.reduceSub, Nat.reduceMul, ↓reduceIte, Int.reduceLE, Int.reduceLT, Int.reduceNeg, Int.reduceToNat, Int.reduceAdd, Int.reduceSub, Int.reduceMul, reduceCtorEq, Try.results28, e2, hg, hl]) | (with_reducible refine And.intro ?_ ?_) | (with_reducible intro _) | (refine pcall_fz hq ?_; simp only [go_sem, Nat.reduceBEq, Nat.reduceLT, Nat.reduceLeDiff, Nat.reduceEqDiff, Nat.reduceAdd, Nat.reduceSub, Nat.reduceMul, ↓reduceIte, Int.reduceLE, Int.reduceLT, Int.reduceNeg, Int.reduceToNat, Int.reduceAdd, Int.reduceSub, Int.reduceMul, reduceCtorEq, Try.results28, e2, hg, hl]) | (refine @Exists.intro I _ (I.d D.nil) ?_; simp only [go_sem, Nat.reduceBEq, Nat.reduceLT, Nat.reduceLeDiff, Nat.reduceEqDiff, Nat.reduceAdd, Nat.reduceSub, Nat.reduceMul, ↓reduceIte, Int.reduceLE, Int.reduceLT, Int.reduceNeg, Int.reduceToNat, Int.reduceAdd, Int.reduceSub, Int.reduceMul, reduceCtorEq, Try.results28, e2, hg, hl]) | ((with_reducible (show Region.lexB _ _ = true)); kernel_rfl) | ((try rw [inK_i64]); omega)
            all_goals first
              | omega
              | exact ⟨2, by omega, by omega, ⟨⟨by omega, by omega⟩, rfl⟩, ⟨by omega, by rw [e3]⟩, by rw [e3]⟩
        · have e2 : min (i + 1 + 2 / 2) N = min (i + 1 + 1) N := rfl
          simp only [go_sem, Nat.reduceBEq, Nat.reduceLT, Nat.reduceLeDiff, Nat.reduceEqDiff, Nat.reduceAdd, Nat.reduceSub, Nat.reduceMul, ↓reduceIte, Int.reduceLE, Int.reduceLT, Int.reduceNeg, Int.reduceToNat, Int.reduceAdd, Int.reduceSub, Int.reduceMul, reduceCtorEq, Try.results28, e2]
          repeat' first | assumption | (simp (disch := first | assumption | omega | (simp; done) | (simp; omega)) only [getD_bss, getD_iss, List.take_of_length_le, remV_pos]; try simp only [go_sem, Nat.reduceBEq, Nat.reduceLT, Nat.reduceLeDiff, Nat.reduceEqDiff, Nat.reduceAdd, Nat.reduceSub, Nat.reduceMul, ↓reduceIte, Int.reduceLE, Int.reduceLT, Int.reduceNeg, Int.reduceToNat, Int.reduceAdd, Int.reduceSub, Int.reduceMul, reduceCtorEq, Try.results28, e2]) | (with_reducible refine And.intro ?_ ?_) | (with_reducible intro _) | (refine @Exists.intro I _ (I.d D.nil) ?_; simp only [go_sem, Nat.reduceBEq, Nat.reduceLT, Nat.reduceLeDiff, Nat.reduceEqDiff, Nat.reduceAdd, Nat.reduceSub, Nat.reduceMul, ↓reduceIte, Int.reduceLE, Int.reduceLT, Int.reduceNeg, Int.reduceToNat, Int.reduceAdd, Int.reduceSub, Int.reduceMul, reduceCtorEq, Try.results28, e2]) | ((with_reducible (show Region.lexB _ _ = true)); kernel_rfl) | ((try rw [inK_i64]); omega)
          all_goals first
            | omega
            | exact ⟨i + 1, by omega, by omega, ⟨⟨rfl, rfl⟩, rfl⟩, ⟨rfl, rfl⟩, rfl⟩
    · obtain rfl : i = N := by omega
      have e1 : min (i + 1) i = i := by omega
      simp only [go_sem, Nat.reduceBEq, Nat.reduceLT, Nat.reduceLeDiff, Nat.reduceEqDiff, Nat.reduceAdd, Nat.reduceSub, Nat.reduceMul, ↓reduceIte, Int.reduceLE, Int.reduceLT, Int.reduceNeg, Int.reduceToNat, Int.reduceAdd, Int.reduceSub, Int.reduceMul, reduceCtorEq, Try.results28, e1]
      repeat' first | assumption | (simp (disch := first | assumption | omega | (simp; done) | (simp; omega)) only [getD_bss, getD_iss, List.take_of_length_le, remV_pos]; try simp only [go_sem, Nat.reduceBEq, Nat.reduceLT, Nat.reduceLeDiff, Nat.reduceEqDiff, Nat.reduceAdd, Nat.reduceSub, Nat.reduceMul, ↓reduceIte, Int.reduceLE, Int.reduceLT, Int.reduceNeg, Int.reduceToNat, Int.reduceAdd, Int.reduceSub, Int.reduceMul, reduceCtorEq, Try.results28, e1]) | (with_reducible refine And.intro ?_ ?_) | (with_reducible intro _) | (refine @Exists.intro I _ (I.d D.nil) ?_; simp only [go_sem, Nat.reduceBEq, Nat.reduceLT, Nat.reduceLeDiff, Nat.reduceEqDiff, Nat.reduceAdd, Nat.reduceSub, Nat.reduceMul, ↓reduceIte, Int.reduceLE, Int.reduceLT, Int.reduceNeg, Int.reduceToNat, Int.reduceAdd, Int.reduceSub, Int.reduceMul, reduceCtorEq, Try.results28, e1]) | ((with_reducible (show Region.lexB _ _ = true)); kernel_rfl) | ((try rw [inK_i64]); omega)
      rw [rng_len]
theorem Try.c_DrawCounter (code : List Int) : PureE Try.prog 24 [dUs code] (fun x => ∃ n, x = dI n ∧ -1 ≤ n ∧ n ≤ 4) := by
  refine pureE_of' (E := Try.env 0) Try.tok rfl 1000 Try.func24 rfl rfl Try.ntmps24 (by simp) fun ok => ?_
  simp only [go_sem, Nat.reduceBEq, Nat.reduceLT, Nat.reduceLeDiff, Nat.reduceEqDiff, Nat.reduceAdd, Nat.reduceSub, Nat.reduceMul, ↓reduceIte, Int.reduceLE, Int.reduceLT, Int.reduceNeg, Int.reduceToNat, Int.reduceAdd, Int.reduceSub, Int.reduceMul, reduceCtorEq] at ok
  simp only [go_sem, Nat.reduceBEq, Nat.reduceLT, Nat.reduceLeDiff, Nat.reduceEqDiff, Nat.reduceAdd, Nat.reduceSub, Nat.reduceMul, ↓reduceIte, Int.reduceLE, Int.reduceLT, Int.reduceNeg, Int.reduceToNat, Int.reduceAdd, Int.reduceSub, Int.reduceMul, reduceCtorEq, Try.results24]
  refine call_proc (Try.c_l20Open code) [] (by simp only [go_sem, Nat.reduceBEq, Nat.reduceLT, Nat.reduceLeDiff, Nat.reduceEqDiff, Nat.reduceAdd, Nat.reduceSub, Nat.reduceMul, ↓reduceIte, Int.reduceLE, Int.reduceLT, Int.reduceNeg, Int.reduceToNat, Int.reduceAdd, Int.reduceSub, Int.reduceMul, reduceCtorEq]) ?_
  simp only [go_sem, Nat.reduceBEq, Nat.reduceLT, Nat.reduceLeDiff, Nat.reduceEqDiff, Nat.reduceAdd, Nat.reduceSub, Nat.reduceMul, ↓reduceIte, Int.reduceLE, Int.reduceLT, Int.reduceNeg, Int.reduceToNat, Int.reduceAdd, Int.reduceSub, Int.reduceMul, reduceCtorEq, Try.results24]
  refine call_icall (Try.c_pick _ 0 6 (Try.bytes_of ok.2 2000) (by omega)) [0] (by simp only [go_sem, Nat.reduceBEq, Nat.reduceLT, Nat.reduceLeDiff, Nat.reduceEqDiff, Nat.reduceAdd, Nat.reduceSub, Nat.reduceMul, ↓reduceIte, Int.reduceLE, Int.reduceLT, Int.reduceNeg, Int.reduceToNat, Int.reduceAdd, Int.reduceSub, Int.reduceMul, reduceCtorEq]) ?_
  rintro r0 H1 ⟨x, hx, rfl, rfl⟩
  simp only [go_sem, Nat.reduceBEq, Nat.reduceLT, Nat.reduceLeDiff, Nat.reduceEqDiff, Nat.reduceAdd, Nat.reduceSub, Nat.reduceMul, ↓reduceIte, Int.reduceLE, Int.reduceLT, Int.reduceNeg, Int.reduceToNat, Int.reduceAdd, Int.reduceSub, Int.reduceMul, reduceCtorEq, Try.results24]
  rw [inK_i64]
  exact ⟨by omega, _, rfl, _, rfl, by omega, by omega⟩
/-! ### What counters do -/
def cnFact (n N : Nat) (s x : Nat) : Bool := decide (numN (litVs (values (cnC n) (bitsOf s n) (bitsOf x 1)) (cnC n).next) n = (((s + x) % N : Nat) : Int)) && decide (litVs (values (cnC n) (bitsOf s n) (bitsOf x 1)) (cnC n).next = bitsOf ((s + x) % N : Nat) n) &&
  decide (litVs (values (cnC n) (bitsOf s n) (bitsOf x 1)) (cnC n).outs = bitsOf s n) && decide (numN (bitsOf s n) n = s)
theorem cnFact1 : ∀ s, s < 2 → ∀ x, x < 2 → cnFact 1 2 s x = true := by decide +kernel
theorem cnFact2 : ∀ s, s < 4 → ∀ x, x < 2 → cnFact 2 4 s x = true := by decide +kernel
theorem cnFact3 : ∀ s, s < 8 → ∀ x, x < 2 → cnFact 3 8 s x = true := by decide +kernel
structure CnDo (c : Circ) (n N : Nat) : Prop where
  hv : c.Valid
  hi : c.inputs = 1
  hn : c.next.length = n
  hN : N = 2 ^ n
  ho : c.outs.length = n
  hf : ∀ s x : Nat, s < N → x < 2 → litVs (values c (bitsOf s n) (bitsOf x 1)) c.next = bitsOf ((s + x) % N : Nat) n ∧ litVs (values c (bitsOf s n) (bitsOf x 1)) c.outs = bitsOf s n
  hb : ∀ s : Nat, s < N → numN (bitsOf s n) n = s
theorem cnDo (n : Int) (h : 1 ≤ n ∧ n ≤ 3) : CnDo (cnC n) n.toNat (2 ^ n.toNat) := by
  have hv := (cnC_valid n h).1
  obtain rfl | rfl | rfl : n = 1 ∨ n = 2 ∨ n = 3 := by omega
  · refine ⟨hv, rfl, by decide +kernel, rfl, by decide +kernel, fun s x hs hx => ?_, fun s hs => ?_⟩
    · have := cnFact1 s hs x hx
      simp only [cnFact, Bool.and_eq_true, decide_eq_true_eq] at this
      exact ⟨this.1.1.2, this.1.2⟩
    · have := cnFact1 s hs 0 (by omega)
      simp only [cnFact, Bool.and_eq_true, decide_eq_true_eq] at this
      exact this.2
  · refine ⟨hv, rfl, by decide +kernel, rfl, by decide +kernel, fun s x hs hx => ?_, fun s hs => ?_⟩
    · have := cnFact2 s hs x hx
      simp only [cnFact, Bool.and_eq_true, decide_eq_true_eq] at this
      exact ⟨this.1.1.2, this.1.2⟩
    · have := cnFact2 s hs 0 (by omega)
      simp only [cnFact, Bool.and_eq_true, decide_eq_true_eq] at this
      exact this.2
  · refine ⟨hv, rfl, by decide +kernel, rfl, by decide +kernel, fun s x hs hx => ?_, fun s hs => ?_⟩
    · have := cnFact3 s hs x hx
      simp only [cnFact, Bool.and_eq_true, decide_eq_true_eq] at this
      exact ⟨this.1.1.2, this.1.2⟩
    · have := cnFact3 s hs 0 (by omega)
      simp only [cnFact, Bool.and_eq_true, decide_eq_true_eq] at this
      exact this.2
def bitOf (b : Bool) : Nat := if b then 1 else 0
/-- How many of the first rows count. -/
def cntN (f : Nat → Bool) : Nat → Nat
  | 0 => 0
  | i + 1 => cntN f i + bitOf (f i)
theorem bitsOf_bit (b : Bool) : bitsOf (bitOf b : Nat) 1 = [b] := by cases b <;> decide
theorem cn_state {c : Circ} {n N : Nat} (h : CnDo c n N) {rows : List (List Bool)} {f : Nat → Bool} (hf : ∀ i, i < rows.length → rows.getD i [] = [f i]) : ∀ i, i ≤ rows.length → stateAt c rows i = bitsOf ((cntN f i % N : Nat) : Int) n
  | 0, _ => by
    have hN : 0 < N := by rw [h.hN]; exact Nat.two_pow_pos _
    rw [stateAt, h.hn, cntN, Nat.zero_mod]
    refine List.ext_getElem (by simp [bitsOf]) fun j h1 h2 => ?_
    simp [bitsOf]
  | i + 1, hi => by
    have hN : 0 < N := by rw [h.hN]; exact Nat.two_pow_pos _
    have hb : bitOf (f i) < 2 := by unfold bitOf; split <;> omega
    rw [stateAt, cn_state h hf i (by omega), hf i (by omega), ← bitsOf_bit, (h.hf _ _ (Nat.mod_lt _ hN) hb).1, cntN, Nat.mod_add_mod]
theorem cn_out {c : Circ} {n N : Nat} (h : CnDo c n N) {rows : List (List Bool)} {f : Nat → Bool} (hf : ∀ i, i < rows.length → rows.getD i [] = [f i]) {i : Nat} (hi : i < rows.length) : litVs (valsAt c rows i) c.outs = bitsOf ((cntN f i % N : Nat) : Int) n := by
  have hN : 0 < N := by rw [h.hN]; exact Nat.two_pow_pos _
  have hb : bitOf (f i) < 2 := by unfold bitOf; split <;> omega
  rw [valsAt, cn_state h hf i (by omega), hf i hi, ← bitsOf_bit, (h.hf _ _ (Nat.mod_lt _ hN) hb).2]
end Go.Proofs
