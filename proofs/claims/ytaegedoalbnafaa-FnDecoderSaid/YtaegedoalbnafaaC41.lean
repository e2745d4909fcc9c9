/- Contracts: decision diagrams are built; exactly one decoder output is active. Conditions: none; lemmas. -/
import Derived.Test.YtaegedoalbnafaaC40
set_option maxRecDepth 20000
set_option linter.unusedVariables false
set_option linter.unusedSimpArgs false
namespace Go.Proofs
open Go Go.VL

/-! ### Nodes without repetitions -/
def fndT (l : List Tri) (a b c : Int) : Option Nat := l.findIdx? fun y => decide (y = (a, b, c))
def kM : Nat → List Tri → List (D × D)
  | _, [] => []
  | i, x :: r => (dN x, dI (i : Int)) :: kM (i + 1) r
theorem kM_app (y : Tri) : ∀ (l : List Tri) (i : Nat), kM i (l ++ [y]) = kM i l ++ [(dN y, dI ((i + l.length : Nat) : Int))]
  | [], i => by simp [kM]
  | x :: r, i => by
    simp only [List.cons_append, kM, kM_app y r (i + 1), List.length_cons]
    congr 5
    omega
theorem kM_find (a b c : Int) : ∀ (l : List Tri) (i : Nat), findD (kM i l) (.agg [dI a, dI b, dI c]) = (fndT l a b c).map fun j => dI ((i + j : Nat) : Int)
  | [], i => rfl
  | x :: r, i => by
    rw [kM, findD, keyEq_dN, fndT, List.findIdx?_cons]
    by_cases h : x = (a, b, c)
    · simp [h]
    · rw [decide_eq_false h]
      have ih := kM_find a b c r (i + 1)
      simp only [Bool.false_eq_true, if_false]
      rw [ih, fndT]
      cases List.findIdx? (fun y => decide (y = (a, b, c))) r with
      | none => rfl
      | some j => simp; omega
theorem kM_keys {fs : List (Nat × Nat)} (hf : fs.length = 3) : ∀ (l : List Tri) (i : Nat), keysAre (.struct fs) (kM i l)
  | [], i => trivial
  | x :: r, i => ⟨⟨by simp [hf], rfl, rfl, rfl, trivial⟩, kM_keys hf r (i + 1)⟩
def bB (T : List Bool) : Nat → Nat → Nat → List Tri → List Tri × Int
  | 0, _, x, ns => (ns, if T.getD x false then 1 else 0)
  | d + 1, v, x, ns =>
    if (bB T d (v + 1) x ns).2 = (bB T d (v + 1) (x + 2 ^ v) (bB T d (v + 1) x ns).1).2 then ((bB T d (v + 1) (x + 2 ^ v) (bB T d (v + 1) x ns).1).1, (bB T d (v + 1) x ns).2)
    else match fndT ((bB T d (v + 1) (x + 2 ^ v) (bB T d (v + 1) x ns).1).1.drop 2) v (bB T d (v + 1) x ns).2 (bB T d (v + 1) (x + 2 ^ v) (bB T d (v + 1) x ns).1).2 with
      | some j => ((bB T d (v + 1) (x + 2 ^ v) (bB T d (v + 1) x ns).1).1, ((j + 2 : Nat) : Int))
      | none => ((bB T d (v + 1) (x + 2 ^ v) (bB T d (v + 1) x ns).1).1 ++ [((v : Int), (bB T d (v + 1) x ns).2, (bB T d (v + 1) (x + 2 ^ v) (bB T d (v + 1) x ns).1).2)], (((bB T d (v + 1) (x + 2 ^ v) (bB T d (v + 1) x ns).1).1.length : Nat) : Int))
theorem bB_ok (T : List Bool) : ∀ d v x ns, 2 ≤ ns.length → ns.length ≤ (bB T d v x ns).1.length ∧ (bB T d v x ns).1.length + 1 ≤ ns.length + 2 ^ d ∧ 0 ≤ (bB T d v x ns).2 ∧ (bB T d v x ns).2 < (bB T d v x ns).1.length
  | 0, v, x, ns, h => by simp only [bB]; refine ⟨Nat.le_refl _, by simp, ?_, ?_⟩ <;> split <;> omega
  | d + 1, v, x, ns, h => by
    have h1 := bB_ok T d (v + 1) x ns h
    have h2 := bB_ok T d (v + 1) (x + 2 ^ v) (bB T d (v + 1) x ns).1 (by omega)
    have hp : 2 ^ (d + 1) = 2 ^ d + 2 ^ d := by rw [Nat.pow_succ]; omega
    rw [bB]
    generalize bB T d (v + 1) (x + 2 ^ v) (bB T d (v + 1) x ns).1 = q at *
    generalize bB T d (v + 1) x ns = p at *
    rw [hp]
    split
    · simp only; omega
    · split
      · rename_i j hj
        have hj2 : j < (q.1.drop 2).length := by
          rw [fndT, List.findIdx?_eq_some_iff_getElem] at hj
          exact hj.1
        rw [List.length_drop] at hj2
        simp only; omega
      · simp only [List.length_append, List.length_singleton]; omega
def bdH (T : List Bool) (V : Nat) (ns : List Tri) : List R := [.box [.d (dBs T), .d (dI V), .sl 1 (ns.length - 2) 3 0 ns.length, .map 2], .row (ns.length - 2) 3 true (ns.map dN), .map (kM 2 (ns.drop 2))]
set_option maxHeartbeats 4000000 in
theorem Try.c_build (T : List Bool) (V : Nat) (hT : T.length = 2 ^ V) (hV : V ≤ 7) : ∀ d v x ns, v + d = V → x < 2 ^ v → 2 ≤ ns.length → ns.length + 2 ^ d ≤ 1000 →
    Proc Try.prog 109 [.ptr 0 0, .d (dI (v : Nat)), .d (dI (x : Nat))] (bdH T V ns) (.d (dI (bB T d v x ns).2)) (bdH T V (bB T d v x ns).1) := by
  intro d
  induction d with
  | zero =>
    intro v x ns hd hx hn hb
    obtain rfl : v = V := by omega
    refine proc_of (E := Try.env 3) Try.tok rfl 1000 Try.func109 rfl rfl Try.ntmps109 (by simp) ?_
    simp only [go_sem, Nat.reduceBEq, Nat.reduceLT, Nat.reduceLeDiff, Nat.reduceEqDiff, Nat.reduceAdd, Nat.reduceSub, Nat.reduceMul, ↓reduceIte, Int.reduceLE, Int.reduceLT, Int.reduceNeg, Int.reduceToNat, Int.reduceAdd, Int.reduceSub, Int.reduceMul, reduceCtorEq, Try.results109, bdH, bB]
    repeat' first | assumption | (simp (disch := first | assumption | omega | (simp; done) | (simp; omega)) only [getD_bss, getD_iss, List.take_of_length_le, remV_pos]; try simp only [go_sem, Nat.reduceBEq, Nat.reduceLT, Nat.reduceLeDiff, Nat.reduceEqDiff, Nat.reduceAdd, Nat.reduceSub, Nat.reduceMul, ↓reduceIte, Int.reduceLE, Int.reduceLT, Int.reduceNeg, Int.reduceToNat, Int.reduceAdd, Int.reduceSub, Int.reduceMul, reduceCtorEq, Try.results109]) | (with_reducible refine And.intro ?_ ?_) | (with_reducible intro _) | (refine @Exists.intro I _ (I.d D.nil) ?_; simp only [go_sem, Nat.reduceBEq, Nat.reduceLT, Nat.reduceLeDiff, Nat.reduceEqDiff, Nat.reduceAdd, Nat.reduceSub, Nat.reduceMul, ↓reduceIte, Int.reduceLE, Int.reduceLT, Int.reduceNeg, Int.reduceToNat, Int.reduceAdd, Int.reduceSub, Int.reduceMul, reduceCtorEq, Try.results109]) | ((with_reducible (show Region.lexB _ _ = true)); kernel_rfl) | ((try rw [inK_i64]); omega)
    · rw [if_pos (by assumption)]
    · rename_i h1
      rw [h1]; rfl
  | succ d ih =>
    intro v x ns hd hx hn hb
    have h1 := bB_ok T d (v + 1) x ns hn
    have h2 := bB_ok T d (v + 1) (x + 2 ^ v) (bB T d (v + 1) x ns).1 (by omega)
    have hp : 2 ^ (d + 1) = 2 ^ d + 2 ^ d := by rw [Nat.pow_succ]; omega
    have hpv : 2 ^ (v + 1) = 2 ^ v + 2 ^ v := by rw [Nat.pow_succ]; omega
    have i1 := ih (v + 1) x ns (by omega) (by omega) hn (by omega)
    have i2 := ih (v + 1) (x + 2 ^ v) (bB T d (v + 1) x ns).1 (by omega) (by omega) (by omega) (by omega)
    rw [bB]
    generalize bB T d (v + 1) (x + 2 ^ v) (bB T d (v + 1) x ns).1 = q at *
    generalize bB T d (v + 1) x ns = p at *
    obtain ⟨ns1, lo⟩ := p
    obtain ⟨ns2, hi⟩ := q
    simp only at h1 h2 i1 i2 ⊢
    have hor : x ||| 2 ^ v = x + 2 ^ v := or_pow hx
    have hvP : 2 ^ v ≤ 2 ^ 7 := Nat.pow_le_pow_right (by omega) (by omega)
    have hP : (2 : Int) ^ v = ((2 ^ v : Nat) : Int) := by simp
    have hk : ∀ {fs : List (Nat × Nat)}, fs.length = 3 → keysAre (.struct fs) (kM 2 (ns2.drop 2)) := fun hf => kM_keys hf _ _
    have hfd := kM_find (v : Int) lo hi (ns2.drop 2) 2
    by_cases hlh : lo = hi
    · rw [if_pos hlh]
      refine proc_of (E := Try.env 3) Try.tok rfl 1000 Try.func109 rfl rfl Try.ntmps109 (by simp) ?_
      simp only [go_sem, Nat.reduceBEq, Nat.reduceLT, Nat.reduceLeDiff, Nat.reduceEqDiff, Nat.reduceAdd, Nat.reduceSub, Nat.reduceMul, ↓reduceIte, Int.reduceLE, Int.reduceLT, Int.reduceNeg, Int.reduceToNat, Int.reduceAdd, Int.reduceSub, Int.reduceMul, reduceCtorEq, Try.results109, bdH]
      repeat' first | assumption | (simp (disch := first | assumption | omega | (simp; done) | (simp; omega)) only [getD_bss, getD_iss, List.take_of_length_le, remV_pos]; try simp only [go_sem, Nat.reduceBEq, Nat.reduceLT, Nat.reduceLeDiff, Nat.reduceEqDiff, Nat.reduceAdd, Nat.reduceSub, Nat.reduceMul, ↓reduceIte, Int.reduceLE, Int.reduceLT, Int.reduceNeg, Int.reduceToNat, Int.reduceAdd, Int.reduceSub, Int.reduceMul, reduceCtorEq, Try.results109]) | (with_reducible refine And.intro ?_ ?_) | (with_reducible intro _) | (refine @Exists.intro I _ (I.d D.nil) ?_; simp only [go_sem, Nat.reduceBEq, Nat.reduceLT, Nat.reduceLeDiff, Nat.reduceEqDiff, Nat.reduceAdd, Nat.reduceSub, Nat.reduceMul, ↓reduceIte, Int.reduceLE, Int.reduceLT, Int.reduceNeg, Int.reduceToNat, Int.reduceAdd, Int.reduceSub, Int.reduceMul, reduceCtorEq, Try.results109]) | ((with_reducible (show Region.lexB _ _ = true)); kernel_rfl) | ((try rw [inK_i64]); omega)
      refine call_proc i1 [0, 1, 2] (by simp only [bdH]; simp only [go_sem, Nat.reduceBEq, Nat.reduceLT, Nat.reduceLeDiff, Nat.reduceEqDiff, Nat.reduceAdd, Nat.reduceSub, Nat.reduceMul, ↓reduceIte, Int.reduceLE, Int.reduceLT, Int.reduceNeg, Int.reduceToNat, Int.reduceAdd, Int.reduceSub, Int.reduceMul, reduceCtorEq]) ?_
      simp only [go_sem, Nat.reduceBEq, Nat.reduceLT, Nat.reduceLeDiff, Nat.reduceEqDiff, Nat.reduceAdd, Nat.reduceSub, Nat.reduceMul, ↓reduceIte, Int.reduceLE, Int.reduceLT, Int.reduceNeg, Int.reduceToNat, Int.reduceAdd, Int.reduceSub, Int.reduceMul, reduceCtorEq, Try.results109, bdH, hP, hor]
      repeat' first | assumption | (simp (disch := first | assumption | omega | (simp; done) | (simp; omega)) only [getD_bss, getD_iss, List.take_of_length_le, remV_pos]; try simp only [go_sem, Nat.reduceBEq, Nat.reduceLT, Nat.reduceLeDiff, Nat.reduceEqDiff, Nat.reduceAdd, Nat.reduceSub, Nat.reduceMul, ↓reduceIte, Int.reduceLE, Int.reduceLT, Int.reduceNeg, Int.reduceToNat, Int.reduceAdd, Int.reduceSub, Int.reduceMul, reduceCtorEq, Try.results109, hP, hor]) | (with_reducible refine And.intro ?_ ?_) | (with_reducible intro _) | (refine @Exists.intro I _ (I.d D.nil) ?_; simp only [go_sem, Nat.reduceBEq, Nat.reduceLT, Nat.reduceLeDiff, Nat.reduceEqDiff, Nat.reduceAdd, Nat.reduceSub, Nat.reduceMul, ↓reduceIte, Int.reduceLE, Int.reduceLT, Int.reduceNeg, Int.reduceToNat, Int.reduceAdd, Int.reduceSub, Int.reduceMul, reduceCtorEq, Try.results109, hP, hor]) | ((with_reducible (show Region.lexB _ _ = true)); kernel_rfl) | ((try rw [inK_i64]); omega)
      refine call_proc i2 [0, 1, 2] (by simp only [bdH]; simp only [go_sem, Nat.reduceBEq, Nat.reduceLT, Nat.reduceLeDiff, Nat.reduceEqDiff, Nat.reduceAdd, Nat.reduceSub, Nat.reduceMul, ↓reduceIte, Int.reduceLE, Int.reduceLT, Int.reduceNeg, Int.reduceToNat, Int.reduceAdd, Int.reduceSub, Int.reduceMul, reduceCtorEq]) ?_
      simp only [go_sem, Nat.reduceBEq, Nat.reduceLT, Nat.reduceLeDiff, Nat.reduceEqDiff, Nat.reduceAdd, Nat.reduceSub, Nat.reduceMul, ↓reduceIte, Int.reduceLE, Int.reduceLT, Int.reduceNeg, Int.reduceToNat, Int.reduceAdd, Int.reduceSub, Int.reduceMul, reduceCtorEq, Try.results109, bdH]
      repeat' first | assumption | (simp (disch := first | assumption | omega | (simp; done) | (simp; omega)) only [getD_bss, getD_iss, List.take_of_length_le, remV_pos]; try simp only [go_sem, Nat.reduceBEq, Nat.reduceLT, Nat.reduceLeDiff, Nat.reduceEqDiff, Nat.reduceAdd, Nat.reduceSub, Nat.reduceMul, ↓reduceIte, Int.reduceLE, Int.reduceLT, Int.reduceNeg, Int.reduceToNat, Int.reduceAdd, Int.reduceSub, Int.reduceMul, reduceCtorEq, Try.results109]) | (with_reducible refine And.intro ?_ ?_) | (with_reducible intro _) | (refine @Exists.intro I _ (I.d D.nil) ?_; simp only [go_sem, Nat.reduceBEq, Nat.reduceLT, Nat.reduceLeDiff, Nat.reduceEqDiff, Nat.reduceAdd, Nat.reduceSub, Nat.reduceMul, ↓reduceIte, Int.reduceLE, Int.reduceLT, Int.reduceNeg, Int.reduceToNat, Int.reduceAdd, Int.reduceSub, Int.reduceMul, reduceCtorEq, Try.results109]) | ((with_reducible (show Region.lexB _ _ = true)); kernel_rfl) | ((try rw [inK_i64]); omega)
    · rw [if_neg hlh]
      cases hff : fndT (ns2.drop 2) v lo hi with
      | some j =>
        rw [hff] at hfd
        have hj2 : j < (ns2.drop 2).length := by
          rw [fndT, List.findIdx?_eq_some_iff_getElem] at hff
          exact hff.1
        rw [List.length_drop] at hj2
        have hfd2 : findD (kM 2 (ns2.drop 2)) (.agg [dI v, dI lo, dI hi]) = some (dI ((j + 2 : Nat) : Int)) := by rw [hfd, Nat.add_comm j 2]; rfl
        simp only
        refine proc_of (E := Try.env 3) Try.tok rfl 1000 Try.func109 rfl rfl Try.ntmps109 (by simp) ?_
        simp only [go_sem, Nat.reduceBEq, Nat.reduceLT, Nat.reduceLeDiff, Nat.reduceEqDiff, Nat.reduceAdd, Nat.reduceSub, Nat.reduceMul, ↓reduceIte, Int.reduceLE, Int.reduceLT, Int.reduceNeg, Int.reduceToNat, Int.reduceAdd, Int.reduceSub, Int.reduceMul, reduceCtorEq, Try.results109, bdH]
        repeat' first | assumption | (simp (disch := first | assumption | omega | (simp; done) | (simp; omega)) only [getD_bss, getD_iss, List.take_of_length_le, remV_pos]; try simp only [go_sem, Nat.reduceBEq, Nat.reduceLT, Nat.reduceLeDiff, Nat.reduceEqDiff, Nat.reduceAdd, Nat.reduceSub, Nat.reduceMul, ↓reduceIte, Int.reduceLE, Int.reduceLT, Int.reduceNeg, Int.reduceToNat, Int.reduceAdd, Int.reduceSub, Int.reduceMul, reduceCtorEq, Try.results109]) | (with_reducible refine And.intro ?_ ?_) | (with_reducible intro _) | (refine @Exists.intro I _ (I.d D.nil) ?_; simp only [go_sem, Nat.reduceBEq, Nat.reduceLT, Nat.reduceLeDiff, Nat.reduceEqDiff, Nat.reduceAdd, Nat.reduceSub, Nat.reduceMul, ↓reduceIte, Int.reduceLE, Int.reduceLT, Int.reduceNeg, Int.reduceToNat, Int.reduceAdd, Int.reduceSub, Int.reduceMul, reduceCtorEq, Try.results109]) | ((with_reducible (show Region.lexB _ _ = true)); kernel_rfl) | ((try rw [inK_i64]); omega)
        refine call_proc i1 [0, 1, 2] (by simp only [bdH]; simp only [go_sem, Nat.reduceBEq, Nat.reduceLT, Nat.reduceLeDiff, Nat.reduceEqDiff, Nat.reduceAdd, Nat.reduceSub, Nat.reduceMul, ↓reduceIte, Int.reduceLE, Int.reduceLT, Int.reduceNeg, Int.reduceToNat, Int.reduceAdd, Int.reduceSub, Int.reduceMul, reduceCtorEq]) ?_
        simp only [go_sem, Nat.reduceBEq, Nat.reduceLT, Nat.reduceLeDiff, Nat.reduceEqDiff, Nat.reduceAdd, Nat.reduceSub, Nat.reduceMul, ↓reduceIte, Int.reduceLE, Int.reduceLT, Int.reduceNeg, Int.reduceToNat, Int.reduceAdd, Int.reduceSub, Int.reduceMul, reduceCtorEq, Try.results109, bdH, hP, hor]
        repeat' first | assumption | (simp (disch := first | assumption | omega | (simp; done) | (simp; omega)) only [getD_bss, getD_iss, List.take_of_length_le, remV_pos]; try simp only [go_sem, Nat.reduceBEq, Nat.reduceLT, Nat.reduceLeDiff, Nat.reduceEqDiff, Nat.reduceAdd, Nat.reduceSub, Nat.reduceMul, ↓reduceIte, Int.reduceLE, Int.reduceLT, Int.reduceNeg, Int.reduceToNat, Int.reduceAdd, Int.reduceSub, Int.reduceMul, reduceCtorEq, Try.results109, hP, hor]) | (with_reducible refine And.intro ?_ ?_) | (with_reducible intro _) | (refine @Exists.intro I _ (I.d D.nil) ?_; simp only [go_sem, Nat.reduceBEq, Nat.reduceLT, Nat.reduceLeDiff, Nat.reduceEqDiff, Nat.reduceAdd, Nat.reduceSub, Nat.reduceMul, ↓reduceIte, Int.reduceLE, Int.reduceLT, Int.reduceNeg, Int.reduceToNat, Int.reduceAdd, Int.reduceSub, Int.reduceMul, reduceCtorEq, Try.results109, hP, hor]) | ((with_reducible (show Region.lexB _ _ = true)); kernel_rfl) | ((try rw [inK_i64]); omega)
        refine call_proc i2 [0, 1, 2] (by simp only [bdH]; simp only [go_sem, Nat.reduceBEq, Nat.reduceLT, Nat.reduceLeDiff, Nat.reduceEqDiff, Nat.reduceAdd, Nat.reduceSub, Nat.reduceMul, ↓reduceIte, Int.reduceLE, Int.reduceLT, Int.reduceNeg, Int.reduceToNat, Int.reduceAdd, Int.reduceSub, Int.reduceMul, reduceCtorEq]) ?_
        simp only [go_sem, Nat.reduceBEq, Nat.reduceLT, Nat.reduceLeDiff, Nat.reduceEqDiff, Nat.reduceAdd, Nat.reduceSub, Nat.reduceMul, ↓reduceIte, Int.reduceLE, Int.reduceLT, Int.reduceNeg, Int.reduceToNat, Int.reduceAdd, Int.reduceSub, Int.reduceMul, reduceCtorEq, Try.results109, bdH, hfd2]
        repeat' first | assumption | (simp (disch := first | assumption | omega | (simp; done) | (simp; omega)) only [getD_bss, getD_iss, List.take_of_length_le, remV_pos]; try simp only [go_sem, Nat.reduceBEq, Nat.reduceLT, Nat.reduceLeDiff, Nat.reduceEqDiff, Nat.reduceAdd, Nat.reduceSub, Nat.reduceMul, ↓reduceIte, Int.reduceLE, Int.reduceLT, Int.reduceNeg, Int.reduceToNat, Int.reduceAdd, Int.reduceSub, Int.reduceMul, reduceCtorEq, Try.results109, hfd2]) | (with_reducible refine And.intro ?_ ?_) | (with_reducible intro _) | (refine @Exists.intro I _ (I.d D.nil) ?_; simp only [go_sem, Nat.reduceBEq, Nat.reduceLT, Nat.reduceLeDiff, Nat.reduceEqDiff, Nat.reduceAdd, Nat.reduceSub, Nat.reduceMul, ↓reduceIte, Int.reduceLE, Int.reduceLT, Int.reduceNeg, Int.reduceToNat, Int.reduceAdd, Int.reduceSub, Int.reduceMul, reduceCtorEq, Try.results109, hfd2]) | ((with_reducible (show Region.lexB _ _ = true)); kernel_rfl) | ((try rw [inK_i64]); omega)
        exact hk rfl
      | none =>
        rw [hff] at hfd
        have hfd2 : findD (kM 2 (ns2.drop 2)) (.agg [dI v, dI lo, dI hi]) = none := by rw [hfd]; rfl
        have hup : updD (kM 2 (ns2.drop 2)) (.agg [dI v, dI lo, dI hi]) (dI ns2.length) = kM 2 ((ns2 ++ [((v : Int), lo, hi)]).drop 2) := by
          rw [updD_new hfd2, List.drop_append_of_le_length (by omega), kM_app, List.length_drop, show 2 + (ns2.length - 2) = ns2.length by omega]
        simp only
        refine proc_of (E := Try.env 3) Try.tok rfl 1000 Try.func109 rfl rfl Try.ntmps109 (by simp) ?_
        simp only [go_sem, Nat.reduceBEq, Nat.reduceLT, Nat.reduceLeDiff, Nat.reduceEqDiff, Nat.reduceAdd, Nat.reduceSub, Nat.reduceMul, ↓reduceIte, Int.reduceLE, Int.reduceLT, Int.reduceNeg, Int.reduceToNat, Int.reduceAdd, Int.reduceSub, Int.reduceMul, reduceCtorEq, Try.results109, bdH]
        repeat' first | assumption | (simp (disch := first | assumption | omega | (simp; done) | (simp; omega)) only [getD_bss, getD_iss, List.take_of_length_le, remV_pos]; try simp only [go_sem, Nat.reduceBEq, Nat.reduceLT, Nat.reduceLeDiff, Nat.reduceEqDiff, Nat.reduceAdd, Nat.reduceSub, Nat.reduceMul, ↓reduceIte, Int.reduceLE, Int.reduceLT, Int.reduceNeg, Int.reduceToNat, Int.reduceAdd, Int.reduceSub, Int.reduceMul, reduceCtorEq, Try.results109]) | (with_reducible refine And.intro ?_ ?_) | (with_reducible intro _) | (refine @Exists.intro I _ (I.d D.nil) ?_; simp only [go_sem, Nat.reduceBEq, Nat.reduceLT, Nat.reduceLeDiff, Nat.reduceEqDiff, Nat.reduceAdd, Nat.reduceSub, Nat.reduceMul, ↓reduceIte, Int.reduceLE, Int.reduceLT, Int.reduceNeg, Int.reduceToNat, Int.reduceAdd, Int.reduceSub, Int.reduceMul, reduceCtorEq, Try.results109]) | ((with_reducible (show Region.lexB _ _ = true)); kernel_rfl) | ((try rw [inK_i64]); omega)
        refine call_proc i1 [0, 1, 2] (by simp only [bdH]; simp only [go_sem, Nat.reduceBEq, Nat.reduceLT, Nat.reduceLeDiff, Nat.reduceEqDiff, Nat.reduceAdd, Nat.reduceSub, Nat.reduceMul, ↓reduceIte, Int.reduceLE, Int.reduceLT, Int.reduceNeg, Int.reduceToNat, Int.reduceAdd, Int.reduceSub, Int.reduceMul, reduceCtorEq]) ?_
        simp only [go_sem, Nat.reduceBEq, Nat.reduceLT, Nat.reduceLeDiff, Nat.reduceEqDiff, Nat.reduceAdd, Nat.reduceSub, Nat.reduceMul, ↓reduceIte, Int.reduceLE, Int.reduceLT, Int.reduceNeg, Int.reduceToNat, Int.reduceAdd, Int.reduceSub, Int.reduceMul, reduceCtorEq, Try.results109, bdH, hP, hor]
        repeat' first | assumption | (simp (disch := first | assumption | omega | (simp; done) | (simp; omega)) only [getD_bss, getD_iss, List.take_of_length_le, remV_pos]; try simp only [go_sem, Nat.reduceBEq, Nat.reduceLT, Nat.reduceLeDiff, Nat.reduceEqDiff, Nat.reduceAdd, Nat.reduceSub, Nat.reduceMul, ↓reduceIte, Int.reduceLE, Int.reduceLT, Int.reduceNeg, Int.reduceToNat, Int.reduceAdd, Int.reduceSub, Int.reduceMul, reduceCtorEq, Try.results109, hP, hor]) | (with_reducible refine And.intro ?_ ?_) | (with_reducible intro _) | (refine @Exists.intro I _ (I.d D.nil) ?_; simp only [go_sem, Nat.reduceBEq, Nat.reduceLT, Nat.reduceLeDiff, Nat.reduceEqDiff, Nat.reduceAdd, Nat.reduceSub, Nat.reduceMul, ↓reduceIte, Int.reduceLE, Int.reduceLT, Int.reduceNeg, Int.reduceToNat, Int.reduceAdd, Int.reduceSub, Int.reduceMul, reduceCtorEq, Try.results109, hP, hor]) | ((with_reducible (show Region.lexB _ _ = true)); kernel_rfl) | ((try rw [inK_i64]); omega)
        refine call_proc i2 [0, 1, 2] (by simp only [bdH]; simp only [go_sem, Nat.reduceBEq, Nat.reduceLT, Nat.reduceLeDiff, Nat.reduceEqDiff, Nat.reduceAdd, Nat.reduceSub, Nat.reduceMul, ↓reduceIte, Int.reduceLE, Int.reduceLT, Int.reduceNeg, Int.reduceToNat, Int.reduceAdd, Int.reduceSub, Int.reduceMul, reduceCtorEq]) ?_
        simp only [go_sem, Nat.reduceBEq, Nat.reduceLT, Nat.reduceLeDiff, Nat.reduceEqDiff, Nat.reduceAdd, Nat.reduceSub, Nat.reduceMul, ↓reduceIte, Int.reduceLE, Int.reduceLT, Int.reduceNeg, Int.reduceToNat, Int.reduceAdd, Int.reduceSub, Int.reduceMul, reduceCtorEq, Try.results109, bdH, hfd2]
        repeat' first | assumption | (simp (disch := first | assumption | omega | (simp; done) | (simp; omega)) only [getD_bss, getD_iss, List.take_of_length_le, remV_pos]; try simp only [go_sem, Nat.reduceBEq, Nat.reduceLT, Nat.reduceLeDiff, Nat.reduceEqDiff, Nat.reduceAdd, Nat.reduceSub, Nat.reduceMul, ↓reduceIte, Int.reduceLE, Int.reduceLT, Int.reduceNeg, Int.reduceToNat, Int.reduceAdd, Int.reduceSub, Int.reduceMul, reduceCtorEq, Try.results109, hfd2]) | (with_reducible refine And.intro ?_ ?_) | (with_reducible intro _) | (refine @Exists.intro I _ (I.d D.nil) ?_; simp only [go_sem, Nat.reduceBEq, Nat.reduceLT, Nat.reduceLeDiff, Nat.reduceEqDiff, Nat.reduceAdd, Nat.reduceSub, Nat.reduceMul, ↓reduceIte, Int.reduceLE, Int.reduceLT, Int.reduceNeg, Int.reduceToNat, Int.reduceAdd, Int.reduceSub, Int.reduceMul, reduceCtorEq, Try.results109, hfd2]) | ((with_reducible (show Region.lexB _ _ = true)); kernel_rfl) | ((try rw [inK_i64]); omega)
        · exact hk rfl
        refine drawn_of (E := Try.env 3) Try.tok Try.follows 1000 1000 [6] (.fst 0 (.fst 1 (.fst 2 (.fst 5 (.fst 3 (.fst 4 (.one 6 (.done)))))))) (by kernel_rfl) ?_
        simp only [go_sem, Nat.reduceBEq, Nat.reduceLT, Nat.reduceLeDiff, Nat.reduceEqDiff, Nat.reduceAdd, Nat.reduceSub, Nat.reduceMul, ↓reduceIte, Int.reduceLE, Int.reduceLT, Int.reduceNeg, Int.reduceToNat, Int.reduceAdd, Int.reduceSub, Int.reduceMul, reduceCtorEq, Try.results109, hup]
        repeat' first | assumption | (simp (disch := first | assumption | omega | (simp; done) | (simp; omega)) only [getD_bss, getD_iss, List.take_of_length_le, remV_pos]; try simp only [go_sem, Nat.reduceBEq, Nat.reduceLT, Nat.reduceLeDiff, Nat.reduceEqDiff, Nat.reduceAdd, Nat.reduceSub, Nat.reduceMul, ↓reduceIte, Int.reduceLE, Int.reduceLT, Int.reduceNeg, Int.reduceToNat, Int.reduceAdd, Int.reduceSub, Int.reduceMul, reduceCtorEq, Try.results109, hup]) | (with_reducible refine And.intro ?_ ?_) | (with_reducible intro _) | (refine @Exists.intro I _ (I.d D.nil) ?_; simp only [go_sem, Nat.reduceBEq, Nat.reduceLT, Nat.reduceLeDiff, Nat.reduceEqDiff, Nat.reduceAdd, Nat.reduceSub, Nat.reduceMul, ↓reduceIte, Int.reduceLE, Int.reduceLT, Int.reduceNeg, Int.reduceToNat, Int.reduceAdd, Int.reduceSub, Int.reduceMul, reduceCtorEq, Try.results109, hup]) | ((with_reducible (show Region.lexB _ _ = true)); kernel_rfl) | ((try rw [inK_i64]); omega)
        · exact hk rfl
        refine drawn_of (E := Try.env 3) Try.tok Try.follows 1000 1000 [7, 10] (.fst 0 (.fst 1 (.fst 2 (.fst 3 (.fst 4 (.fst 5 (.one 6 (.one 7 (.fst 8 (.fst 9 (.one 10 (.done)))))))))))) (by kernel_rfl) ?_
        simp only [go_sem, Nat.reduceBEq, Nat.reduceLT, Nat.reduceLeDiff, Nat.reduceEqDiff, Nat.reduceAdd, Nat.reduceSub, Nat.reduceMul, ↓reduceIte, Int.reduceLE, Int.reduceLT, Int.reduceNeg, Int.reduceToNat, Int.reduceAdd, Int.reduceSub, Int.reduceMul, reduceCtorEq, Try.results109]
        repeat' first | assumption | (simp (disch := first | assumption | omega | (simp; done) | (simp; omega)) only [getD_bss, getD_iss, List.take_of_length_le, remV_pos]; try simp only [go_sem, Nat.reduceBEq, Nat.reduceLT, Nat.reduceLeDiff, Nat.reduceEqDiff, Nat.reduceAdd, Nat.reduceSub, Nat.reduceMul, ↓reduceIte, Int.reduceLE, Int.reduceLT, Int.reduceNeg, Int.reduceToNat, Int.reduceAdd, Int.reduceSub, Int.reduceMul, reduceCtorEq, Try.results109]) | (with_reducible refine And.intro ?_ ?_) | (with_reducible intro _) | (refine @Exists.intro I _ (I.d D.nil) ?_; simp only [go_sem, Nat.reduceBEq, Nat.reduceLT, Nat.reduceLeDiff, Nat.reduceEqDiff, Nat.reduceAdd, Nat.reduceSub, Nat.reduceMul, ↓reduceIte, Int.reduceLE, Int.reduceLT, Int.reduceNeg, Int.reduceToNat, Int.reduceAdd, Int.reduceSub, Int.reduceMul, reduceCtorEq, Try.results109]) | ((with_reducible (show Region.lexB _ _ = true)); kernel_rfl) | ((try rw [inK_i64]); omega)
        all_goals (rw [show ns2.length - 2 + 1 = ns2.length + 1 - 2 by omega])
def bddOf (c : Circ) (l : Int) : List Tri × Int := bB (litTab c l (2 ^ (c.inputs.toNat + c.next.length))) (c.inputs.toNat + c.next.length) 0 0 [(0, 0, 0), (0, 0, 0)]
theorem Try.c_BuildBdd (c : Circ) (hv : c.Valid) (l : Int) (hl : litOk l c.vars) : Pure Try.prog 48 [dC c, dI l] (.agg [dNs (bddOf c l).1, dI (bddOf c l).2]) := by
  refine pure_of' (E := Try.env 0) Try.tok rfl 1000 Try.func48 rfl rfl Try.ntmps48 (by simp) fun ok => ?_
  simp only [go_sem, Nat.reduceBEq, Nat.reduceLT, Nat.reduceLeDiff, Nat.reduceEqDiff, Nat.reduceAdd, Nat.reduceSub, Nat.reduceMul, ↓reduceIte, Int.reduceLE, Int.reduceLT, Int.reduceNeg, Int.reduceToNat, Int.reduceAdd, Int.reduceSub, Int.reduceMul, reduceCtorEq] at ok
  have hi0 := hv.i0; have hi1 := hv.i1; have hln := hv.ln
  have hvb := hv.vars_bd
  have hfb := hv.first_bd
  have hl2 := hl
  unfold litOk at hl2
  have q1 := Try.c_CircuitValid c
  rw [decide_eq_true hv] at q1
  have q2 := Try.c_vars c (by omega)
  have q3 := Try.c_isLit l c.vars (by omega)
  rw [decide_eq_true hl2.1, decide_eq_true hl2.2] at q3
  have q4 := Try.c_litTable c hv l hl
  have hN := Nat.pow_le_pow_right (n := 2) (by omega) (show c.inputs.toNat + c.next.length ≤ 7 by omega)
  have q5 := Try.c_build (litTab c l (2 ^ (c.inputs.toNat + c.next.length))) (c.inputs.toNat + c.next.length) (by simp [litTab]) (by omega) (c.inputs.toNat + c.next.length) 0 0 [(0, 0, 0), (0, 0, 0)] (by omega) (by omega) (by simp) (by simp; omega)
  have e : ((c.inputs.toNat + c.next.length : Nat) : Int) = c.inputs + c.next.length := by omega
  have e0 := bB_ok (litTab c l (2 ^ (c.inputs.toNat + c.next.length))) (c.inputs.toNat + c.next.length) 0 0 [(0, 0, 0), (0, 0, 0)] (by simp)
  unfold bddOf
  unfold bdH at q5
  rw [e] at q5
  generalize bB (litTab c l (2 ^ (c.inputs.toNat + c.next.length))) (c.inputs.toNat + c.next.length) 0 0 [(0, 0, 0), (0, 0, 0)] = r at *
  obtain ⟨ns, root⟩ := r
  generalize litTab c l (2 ^ (c.inputs.toNat + c.next.length)) = T at *
  simp only at q5 e0 ⊢
  simp only [go_sem, Nat.reduceBEq, Nat.reduceLT, Nat.reduceLeDiff, Nat.reduceEqDiff, Nat.reduceAdd, Nat.reduceSub, Nat.reduceMul, ↓reduceIte, Int.reduceLE, Int.reduceLT, Int.reduceNeg, Int.reduceToNat, Int.reduceAdd, Int.reduceSub, Int.reduceMul, reduceCtorEq, Try.results48]
  repeat' first | assumption | (simp (disch := first | assumption | omega | (simp; done) | (simp; omega)) only [getD_bss, getD_iss, List.take_of_length_le, remV_pos]; try simp only [go_sem, Nat.reduceBEq, Nat.reduceLT, Nat.reduceLeDiff, Nat.reduceEqDiff, Nat.reduceAdd, Nat.reduceSub, Nat.reduceMul, ↓reduceIte, Int.reduceLE, Int.reduceLT, Int.reduceNeg, Int.reduceToNat, Int.reduceAdd, Int.reduceSub, Int.reduceMul, reduceCtorEq, Try.results48]) | (with_reducible refine And.intro ?_ ?_) | (with_reducible intro _) | (refine pcall_fz q1 ?_; simp only [go_sem, Nat.reduceBEq, Nat.reduceLT, Nat.reduceLeDiff, Nat.reduceEqDiff, Nat.reduceAdd, Nat.reduceSub, Nat.reduceMul, ↓reduceIte, Int.reduceLE, Int.reduceLT, Int.reduceNeg, Int.reduceToNat, Int.reduceAdd, Int.reduceSub, Int.reduceMul, reduceCtorEq, Try.results48]) | (refine gcall_of (fun _ => q2) ?_; simp only [go_sem, Nat.reduceBEq, Nat.reduceLT, Nat.reduceLeDiff, Nat.reduceEqDiff, Nat.reduceAdd, Nat.reduceSub, Nat.reduceMul, ↓reduceIte, Int.reduceLE, Int.reduceLT, Int.reduceNeg, Int.reduceToNat, Int.reduceAdd, Int.reduceSub, Int.reduceMul, reduceCtorEq, Try.results48]) | (refine gcall_of (fun _ => q3) ?_; simp only [go_sem, Nat.reduceBEq, Nat.reduceLT, Nat.reduceLeDiff, Nat.reduceEqDiff, Nat.reduceAdd, Nat.reduceSub, Nat.reduceMul, ↓reduceIte, Int.reduceLE, Int.reduceLT, Int.reduceNeg, Int.reduceToNat, Int.reduceAdd, Int.reduceSub, Int.reduceMul, reduceCtorEq, Try.results48]) | (refine @Exists.intro I _ (I.d D.nil) ?_; simp only [go_sem, Nat.reduceBEq, Nat.reduceLT, Nat.reduceLeDiff, Nat.reduceEqDiff, Nat.reduceAdd, Nat.reduceSub, Nat.reduceMul, ↓reduceIte, Int.reduceLE, Int.reduceLT, Int.reduceNeg, Int.reduceToNat, Int.reduceAdd, Int.reduceSub, Int.reduceMul, reduceCtorEq, Try.results48]) | ((with_reducible (show Region.lexB _ _ = true)); kernel_rfl) | ((try rw [inK_i64]); omega)
  refine drawn_of (E := Try.env 0) Try.tok Try.follows 1000 1000 [] (.fst 0 (.fst 2 (.fst 4 (.fst 3 (.fst 5 (.fst 6 (.fst 7 (.three 1 (.two 8 (.one 9 (.fst 10 (.one 11 (.fst 12 (.done))))) 9 (.one 8 (.fst 10 (.one 11 (.fst 12 (.done)))))) 8 (.two 1 (.one 9 (.fst 10 (.one 11 (.fst 12 (.done))))) 9 (.one 1 (.fst 10 (.one 11 (.fst 12 (.done)))))) 9 (.two 1 (.one 8 (.fst 10 (.one 11 (.fst 12 (.done))))) 8 (.one 1 (.fst 10 (.one 11 (.fst 12 (.done)))))))))))))) (by kernel_rfl) ?_
  simp only [go_sem, Nat.reduceBEq, Nat.reduceLT, Nat.reduceLeDiff, Nat.reduceEqDiff, Nat.reduceAdd, Nat.reduceSub, Nat.reduceMul, ↓reduceIte, Int.reduceLE, Int.reduceLT, Int.reduceNeg, Int.reduceToNat, Int.reduceAdd, Int.reduceSub, Int.reduceMul, reduceCtorEq, Try.results48]
  repeat' first | assumption | (simp (disch := first | assumption | omega | (simp; done) | (simp; omega)) only [getD_bss, getD_iss, List.take_of_length_le, remV_pos]; try simp only [go_sem, Nat.reduceBEq, Nat.reduceLT, Nat.reduceLeDiff, Nat.reduceEqDiff, Nat.reduceAdd, Nat.reduceSub, Nat.reduceMul, ↓reduceIte, Int.reduceLE, Int.reduceLT, Int.reduceNeg, Int.reduceToNat, Int.reduceAdd, Int.reduceSub, Int.reduceMul, reduceCtorEq, Try.results48]) | (with_reducible refine And.intro ?_ ?_) | (with_reducible intro _) | (refine pcall_fz q4 ?_; simp only [go_sem, Nat.reduceBEq, Nat.reduceLT, Nat.reduceLeDiff, Nat.reduceEqDiff, Nat.reduceAdd, Nat.reduceSub, Nat.reduceMul, ↓reduceIte, Int.reduceLE, Int.reduceLT, Int.reduceNeg, Int.reduceToNat, Int.reduceAdd, Int.reduceSub, Int.reduceMul, reduceCtorEq, Try.results48]) | (refine @Exists.intro I _ (I.d D.nil) ?_; simp only [go_sem, Nat.reduceBEq, Nat.reduceLT, Nat.reduceLeDiff, Nat.reduceEqDiff, Nat.reduceAdd, Nat.reduceSub, Nat.reduceMul, ↓reduceIte, Int.reduceLE, Int.reduceLT, Int.reduceNeg, Int.reduceToNat, Int.reduceAdd, Int.reduceSub, Int.reduceMul, reduceCtorEq, Try.results48]) | ((with_reducible (show Region.lexB _ _ = true)); kernel_rfl) | ((try rw [inK_i64]); omega)
  all_goals first
    | (refine call_proc q5 [4, 2, 3] (by simp only [go_sem, Nat.reduceBEq, Nat.reduceLT, Nat.reduceLeDiff, Nat.reduceEqDiff, Nat.reduceAdd, Nat.reduceSub, Nat.reduceMul, ↓reduceIte, Int.reduceLE, Int.reduceLT, Int.reduceNeg, Int.reduceToNat, Int.reduceAdd, Int.reduceSub, Int.reduceMul, reduceCtorEq]; exact ⟨rfl, rfl⟩) ?_
       simp only [go_sem, Nat.reduceBEq, Nat.reduceLT, Nat.reduceLeDiff, Nat.reduceEqDiff, Nat.reduceAdd, Nat.reduceSub, Nat.reduceMul, ↓reduceIte, Int.reduceLE, Int.reduceLT, Int.reduceNeg, Int.reduceToNat, Int.reduceAdd, Int.reduceSub, Int.reduceMul, reduceCtorEq, Try.results48]
       repeat' first | assumption | (simp (disch := first | assumption | omega | (simp; done) | (simp; omega)) only [getD_bss, getD_iss, List.take_of_length_le, remV_pos]; try simp only [go_sem, Nat.reduceBEq, Nat.reduceLT, Nat.reduceLeDiff, Nat.reduceEqDiff, Nat.reduceAdd, Nat.reduceSub, Nat.reduceMul, ↓reduceIte, Int.reduceLE, Int.reduceLT, Int.reduceNeg, Int.reduceToNat, Int.reduceAdd, Int.reduceSub, Int.reduceMul, reduceCtorEq, Try.results48]) | (with_reducible refine And.intro ?_ ?_) | (with_reducible intro _) | (refine @Exists.intro I _ (I.d D.nil) ?_; simp only [go_sem, Nat.reduceBEq, Nat.reduceLT, Nat.reduceLeDiff, Nat.reduceEqDiff, Nat.reduceAdd, Nat.reduceSub, Nat.reduceMul, ↓reduceIte, Int.reduceLE, Int.reduceLT, Int.reduceNeg, Int.reduceToNat, Int.reduceAdd, Int.reduceSub, Int.reduceMul, reduceCtorEq, Try.results48]) | ((with_reducible (show Region.lexB _ _ = true)); kernel_rfl) | ((try rw [inK_i64]); omega))
    | (refine call_proc q5 [4, 3, 2] (by simp only [go_sem, Nat.reduceBEq, Nat.reduceLT, Nat.reduceLeDiff, Nat.reduceEqDiff, Nat.reduceAdd, Nat.reduceSub, Nat.reduceMul, ↓reduceIte, Int.reduceLE, Int.reduceLT, Int.reduceNeg, Int.reduceToNat, Int.reduceAdd, Int.reduceSub, Int.reduceMul, reduceCtorEq]; exact ⟨rfl, rfl⟩) ?_
       simp only [go_sem, Nat.reduceBEq, Nat.reduceLT, Nat.reduceLeDiff, Nat.reduceEqDiff, Nat.reduceAdd, Nat.reduceSub, Nat.reduceMul, ↓reduceIte, Int.reduceLE, Int.reduceLT, Int.reduceNeg, Int.reduceToNat, Int.reduceAdd, Int.reduceSub, Int.reduceMul, reduceCtorEq, Try.results48]
       repeat' first | assumption | (simp (disch := first | assumption | omega | (simp; done) | (simp; omega)) only [getD_bss, getD_iss, List.take_of_length_le, remV_pos]; try simp only [go_sem, Nat.reduceBEq, Nat.reduceLT, Nat.reduceLeDiff, Nat.reduceEqDiff, Nat.reduceAdd, Nat.reduceSub, Nat.reduceMul, ↓reduceIte, Int.reduceLE, Int.reduceLT, Int.reduceNeg, Int.reduceToNat, Int.reduceAdd, Int.reduceSub, Int.reduceMul, reduceCtorEq, Try.results48]) | (with_reducible refine And.intro ?_ ?_) | (with_reducible intro _) | (refine @Exists.intro I _ (I.d D.nil) ?_; simp only [go_sem, Nat.reduceBEq, Nat.reduceLT, Nat.reduceLeDiff, Nat.reduceEqDiff, Nat.reduceAdd, Nat.reduceSub, Nat.reduceMul, ↓reduceIte, Int.reduceLE, Int.reduceLT, Int.reduceNeg, Int.reduceToNat, Int.reduceAdd, Int.reduceSub, Int.reduceMul, reduceCtorEq, Try.results48]) | ((with_reducible (show Region.lexB _ _ = true)); kernel_rfl) | ((try rw [inK_i64]); omega))
/-! ### Decoders -/
def decTab (n v : Nat) : Bool :=
  let c := decC n v
  let r := bddOf c (c.outs.getD 0 0)
  decide (c.inputs = n) && decide (c.next.length = 0) && decide (c.outs.length = 1) && decide (cntB r.1 r.2 (2 ^ n) = 1) &&
  decide (2 ≤ r.1.length) && decide (r.1.length ≤ 20) && decide (0 ≤ r.2) && decide (r.2 < r.1.length) && decide (r.1.getD 0 (0, 0, 0) = (0, 0, 0)) && decide (r.1.getD 1 (0, 0, 0) = (0, 0, 0)) &&
  (List.range r.1.length).all (fun i => decide (i < 2) || (decide (0 ≤ (r.1.getD i (0, 0, 0)).1) && decide ((r.1.getD i (0, 0, 0)).1 < n) && decide (0 ≤ (r.1.getD i (0, 0, 0)).2.1) && decide ((r.1.getD i (0, 0, 0)).2.1 < i) && decide (0 ≤ (r.1.getD i (0, 0, 0)).2.2) && decide ((r.1.getD i (0, 0, 0)).2.2 < i) &&
    decide ((r.1.getD i (0, 0, 0)).2.1 ≠ (r.1.getD i (0, 0, 0)).2.2) && decide (1 < (r.1.getD i (0, 0, 0)).2.1 → (r.1.getD i (0, 0, 0)).1 < (r.1.getD (r.1.getD i (0, 0, 0)).2.1.toNat (0, 0, 0)).1) && decide (1 < (r.1.getD i (0, 0, 0)).2.2 → (r.1.getD i (0, 0, 0)).1 < (r.1.getD (r.1.getD i (0, 0, 0)).2.2.toNat (0, 0, 0)).1) &&
    (List.range r.1.length).all (fun j => decide (j ≤ i) || decide (r.1.getD i (0, 0, 0) ≠ r.1.getD j (0, 0, 0))))) &&
  (List.range (2 ^ n)).all (fun x => decide (litVs (values c [] (bitsOf x n)) c.outs = [decide (x = v)]))
theorem decTab1 : ∀ v, v < 2 → decTab 1 v = true := by decide +kernel
theorem decTab2 : ∀ v, v < 4 → decTab 2 v = true := by decide +kernel
theorem decValid1 : ∀ v, v < 2 → (decC (1 : Nat) (v : Nat)).Valid := by
  intro v hv
  obtain rfl | rfl : v = 0 ∨ v = 1 := by omega
  · constructor <;> decide +kernel
  · constructor <;> decide +kernel
theorem decValid2 : ∀ v, v < 4 → (decC (2 : Nat) (v : Nat)).Valid := by
  intro v hv
  obtain rfl | rfl | rfl | rfl : v = 0 ∨ v = 1 ∨ v = 2 ∨ v = 3 := by omega
  · constructor <;> decide +kernel
  · constructor <;> decide +kernel
  · constructor <;> decide +kernel
  · constructor <;> decide +kernel
structure DecDo (c : Circ) (n v : Nat) : Prop where
  hv : c.Valid
  hi : c.inputs = n
  hn : c.next = []
  ho : c.outs.length = 1
  hb : BddOk (bddOf c (c.outs.getD 0 0)).1 (bddOf c (c.outs.getD 0 0)).2
  hx : ∀ i, 2 ≤ i → i < (bddOf c (c.outs.getD 0 0)).1.length → ((bddOf c (c.outs.getD 0 0)).1.getD i (0, 0, 0)).1 < n
  hc : cntB (bddOf c (c.outs.getD 0 0)).1 (bddOf c (c.outs.getD 0 0)).2 (2 ^ n) = 1
  hf : ∀ x : Nat, x < 2 ^ n → litVs (values c [] (bitsOf x n)) c.outs = [decide (x = v)]
theorem decDo {n v : Nat} (hn : n = 1 ∨ n = 2) (hv : v < 2 ^ n) : DecDo (decC n v) n v := by
  have ht : decTab n v = true := by
    rcases hn with rfl | rfl
    · exact decTab1 v hv
    · exact decTab2 v hv
  have hvl : (decC n v).Valid := by
    rcases hn with rfl | rfl
    · exact decValid1 v hv
    · exact decValid2 v hv
  simp only [decTab, Bool.and_eq_true, decide_eq_true_eq, List.all_eq_true, List.mem_range, Bool.or_eq_true] at ht
  obtain ⟨⟨⟨⟨⟨⟨⟨⟨⟨⟨⟨a1, a2⟩, a3⟩, a4⟩, a5⟩, a6⟩, a7⟩, a8⟩, a9⟩, a10⟩, a11⟩, a12⟩ := ht
  refine ⟨hvl, a1, List.eq_nil_of_length_eq_zero a2, a3, ⟨⟨a5, a6⟩, ⟨a7, a8⟩, a9, a10, fun i h2 hi => ?_, fun i j h2 hij hj => ?_⟩, fun i h2 hi => ?_, a4, a12⟩
  · rcases a11 i hi with h | h
    · omega
    · obtain ⟨⟨⟨⟨⟨⟨⟨⟨⟨b1, b2⟩, b3⟩, b4⟩, b5⟩, b6⟩, b7⟩, b8⟩, b9⟩, b10⟩ := h
      exact ⟨b1, by omega, b3, b4, b5, b6, b7, b8, b9⟩
  · rcases a11 i (by omega) with h | h
    · omega
    · rcases h.2 j hj with h3 | h3
      · omega
      · exact h3
  · rcases a11 i hi with h | h
    · omega
    · exact h.1.1.1.1.1.1.1.1.2
theorem Try.c_DrawDecoder (code : List Int) : PureE Try.prog 44 [dUs code] (fun x => ∃ n v, x = .tup [dI n, dI v] ∧ -1 ≤ n ∧ n ≤ 3 ∧ -1 ≤ v ∧ v ≤ 5) := by
  refine pureE_of' (E := Try.env 0) Try.tok rfl 1000 Try.func44 rfl rfl Try.ntmps44 (by simp) fun ok => ?_
  simp only [go_sem, Nat.reduceBEq, Nat.reduceLT, Nat.reduceLeDiff, Nat.reduceEqDiff, Nat.reduceAdd, Nat.reduceSub, Nat.reduceMul, ↓reduceIte, Int.reduceLE, Int.reduceLT, Int.reduceNeg, Int.reduceToNat, Int.reduceAdd, Int.reduceSub, Int.reduceMul, reduceCtorEq] at ok
  simp only [go_sem, Nat.reduceBEq, Nat.reduceLT, Nat.reduceLeDiff, Nat.reduceEqDiff, Nat.reduceAdd, Nat.reduceSub, Nat.reduceMul, ↓reduceIte, Int.reduceLE, Int.reduceLT, Int.reduceNeg, Int.reduceToNat, Int.reduceAdd, Int.reduceSub, Int.reduceMul, reduceCtorEq, Try.results44]
  refine call_proc (Try.c_l20Open code) [] (by simp only [go_sem, Nat.reduceBEq, Nat.reduceLT, Nat.reduceLeDiff, Nat.reduceEqDiff, Nat.reduceAdd, Nat.reduceSub, Nat.reduceMul, ↓reduceIte, Int.reduceLE, Int.reduceLT, Int.reduceNeg, Int.reduceToNat, Int.reduceAdd, Int.reduceSub, Int.reduceMul, reduceCtorEq]) ?_
  simp only [go_sem, Nat.reduceBEq, Nat.reduceLT, Nat.reduceLeDiff, Nat.reduceEqDiff, Nat.reduceAdd, Nat.reduceSub, Nat.reduceMul, ↓reduceIte, Int.reduceLE, Int.reduceLT, Int.reduceNeg, Int.reduceToNat, Int.reduceAdd, Int.reduceSub, Int.reduceMul, reduceCtorEq, Try.results44]
  refine call_icall (Try.c_pick _ 0 5 (Try.bytes_of ok.2 2000) (by omega)) [0] (by simp only [go_sem, Nat.reduceBEq, Nat.reduceLT, Nat.reduceLeDiff, Nat.reduceEqDiff, Nat.reduceAdd, Nat.reduceSub, Nat.reduceMul, ↓reduceIte, Int.reduceLE, Int.reduceLT, Int.reduceNeg, Int.reduceToNat, Int.reduceAdd, Int.reduceSub, Int.reduceMul, reduceCtorEq]) ?_
  rintro r0 H1 ⟨x, hx, rfl, rfl⟩
  simp only [go_sem, Nat.reduceBEq, Nat.reduceLT, Nat.reduceLeDiff, Nat.reduceEqDiff, Nat.reduceAdd, Nat.reduceSub, Nat.reduceMul, ↓reduceIte, Int.reduceLE, Int.reduceLT, Int.reduceNeg, Int.reduceToNat, Int.reduceAdd, Int.reduceSub, Int.reduceMul, reduceCtorEq, Try.results44]
  refine ⟨by rw [inK_i64]; omega, ?_⟩
  refine call_icall (Try.c_pick _ 1 7 (Try.bytes_of ok.2 2000) (by omega)) [0] (by simp only [go_sem, Nat.reduceBEq, Nat.reduceLT, Nat.reduceLeDiff, Nat.reduceEqDiff, Nat.reduceAdd, Nat.reduceSub, Nat.reduceMul, ↓reduceIte, Int.reduceLE, Int.reduceLT, Int.reduceNeg, Int.reduceToNat, Int.reduceAdd, Int.reduceSub, Int.reduceMul, reduceCtorEq]) ?_
  rintro r0 H1 ⟨y, hy, rfl, rfl⟩
  simp only [go_sem, Nat.reduceBEq, Nat.reduceLT, Nat.reduceLeDiff, Nat.reduceEqDiff, Nat.reduceAdd, Nat.reduceSub, Nat.reduceMul, ↓reduceIte, Int.reduceLE, Int.reduceLT, Int.reduceNeg, Int.reduceToNat, Int.reduceAdd, Int.reduceSub, Int.reduceMul, reduceCtorEq, Try.results44]
  refine ⟨by rw [inK_i64]; omega, ?_⟩
  exact ⟨.tup [dI (x - 1), dI (y - 1)], by rw [wk_self]; trivial, _, _, rfl, by omega, by omega, by omega, by omega⟩
set_option maxHeartbeats 1000000 in
theorem Try.c_FnDecoder (code : List Int) : Pure Try.prog 9 [dUs code] (.bool true) := by
  refine pure_of' (E := Try.env 0) Try.tok rfl 1000 Try.func9 rfl rfl Try.ntmps9 (by simp) fun ok => ?_
  simp only [go_sem, Nat.reduceBEq, Nat.reduceLT, Nat.reduceLeDiff, Nat.reduceEqDiff, Nat.reduceAdd, Nat.reduceSub, Nat.reduceMul, ↓reduceIte, Int.reduceLE, Int.reduceLT, Int.reduceNeg, Int.reduceToNat, Int.reduceAdd, Int.reduceSub, Int.reduceMul, reduceCtorEq] at ok
  simp only [go_sem, Nat.reduceBEq, Nat.reduceLT, Nat.reduceLeDiff, Nat.reduceEqDiff, Nat.reduceAdd, Nat.reduceSub, Nat.reduceMul, ↓reduceIte, Int.reduceLE, Int.reduceLT, Int.reduceNeg, Int.reduceToNat, Int.reduceAdd, Int.reduceSub, Int.reduceMul, reduceCtorEq, Try.results9]
  refine fun h0 => ?_
  refine pcallE_fz (Try.c_DrawDecoder code) ?_
  rintro x ⟨n, v, rfl, hn0, hn1, hv0, hv1⟩
  simp only [go_sem, Nat.reduceBEq, Nat.reduceLT, Nat.reduceLeDiff, Nat.reduceEqDiff, Nat.reduceAdd, Nat.reduceSub, Nat.reduceMul, ↓reduceIte, Int.reduceLE, Int.reduceLT, Int.reduceNeg, Int.reduceToNat, Int.reduceAdd, Int.reduceSub, Int.reduceMul, reduceCtorEq, Try.results9]
  refine pcall_fz (Try.c_Decoder n v) ?_
  simp only [go_sem, Nat.reduceBEq, Nat.reduceLT, Nat.reduceLeDiff, Nat.reduceEqDiff, Nat.reduceAdd, Nat.reduceSub, Nat.reduceMul, ↓reduceIte, Int.reduceLE, Int.reduceLT, Int.reduceNeg, Int.reduceToNat, Int.reduceAdd, Int.reduceSub, Int.reduceMul, reduceCtorEq, Try.results9]
  refine drawn_of (E := Try.env 0) Try.tok Try.follows 1000 1000 [] (.fst 1 (.fst 2 (.fst 0 (.one 3 (.one 4 (.fst 5 (.done))))))) (by kernel_rfl) ?_
  simp only [go_sem, Nat.reduceBEq, Nat.reduceLT, Nat.reduceLeDiff, Nat.reduceEqDiff, Nat.reduceAdd, Nat.reduceSub, Nat.reduceMul, ↓reduceIte, Int.reduceLE, Int.reduceLT, Int.reduceNeg, Int.reduceToNat, Int.reduceAdd, Int.reduceSub, Int.reduceMul, reduceCtorEq, Try.results9]
  have hp : ∀ m : Int, 1 ≤ m → m ≤ 2 → (2 : Int) ^ m.toNat = 2 * m := by
    intro m h1 h2
    obtain rfl | rfl : m = 1 ∨ m = 2 := by omega
    · rfl
    · rfl
  by_cases hnb : n < 1 ∨ 2 < n ∨ v < 0 ∨ 2 ^ n.toNat ≤ v
  · have hz : decC n v = Circ.zero := by rw [decC, if_pos hnb]
    rw [hz]
    have hw : wkT [dC Circ.zero, D.agg [dI 0, .nil, .nil, .nil]] [dC Circ.zero, dC Circ.zero] := ⟨wk2_self, ⟨rfl, ⟨by decide, rfl⟩, ⟨by decide, rfl⟩, ⟨by decide, rfl⟩, trivial⟩, trivial⟩
    have hsc := Try.c_sDecoder n v
    rw [hz] at hsc
    repeat' first | assumption | (simp (disch := first | assumption | omega | (simp; done) | (simp; omega)) only [getD_bss, getD_iss, List.take_of_length_le, remV_pos]; try simp only [go_sem, Nat.reduceBEq, Nat.reduceLT, Nat.reduceLeDiff, Nat.reduceEqDiff, Nat.reduceAdd, Nat.reduceSub, Nat.reduceMul, ↓reduceIte, Int.reduceLE, Int.reduceLT, Int.reduceNeg, Int.reduceToNat, Int.reduceAdd, Int.reduceSub, Int.reduceMul, reduceCtorEq, Try.results9]) | (with_reducible refine And.intro ?_ ?_) | (with_reducible intro _) | (refine fcall_of hsc ?_; simp only [go_sem, Nat.reduceBEq, Nat.reduceLT, Nat.reduceLeDiff, Nat.reduceEqDiff, Nat.reduceAdd, Nat.reduceSub, Nat.reduceMul, ↓reduceIte, Int.reduceLE, Int.reduceLT, Int.reduceNeg, Int.reduceToNat, Int.reduceAdd, Int.reduceSub, Int.reduceMul, reduceCtorEq, Try.results9]) | (refine pcall_fz (Try.c_sameCircuit _ _) ?_; simp only [go_sem, Nat.reduceBEq, Nat.reduceLT, Nat.reduceLeDiff, Nat.reduceEqDiff, Nat.reduceAdd, Nat.reduceSub, Nat.reduceMul, ↓reduceIte, Int.reduceLE, Int.reduceLT, Int.reduceNeg, Int.reduceToNat, Int.reduceAdd, Int.reduceSub, Int.reduceMul, reduceCtorEq, Try.results9]) | (refine pcall_fz ((Try.c_sameCircuit _ _).wk hw) ?_; simp only [go_sem, Nat.reduceBEq, Nat.reduceLT, Nat.reduceLeDiff, Nat.reduceEqDiff, Nat.reduceAdd, Nat.reduceSub, Nat.reduceMul, ↓reduceIte, Int.reduceLE, Int.reduceLT, Int.reduceNeg, Int.reduceToNat, Int.reduceAdd, Int.reduceSub, Int.reduceMul, reduceCtorEq, Try.results9]) | (refine gcall_of (fun _ => Try.c_alive) ?_; simp only [go_sem, Nat.reduceBEq, Nat.reduceLT, Nat.reduceLeDiff, Nat.reduceEqDiff, Nat.reduceAdd, Nat.reduceSub, Nat.reduceMul, ↓reduceIte, Int.reduceLE, Int.reduceLT, Int.reduceNeg, Int.reduceToNat, Int.reduceAdd, Int.reduceSub, Int.reduceMul, reduceCtorEq, Try.results9]) | (refine @Exists.intro I _ (I.d D.nil) ?_; simp only [go_sem, Nat.reduceBEq, Nat.reduceLT, Nat.reduceLeDiff, Nat.reduceEqDiff, Nat.reduceAdd, Nat.reduceSub, Nat.reduceMul, ↓reduceIte, Int.reduceLE, Int.reduceLT, Int.reduceNeg, Int.reduceToNat, Int.reduceAdd, Int.reduceSub, Int.reduceMul, reduceCtorEq, Try.results9]) | ((with_reducible (show Region.lexB _ _ = true)); kernel_rfl) | ((try rw [inK_i64]); omega)
    all_goals (rw [hp n (by omega) (by omega), inK_i64]; omega)
  · obtain ⟨m, rfl⟩ : ∃ m : Nat, n = m := ⟨n.toNat, by omega⟩
    obtain ⟨w, rfl⟩ : ∃ w : Nat, v = w := ⟨v.toNat, by omega⟩
    have hP : (2 : Int) ^ m = ((2 ^ m : Nat) : Int) := by simp
    have hwm : w < 2 ^ m := by rw [Int.toNat_natCast, hP] at hnb; omega
    have hmm : m = 1 ∨ m = 2 := by omega
    have hPb : 2 ^ m ≤ 4 := by rcases hmm with rfl | rfl <;> decide
    have hd := decDo hmm hwm
    have hsc := Try.c_sDecoder m w
    generalize decC m w = c at *
    repeat' first | assumption | (simp (disch := first | assumption | omega | (simp; done) | (simp; omega)) only [getD_bss, getD_iss, List.take_of_length_le, remV_pos]; try simp only [go_sem, Nat.reduceBEq, Nat.reduceLT, Nat.reduceLeDiff, Nat.reduceEqDiff, Nat.reduceAdd, Nat.reduceSub, Nat.reduceMul, ↓reduceIte, Int.reduceLE, Int.reduceLT, Int.reduceNeg, Int.reduceToNat, Int.reduceAdd, Int.reduceSub, Int.reduceMul, reduceCtorEq, Try.results9, hP]) | (with_reducible refine And.intro ?_ ?_) | (with_reducible intro _) | (refine fcall_of hsc ?_; simp only [go_sem, Nat.reduceBEq, Nat.reduceLT, Nat.reduceLeDiff, Nat.reduceEqDiff, Nat.reduceAdd, Nat.reduceSub, Nat.reduceMul, ↓reduceIte, Int.reduceLE, Int.reduceLT, Int.reduceNeg, Int.reduceToNat, Int.reduceAdd, Int.reduceSub, Int.reduceMul, reduceCtorEq, Try.results9, hP]) | (refine pcall_fz (Try.c_sameCircuit _ _) ?_; simp only [go_sem, Nat.reduceBEq, Nat.reduceLT, Nat.reduceLeDiff, Nat.reduceEqDiff, Nat.reduceAdd, Nat.reduceSub, Nat.reduceMul, ↓reduceIte, Int.reduceLE, Int.reduceLT, Int.reduceNeg, Int.reduceToNat, Int.reduceAdd, Int.reduceSub, Int.reduceMul, reduceCtorEq, Try.results9, hP]) | (refine @Exists.intro I _ (I.d D.nil) ?_; simp only [go_sem, Nat.reduceBEq, Nat.reduceLT, Nat.reduceLeDiff, Nat.reduceEqDiff, Nat.reduceAdd, Nat.reduceSub, Nat.reduceMul, ↓reduceIte, Int.reduceLE, Int.reduceLT, Int.reduceNeg, Int.reduceToNat, Int.reduceAdd, Int.reduceSub, Int.reduceMul, reduceCtorEq, Try.results9, hP]) | ((with_reducible (show Region.lexB _ _ = true)); kernel_rfl) | ((try rw [inK_i64]); omega)
    have hcn : c.next.length = 0 := by rw [hd.hn]; rfl
    have hol : c.outs.getD 0 0 = c.outs.getD 0 0 := rfl
    have hlo : litOk (c.outs.getD 0 0) c.vars := hd.hv.o _ (getD_mem' (by rw [hd.ho]; omega))
    have hcl := hd.ho
    have hbd := Try.c_BuildBdd c hd.hv (c.outs.getD 0 0) hlo
    have hct := Try.c_CountBdd (bddOf c (c.outs.getD 0 0)).1 (bddOf c (c.outs.getD 0 0)).2 m hd.hb (by omega) hd.hx
    rw [hd.hc] at hct
    generalize bddOf c (c.outs.getD 0 0) = r at *
    refine loop_of (E := Try.env 0) Try.tok (σ := Nat) (fun i => [(0, .d (dUs code)), (3, .d (dI m)), (4, .d (dI w)), (5, .ptr 0 0), (6, .d (dI i))]) (fun _ => [.box [.d (dI c.inputs), .d (dIs c.next), .d (dPs c.gates), .d (dIs c.outs)]]) (fun i => i ≤ 2 ^ m) (fun i => 2 ^ m - i) [] 1000 1000 ?_ ?_ ?_
    · simp only [go_sem, Nat.reduceBEq, Nat.reduceLT, Nat.reduceLeDiff, Nat.reduceEqDiff, Nat.reduceAdd, Nat.reduceSub, Nat.reduceMul, ↓reduceIte, Int.reduceLE, Int.reduceLT, Int.reduceNeg, Int.reduceToNat, Int.reduceAdd, Int.reduceSub, Int.reduceMul, reduceCtorEq]
    · simp only [go_sem, Nat.reduceBEq, Nat.reduceLT, Nat.reduceLeDiff, Nat.reduceEqDiff, Nat.reduceAdd, Nat.reduceSub, Nat.reduceMul, ↓reduceIte, Int.reduceLE, Int.reduceLT, Int.reduceNeg, Int.reduceToNat, Int.reduceAdd, Int.reduceSub, Int.reduceMul, reduceCtorEq]
      exact ⟨0, by omega, rfl⟩
    · intro i hi
      by_cases hlt : i < 2 ^ m
      · have hbl : (bitsOf (i : Int) m).length = m := by simp [bitsOf]
        have hb := Try.c_bits (i : Int) m (by omega) (by omega)
        rw [Int.toNat_natCast] at hb
        have hst := Try.c_Step c [] (bitsOf (i : Int) m) hd.hv (by rw [hcn]; rfl) (by rw [hbl, hd.hi])
        rw [hd.hf i hlt] at hst
        have fin : ∃ s', s' ≤ 2 ^ m ∧ 2 ^ m - s' < 2 ^ m - i ∧ i + 1 = s' := ⟨i + 1, by omega, by omega, rfl⟩
        simp only [go_sem, Nat.reduceBEq, Nat.reduceLT, Nat.reduceLeDiff, Nat.reduceEqDiff, Nat.reduceAdd, Nat.reduceSub, Nat.reduceMul, ↓reduceIte, Int.reduceLE, Int.reduceLT, Int.reduceNeg, Int.reduceToNat, Int.reduceAdd, Int.reduceSub, Int.reduceMul, reduceCtorEq, Try.results9, hP]
        repeat' first | assumption | (simp (disch := first | assumption | omega | (simp; done) | (simp; omega)) only [getD_bss, getD_iss, List.take_of_length_le, remV_pos]; try simp only [go_sem, Nat.reduceBEq, Nat.reduceLT, Nat.reduceLeDiff, Nat.reduceEqDiff, Nat.reduceAdd, Nat.reduceSub, Nat.reduceMul, ↓reduceIte, Int.reduceLE, Int.reduceLT, Int.reduceNeg, Int.reduceToNat, Int.reduceAdd, Int.reduceSub, Int.reduceMul, reduceCtorEq, Try.results9, hP]) | (with_reducible refine And.intro ?_ ?_) | (with_reducible intro _) | (refine @Exists.intro I _ (I.d D.nil) ?_; simp only [go_sem, Nat.reduceBEq, Nat.reduceLT, Nat.reduceLeDiff, Nat.reduceEqDiff, Nat.reduceAdd, Nat.reduceSub, Nat.reduceMul, ↓reduceIte, Int.reduceLE, Int.reduceLT, Int.reduceNeg, Int.reduceToNat, Int.reduceAdd, Int.reduceSub, Int.reduceMul, reduceCtorEq, Try.results9, hP]) | ((with_reducible (show Region.lexB _ _ = true)); kernel_rfl) | ((try rw [inK_i64]); omega)
        refine drawn_of (E := Try.env 0) Try.tok Try.follows 1000 1000 [] (.fst 2 (.fst 3 (.fst 9 (.fst 10 (.fst 11 (.fst 0 (.two 1 (.one 4 (.one 5 (.fst 6 (.fst 7 (.one 8 (.fst 12 (.done))))))) 4 (.one 1 (.one 5 (.fst 6 (.fst 7 (.one 8 (.fst 12 (.done)))))))))))))) (by kernel_rfl) ?_
        simp only [go_sem, Nat.reduceBEq, Nat.reduceLT, Nat.reduceLeDiff, Nat.reduceEqDiff, Nat.reduceAdd, Nat.reduceSub, Nat.reduceMul, ↓reduceIte, Int.reduceLE, Int.reduceLT, Int.reduceNeg, Int.reduceToNat, Int.reduceAdd, Int.reduceSub, Int.reduceMul, reduceCtorEq, Try.results9, hP]
        repeat' first | assumption | (simp (disch := first | assumption | omega | (simp; done) | (simp; omega)) only [getD_bss, getD_iss, List.take_of_length_le, remV_pos]; try simp only [go_sem, Nat.reduceBEq, Nat.reduceLT, Nat.reduceLeDiff, Nat.reduceEqDiff, Nat.reduceAdd, Nat.reduceSub, Nat.reduceMul, ↓reduceIte, Int.reduceLE, Int.reduceLT, Int.reduceNeg, Int.reduceToNat, Int.reduceAdd, Int.reduceSub, Int.reduceMul, reduceCtorEq, Try.results9, hP]) | (with_reducible refine And.intro ?_ ?_) | (with_reducible intro _) | (refine pcall_fz hb ?_; simp only [go_sem, Nat.reduceBEq, Nat.reduceLT, Nat.reduceLeDiff, Nat.reduceEqDiff, Nat.reduceAdd, Nat.reduceSub, Nat.reduceMul, ↓reduceIte, Int.reduceLE, Int.reduceLT, Int.reduceNeg, Int.reduceToNat, Int.reduceAdd, Int.reduceSub, Int.reduceMul, reduceCtorEq, Try.results9, hP]) | (refine pcall_fz hst ?_; simp only [go_sem, Nat.reduceBEq, Nat.reduceLT, Nat.reduceLeDiff, Nat.reduceEqDiff, Nat.reduceAdd, Nat.reduceSub, Nat.reduceMul, ↓reduceIte, Int.reduceLE, Int.reduceLT, Int.reduceNeg, Int.reduceToNat, Int.reduceAdd, Int.reduceSub, Int.reduceMul, reduceCtorEq, Try.results9, hP]) | (refine @Exists.intro I _ (I.d D.nil) ?_; simp only [go_sem, Nat.reduceBEq, Nat.reduceLT, Nat.reduceLeDiff, Nat.reduceEqDiff, Nat.reduceAdd, Nat.reduceSub, Nat.reduceMul, ↓reduceIte, Int.reduceLE, Int.reduceLT, Int.reduceNeg, Int.reduceToNat, Int.reduceAdd, Int.reduceSub, Int.reduceMul, reduceCtorEq, Try.results9, hP]) | ((with_reducible (show Region.lexB _ _ = true)); kernel_rfl) | ((try rw [inK_i64]); omega)
      · simp only [go_sem, Nat.reduceBEq, Nat.reduceLT, Nat.reduceLeDiff, Nat.reduceEqDiff, Nat.reduceAdd, Nat.reduceSub, Nat.reduceMul, ↓reduceIte, Int.reduceLE, Int.reduceLT, Int.reduceNeg, Int.reduceToNat, Int.reduceAdd, Int.reduceSub, Int.reduceMul, reduceCtorEq, Try.results9, hP]
        repeat' first | assumption | (simp (disch := first | assumption | omega | (simp; done) | (simp; omega)) only [getD_bss, getD_iss, List.take_of_length_le, remV_pos]; try simp only [go_sem, Nat.reduceBEq, Nat.reduceLT, Nat.reduceLeDiff, Nat.reduceEqDiff, Nat.reduceAdd, Nat.reduceSub, Nat.reduceMul, ↓reduceIte, Int.reduceLE, Int.reduceLT, Int.reduceNeg, Int.reduceToNat, Int.reduceAdd, Int.reduceSub, Int.reduceMul, reduceCtorEq, Try.results9, hP]) | (with_reducible refine And.intro ?_ ?_) | (with_reducible intro _) | (refine @Exists.intro I _ (I.d D.nil) ?_; simp only [go_sem, Nat.reduceBEq, Nat.reduceLT, Nat.reduceLeDiff, Nat.reduceEqDiff, Nat.reduceAdd, Nat.reduceSub, Nat.reduceMul, ↓reduceIte, Int.reduceLE, Int.reduceLT, Int.reduceNeg, Int.reduceToNat, Int.reduceAdd, Int.reduceSub, Int.reduceMul, reduceCtorEq, Try.results9, hP]) | ((with_reducible (show Region.lexB _ _ = true)); kernel_rfl) | ((try rw [inK_i64]); omega)
        refine drawn_of (E := Try.env 0) Try.tok Try.follows 1000 1000 [] (.fst 1 (.fst 6 (.fst 0 (.fst 2 (.fst 3 (.fst 4 (.one 5 (.one 7 (.fst 8 (.fst 9 (.done))))))))))) (by kernel_rfl) ?_
        simp only [go_sem, Nat.reduceBEq, Nat.reduceLT, Nat.reduceLeDiff, Nat.reduceEqDiff, Nat.reduceAdd, Nat.reduceSub, Nat.reduceMul, ↓reduceIte, Int.reduceLE, Int.reduceLT, Int.reduceNeg, Int.reduceToNat, Int.reduceAdd, Int.reduceSub, Int.reduceMul, reduceCtorEq, Try.results9, hP]
        repeat' first | assumption | (simp (disch := first | assumption | omega | (simp; done) | (simp; omega)) only [getD_bss, getD_iss, List.take_of_length_le, remV_pos]; try simp only [go_sem, Nat.reduceBEq, Nat.reduceLT, Nat.reduceLeDiff, Nat.reduceEqDiff, Nat.reduceAdd, Nat.reduceSub, Nat.reduceMul, ↓reduceIte, Int.reduceLE, Int.reduceLT, Int.reduceNeg, Int.reduceToNat, Int.reduceAdd, Int.reduceSub, Int.reduceMul, reduceCtorEq, Try.results9, hP]) | (with_reducible refine And.intro ?_ ?_) | (with_reducible intro _) | (refine pcall_fz hbd ?_; simp only [go_sem, Nat.reduceBEq, Nat.reduceLT, Nat.reduceLeDiff, Nat.reduceEqDiff, Nat.reduceAdd, Nat.reduceSub, Nat.reduceMul, ↓reduceIte, Int.reduceLE, Int.reduceLT, Int.reduceNeg, Int.reduceToNat, Int.reduceAdd, Int.reduceSub, Int.reduceMul, reduceCtorEq, Try.results9, hP]) | (refine pcall_fz hct ?_; simp only [go_sem, Nat.reduceBEq, Nat.reduceLT, Nat.reduceLeDiff, Nat.reduceEqDiff, Nat.reduceAdd, Nat.reduceSub, Nat.reduceMul, ↓reduceIte, Int.reduceLE, Int.reduceLT, Int.reduceNeg, Int.reduceToNat, Int.reduceAdd, Int.reduceSub, Int.reduceMul, reduceCtorEq, Try.results9, hP]) | (refine @Exists.intro I _ (I.d D.nil) ?_; simp only [go_sem, Nat.reduceBEq, Nat.reduceLT, Nat.reduceLeDiff, Nat.reduceEqDiff, Nat.reduceAdd, Nat.reduceSub, Nat.reduceMul, ↓reduceIte, Int.reduceLE, Int.reduceLT, Int.reduceNeg, Int.reduceToNat, Int.reduceAdd, Int.reduceSub, Int.reduceMul, reduceCtorEq, Try.results9, hP]) | ((with_reducible (show Region.lexB _ _ = true)); kernel_rfl) | ((try rw [inK_i64]); omega)
end Go.Proofs
