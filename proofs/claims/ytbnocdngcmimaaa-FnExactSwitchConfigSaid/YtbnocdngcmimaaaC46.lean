/- Contracts: configurations and frames that are marked. Conditions: none; lemmas. -/
import Derived.Test.YtbnocdngcmimaaaC45
import Derived.Test.YtbnocdngcmimaaaC2
set_option maxRecDepth 20000
set_option linter.unusedVariables false
set_option linter.unusedSimpArgs false
namespace Go.Proofs
open Go Go.VL

def mI (k : Int) (n : Nat) : List Int := (List.range n).map fun (j : Nat) => k + (j : Int)
theorem mI_len (k : Int) (n : Nat) : (mI k n).length = n := by simp [mI]
def mTile (t : Tcfg) (k : Int) : Tcfg := ⟨k, mI (k + 1) t.select.length, decide ((k + 1 + t.select.length) % 3 = 0), mI (k + 1 + t.select.length + 1) t.drive.length⟩
def wM (t : Tcfg) : Nat := 2 + t.select.length + t.drive.length
def mTs (l : List Tcfg) (k : Int) : List Tcfg := (List.range l.length).map fun j => mTile (l.getD j tc0) (k + (sumB wM (l.take j) : Int))
theorem mTs_len (l : List Tcfg) (k : Int) : (mTs l k).length = l.length := by simp [mTs]
theorem mTs_get (l : List Tcfg) (k : Int) {j : Nat} (h : j < l.length) : (mTs l k).getD j tc0 = mTile (l.getD j tc0) (k + (sumB wM (l.take j) : Int)) := by simp [mTs, List.getD, h]
theorem set_tcs {b : List Tcfg} {i : Nat} {t : Tcfg} : (b.map fun x => dTc x).set i (dTc t) = (b.set i t).map fun x => dTc x := by rw [List.map_set]
theorem getD_set_same {α : Type} {l : List α} {i : Nat} {x z : α} (h : i < l.length) : (l.set i x).getD i z = x := by simp [List.getD, h]
theorem getD_set_other {α : Type} {l : List α} {i j : Nat} {x z : α} (h : i ≠ j) : (l.set i x).getD j z = l.getD j z := by simp [List.getD, List.getElem?_set, h]
--@walk getD_tc, getD_q, getD_fp, getD_set_same
theorem Try.c_markTileConfigS (g : Nat) (l : List Tcfg) (k : Int) (hk : 0 ≤ k ∧ k + sumB wM l ≤ 1000000000000) (hl : l.length ≤ 1000000000000) :
    ICall Try.prog 68 [.sl 0 g 4 0 l.length, .d (dI k)] [.row g 4 true (l.map fun x => dTc x)] (fun r H' => r = .d (dI (k + (sumB wM l : Int))) ∧ H' = [.row g 4 true ((mTs l k).map fun x => dTc x)]) := by
  refine icall_of' (E := Try.env 1) Try.tok rfl 1000 Try.func68 rfl rfl Try.ntmps68 (by simp) ?_
  simp only [go_sem, Nat.reduceBEq, Nat.reduceLT, Nat.reduceLeDiff, Nat.reduceEqDiff, Nat.reduceAdd, Nat.reduceSub, Nat.reduceMul, ↓reduceIte, Int.reduceLE, Int.reduceLT, Int.reduceNeg, Int.reduceToNat, Int.reduceAdd, Int.reduceSub, Int.reduceMul, reduceCtorEq, Try.results68]
  refine loop_of5 (E := Try.env 1) Try.tok (σ := Nat × List Tcfg) (fun s => [(0, .sl 0 g 4 0 l.length), (1, .d (dI (k + (sumB wM (l.take s.1) : Int)))), (5, .d (dI s.1))]) (fun s => [.row g 4 true (s.2.map fun x => dTc x)]) (fun s => s.1 ≤ l.length ∧ s.2.length = l.length ∧ (∀ (j : Nat), j < s.1 → s.2.getD j tc0 = mTile (l.getD j tc0) (k + (sumB wM (l.take j) : Int))) ∧ ∀ (j : Nat), s.1 ≤ j → s.2.getD j tc0 = l.getD j tc0) (fun s => l.length - s.1) [] [] 1000 1000 ?_ ?_
  · simp only [go_sem, Nat.reduceBEq, Nat.reduceLT, Nat.reduceLeDiff, Nat.reduceEqDiff, Nat.reduceAdd, Nat.reduceSub, Nat.reduceMul, ↓reduceIte, Int.reduceLE, Int.reduceLT, Int.reduceNeg, Int.reduceToNat, Int.reduceAdd, Int.reduceSub, Int.reduceMul, reduceCtorEq]
    exact ⟨(0, l), ⟨by omega, rfl, fun j hj => absurd hj (by simp), fun j hj => rfl⟩, by simp [sumB]⟩
  · rintro ⟨i, b⟩ ⟨hi, hb, hlo, hhi⟩
    simp only at hi hb hlo hhi
    by_cases hlt : i < l.length
    · have e1 := sumB_take (f := wM) tc0 hlt
      have e2 := sumB_le (f := wM) (l := l) (i + 1)
      have e3 : wM (l.getD i tc0) = 2 + (l.getD i tc0).select.length + (l.getD i tc0).drive.length := rfl
      have e4 := hhi i (by omega)
      have hnext : ∃ s' : Nat × List Tcfg, (s'.1 ≤ l.length ∧ s'.2.length = l.length ∧ (∀ (j : Nat), j < s'.1 → s'.2.getD j tc0 = mTile (l.getD j tc0) (k + (sumB wM (l.take j) : Int))) ∧ ∀ (j : Nat), s'.1 ≤ j → s'.2.getD j tc0 = l.getD j tc0) ∧ s'.1 = i + 1 ∧
          s'.2 = b.set i (mTile (l.getD i tc0) (k + (sumB wM (l.take i) : Int))) := by
        refine ⟨(i + 1, b.set i (mTile (l.getD i tc0) (k + (sumB wM (l.take i) : Int)))), ⟨by omega, by simpa using hb, fun j hj => ?_, fun j hj => ?_⟩, rfl, rfl⟩
        · simp only at hj ⊢
          by_cases hji : j = i
          · subst hji; rw [getD_set_same (by omega)]
          · rw [getD_set_other (Ne.symm hji)]; exact hlo j (by omega)
        · simp only at hj ⊢
          rw [getD_set_other (by omega)]; exact hhi j (by omega)
      generalize hkk : k + (sumB wM (l.take i) : Int) = kk at *
      generalize l.getD i tc0 = t at *
      have hr := remV_pos (y := 3) (show (0 : Int) ≤ kk + 1 + t.select.length by omega)
      simp only [go_sem, Nat.reduceBEq, Nat.reduceLT, Nat.reduceLeDiff, Nat.reduceEqDiff, Nat.reduceAdd, Nat.reduceSub, Nat.reduceMul, ↓reduceIte, Int.reduceLE, Int.reduceLT, Int.reduceNeg, Int.reduceToNat, Int.reduceAdd, Int.reduceSub, Int.reduceMul, reduceCtorEq, Try.results68]
      repeat' first | assumption | (simp (disch := first | assumption | omega | (simp; done) | (simp; omega)) only [getD_bss, getD_iss, List.take_of_length_le, remV_pos, getD_tc, getD_q, getD_fp, getD_set_same]; try simp only [go_sem, Nat.reduceBEq, Nat.reduceLT, Nat.reduceLeDiff, Nat.reduceEqDiff, Nat.reduceAdd, Nat.reduceSub, Nat.reduceMul, ↓reduceIte, Int.reduceLE, Int.reduceLT, Int.reduceNeg, Int.reduceToNat, Int.reduceAdd, Int.reduceSub, Int.reduceMul, reduceCtorEq, Try.results68, e4]) | (with_reducible refine And.intro ?_ ?_) | (with_reducible intro _) | (refine @Exists.intro I _ (I.d D.nil) ?_; simp only [go_sem, Nat.reduceBEq, Nat.reduceLT, Nat.reduceLeDiff, Nat.reduceEqDiff, Nat.reduceAdd, Nat.reduceSub, Nat.reduceMul, ↓reduceIte, Int.reduceLE, Int.reduceLT, Int.reduceNeg, Int.reduceToNat, Int.reduceAdd, Int.reduceSub, Int.reduceMul, reduceCtorEq, Try.results68, e4]) | ((with_reducible (show Region.lexB _ _ = true)); kernel_rfl) | ((try rw [inK_i64]); omega)
      refine call_proc (Try.c_markIntS 1 t.select (kk + 1) (by omega) (by omega)) [1] (by simp only [go_sem, Nat.reduceBEq, Nat.reduceLT, Nat.reduceLeDiff, Nat.reduceEqDiff, Nat.reduceAdd, Nat.reduceSub, Nat.reduceMul, ↓reduceIte, Int.reduceLE, Int.reduceLT, Int.reduceNeg, Int.reduceToNat, Int.reduceAdd, Int.reduceSub, Int.reduceMul, reduceCtorEq]) ?_
      simp only [go_sem, Nat.reduceBEq, Nat.reduceLT, Nat.reduceLeDiff, Nat.reduceEqDiff, Nat.reduceAdd, Nat.reduceSub, Nat.reduceMul, ↓reduceIte, Int.reduceLE, Int.reduceLT, Int.reduceNeg, Int.reduceToNat, Int.reduceAdd, Int.reduceSub, Int.reduceMul, reduceCtorEq, Try.results68]
      repeat' first | assumption | (simp (disch := first | assumption | omega | (simp; done) | (simp; omega)) only [getD_bss, getD_iss, List.take_of_length_le, remV_pos, getD_tc, getD_q, getD_fp, getD_set_same]; try simp only [go_sem, Nat.reduceBEq, Nat.reduceLT, Nat.reduceLeDiff, Nat.reduceEqDiff, Nat.reduceAdd, Nat.reduceSub, Nat.reduceMul, ↓reduceIte, Int.reduceLE, Int.reduceLT, Int.reduceNeg, Int.reduceToNat, Int.reduceAdd, Int.reduceSub, Int.reduceMul, reduceCtorEq, Try.results68, e4]) | (with_reducible refine And.intro ?_ ?_) | (with_reducible intro _) | (refine @Exists.intro I _ (I.d D.nil) ?_; simp only [go_sem, Nat.reduceBEq, Nat.reduceLT, Nat.reduceLeDiff, Nat.reduceEqDiff, Nat.reduceAdd, Nat.reduceSub, Nat.reduceMul, ↓reduceIte, Int.reduceLE, Int.reduceLT, Int.reduceNeg, Int.reduceToNat, Int.reduceAdd, Int.reduceSub, Int.reduceMul, reduceCtorEq, Try.results68, e4]) | ((with_reducible (show Region.lexB _ _ = true)); kernel_rfl) | ((try rw [inK_i64]); omega)
      refine call_proc (Try.c_markIntS 1 t.drive (kk + 1 + t.select.length + 1) (by omega) (by omega)) [2] (by simp only [go_sem, Nat.reduceBEq, Nat.reduceLT, Nat.reduceLeDiff, Nat.reduceEqDiff, Nat.reduceAdd, Nat.reduceSub, Nat.reduceMul, ↓reduceIte, Int.reduceLE, Int.reduceLT, Int.reduceNeg, Int.reduceToNat, Int.reduceAdd, Int.reduceSub, Int.reduceMul, reduceCtorEq]) ?_
      simp only [go_sem, Nat.reduceBEq, Nat.reduceLT, Nat.reduceLeDiff, Nat.reduceEqDiff, Nat.reduceAdd, Nat.reduceSub, Nat.reduceMul, ↓reduceIte, Int.reduceLE, Int.reduceLT, Int.reduceNeg, Int.reduceToNat, Int.reduceAdd, Int.reduceSub, Int.reduceMul, reduceCtorEq, Try.results68]
      repeat' first | assumption | (simp (disch := first | assumption | omega | (simp; done) | (simp; omega)) only [getD_bss, getD_iss, List.take_of_length_le, remV_pos, getD_tc, getD_q, getD_fp, getD_set_same]; try simp only [go_sem, Nat.reduceBEq, Nat.reduceLT, Nat.reduceLeDiff, Nat.reduceEqDiff, Nat.reduceAdd, Nat.reduceSub, Nat.reduceMul, ↓reduceIte, Int.reduceLE, Int.reduceLT, Int.reduceNeg, Int.reduceToNat, Int.reduceAdd, Int.reduceSub, Int.reduceMul, reduceCtorEq, Try.results68, e4]) | (with_reducible refine And.intro ?_ ?_) | (with_reducible intro _) | (refine @Exists.intro I _ (I.d D.nil) ?_; simp only [go_sem, Nat.reduceBEq, Nat.reduceLT, Nat.reduceLeDiff, Nat.reduceEqDiff, Nat.reduceAdd, Nat.reduceSub, Nat.reduceMul, ↓reduceIte, Int.reduceLE, Int.reduceLT, Int.reduceNeg, Int.reduceToNat, Int.reduceAdd, Int.reduceSub, Int.reduceMul, reduceCtorEq, Try.results68, e4]) | ((with_reducible (show Region.lexB _ _ = true)); kernel_rfl) | ((try rw [inK_i64]); omega)
      · obtain ⟨s', h1, h2, h3⟩ := hnext
        refine ⟨s', h1, by omega, ⟨by rw [h2]; omega, by omega⟩, ?_⟩
        rw [List.set_set, h3, ← set_tcs]
        rfl
    · simp only [go_sem, Nat.reduceBEq, Nat.reduceLT, Nat.reduceLeDiff, Nat.reduceEqDiff, Nat.reduceAdd, Nat.reduceSub, Nat.reduceMul, ↓reduceIte, Int.reduceLE, Int.reduceLT, Int.reduceNeg, Int.reduceToNat, Int.reduceAdd, Int.reduceSub, Int.reduceMul, reduceCtorEq, Try.results68]
      repeat' first | assumption | (simp (disch := first | assumption | omega | (simp; done) | (simp; omega)) only [getD_bss, getD_iss, List.take_of_length_le, remV_pos, getD_tc, getD_q, getD_fp, getD_set_same]; try simp only [go_sem, Nat.reduceBEq, Nat.reduceLT, Nat.reduceLeDiff, Nat.reduceEqDiff, Nat.reduceAdd, Nat.reduceSub, Nat.reduceMul, ↓reduceIte, Int.reduceLE, Int.reduceLT, Int.reduceNeg, Int.reduceToNat, Int.reduceAdd, Int.reduceSub, Int.reduceMul, reduceCtorEq, Try.results68]) | (with_reducible refine And.intro ?_ ?_) | (with_reducible intro _) | (refine @Exists.intro I _ (I.d D.nil) ?_; simp only [go_sem, Nat.reduceBEq, Nat.reduceLT, Nat.reduceLeDiff, Nat.reduceEqDiff, Nat.reduceAdd, Nat.reduceSub, Nat.reduceMul, ↓reduceIte, Int.reduceLE, Int.reduceLT, Int.reduceNeg, Int.reduceToNat, Int.reduceAdd, Int.reduceSub, Int.reduceMul, reduceCtorEq, Try.results68]) | ((with_reducible (show Region.lexB _ _ = true)); kernel_rfl) | ((try rw [inK_i64]); omega)
      refine endI_same ⟨rfl, ?_⟩
      have e : b = mTs l k := ext_getD tc0 (by rw [hb, mTs_len]) fun j hj => by rw [hlo j (by omega), mTs_get l k (by omega)]
      rw [e]
theorem Try.c_heldTileConfigS (l : List Tcfg) (k : Int) (hk : 0 ≤ k ∧ k + sumB wM l ≤ 1000000000000) : Pure Try.prog 76 [dTcs (mTs l k), dI k] (dI (k + (sumB wM l : Int))) := by
  refine pure_of' (E := Try.env 0) Try.tok rfl 1000 Try.func76 rfl rfl Try.ntmps76 (by simp) fun ok => ?_
  simp only [go_sem, Nat.reduceBEq, Nat.reduceLT, Nat.reduceLeDiff, Nat.reduceEqDiff, Nat.reduceAdd, Nat.reduceSub, Nat.reduceMul, ↓reduceIte, Int.reduceLE, Int.reduceLT, Int.reduceNeg, Int.reduceToNat, Int.reduceAdd, Int.reduceSub, Int.reduceMul, reduceCtorEq] at ok
  have hlen := mTs_len l k
  simp only [go_sem, Nat.reduceBEq, Nat.reduceLT, Nat.reduceLeDiff, Nat.reduceEqDiff, Nat.reduceAdd, Nat.reduceSub, Nat.reduceMul, ↓reduceIte, Int.reduceLE, Int.reduceLT, Int.reduceNeg, Int.reduceToNat, Int.reduceAdd, Int.reduceSub, Int.reduceMul, reduceCtorEq, Try.results76]
  refine loop_of (E := Try.env 0) Try.tok (σ := Nat) (fun i => [(0, .d (dTcs (mTs l k))), (1, .d (dI (k + (sumB wM (l.take i) : Int)))), (5, .d (dI i))]) (fun _ => []) (fun i => i ≤ l.length) (fun i => l.length - i) [] 1000 1000 ?_ ?_ ?_
  · simp only [go_sem, Nat.reduceBEq, Nat.reduceLT, Nat.reduceLeDiff, Nat.reduceEqDiff, Nat.reduceAdd, Nat.reduceSub, Nat.reduceMul, ↓reduceIte, Int.reduceLE, Int.reduceLT, Int.reduceNeg, Int.reduceToNat, Int.reduceAdd, Int.reduceSub, Int.reduceMul, reduceCtorEq]
  · simp only [go_sem, Nat.reduceBEq, Nat.reduceLT, Nat.reduceLeDiff, Nat.reduceEqDiff, Nat.reduceAdd, Nat.reduceSub, Nat.reduceMul, ↓reduceIte, Int.reduceLE, Int.reduceLT, Int.reduceNeg, Int.reduceToNat, Int.reduceAdd, Int.reduceSub, Int.reduceMul, reduceCtorEq]
    exact ⟨0, by omega, by simp [sumB]⟩
  · intro i hi
    by_cases hlt : i < l.length
    · have e1 := sumB_take (f := wM) tc0 hlt
      have e2 := sumB_le (f := wM) (l := l) (i + 1)
      have e3 : wM (l.getD i tc0) = 2 + (l.getD i tc0).select.length + (l.getD i tc0).drive.length := rfl
      have e4 := mTs_get l k hlt
      generalize hkk : k + (sumB wM (l.take i) : Int) = kk at *
      generalize l.getD i tc0 = t at *
      have hr := remV_pos (y := 3) (show (0 : Int) ≤ kk + 1 + t.select.length by omega)
      have h1 := Try.c_heldIntS (mI (kk + 1) t.select.length) (kk + 1) (by rw [mI_len]; omega)
      have h2 := Try.c_heldIntS (mI (kk + 1 + t.select.length + 1) t.drive.length) (kk + 1 + t.select.length + 1) (by rw [mI_len]; omega)
      rw [show Try.held (mI (kk + 1) t.select.length) (kk + 1) = kk + 1 + (t.select.length : Int) from Try.held_mark _ _] at h1
      rw [show Try.held (mI (kk + 1 + t.select.length + 1) t.drive.length) (kk + 1 + t.select.length + 1) = kk + 1 + t.select.length + 1 + (t.drive.length : Int) from Try.held_mark _ _] at h2
      simp only [go_sem, Nat.reduceBEq, Nat.reduceLT, Nat.reduceLeDiff, Nat.reduceEqDiff, Nat.reduceAdd, Nat.reduceSub, Nat.reduceMul, ↓reduceIte, Int.reduceLE, Int.reduceLT, Int.reduceNeg, Int.reduceToNat, Int.reduceAdd, Int.reduceSub, Int.reduceMul, reduceCtorEq, Try.results76]
      repeat' first | assumption | (simp (disch := first | assumption | omega | (simp; done) | (simp; omega)) only [getD_bss, getD_iss, List.take_of_length_le, remV_pos, getD_tc, getD_q, getD_fp, getD_set_same]; try simp only [go_sem, Nat.reduceBEq, Nat.reduceLT, Nat.reduceLeDiff, Nat.reduceEqDiff, Nat.reduceAdd, Nat.reduceSub, Nat.reduceMul, ↓reduceIte, Int.reduceLE, Int.reduceLT, Int.reduceNeg, Int.reduceToNat, Int.reduceAdd, Int.reduceSub, Int.reduceMul, reduceCtorEq, Try.results76, e4, mTile, hlen, hr]) | (with_reducible refine And.intro ?_ ?_) | (with_reducible intro _) | (refine pcall_fz h1 ?_; simp only [go_sem, Nat.reduceBEq, Nat.reduceLT, Nat.reduceLeDiff, Nat.reduceEqDiff, Nat.reduceAdd, Nat.reduceSub, Nat.reduceMul, ↓reduceIte, Int.reduceLE, Int.reduceLT, Int.reduceNeg, Int.reduceToNat, Int.reduceAdd, Int.reduceSub, Int.reduceMul, reduceCtorEq, Try.results76, e4, mTile, hlen, hr]) | (refine pcall_fz h2 ?_; simp only [go_sem, Nat.reduceBEq, Nat.reduceLT, Nat.reduceLeDiff, Nat.reduceEqDiff, Nat.reduceAdd, Nat.reduceSub, Nat.reduceMul, ↓reduceIte, Int.reduceLE, Int.reduceLT, Int.reduceNeg, Int.reduceToNat, Int.reduceAdd, Int.reduceSub, Int.reduceMul, reduceCtorEq, Try.results76, e4, mTile, hlen, hr]) | (refine @Exists.intro I _ (I.d D.nil) ?_; simp only [go_sem, Nat.reduceBEq, Nat.reduceLT, Nat.reduceLeDiff, Nat.reduceEqDiff, Nat.reduceAdd, Nat.reduceSub, Nat.reduceMul, ↓reduceIte, Int.reduceLE, Int.reduceLT, Int.reduceNeg, Int.reduceToNat, Int.reduceAdd, Int.reduceSub, Int.reduceMul, reduceCtorEq, Try.results76, e4, mTile, hlen, hr]) | ((with_reducible (show Region.lexB _ _ = true)); kernel_rfl) | ((try rw [inK_i64]); omega)
      exact ⟨i + 1, by omega, by omega, by omega, rfl⟩
    · have e1 : sumB wM l = sumB wM (l.take i) := by rw [List.take_of_length_le (by omega)]
      simp only [go_sem, Nat.reduceBEq, Nat.reduceLT, Nat.reduceLeDiff, Nat.reduceEqDiff, Nat.reduceAdd, Nat.reduceSub, Nat.reduceMul, ↓reduceIte, Int.reduceLE, Int.reduceLT, Int.reduceNeg, Int.reduceToNat, Int.reduceAdd, Int.reduceSub, Int.reduceMul, reduceCtorEq, Try.results76]
      repeat' first | assumption | (simp (disch := first | assumption | omega | (simp; done) | (simp; omega)) only [getD_bss, getD_iss, List.take_of_length_le, remV_pos, getD_tc, getD_q, getD_fp, getD_set_same]; try simp only [go_sem, Nat.reduceBEq, Nat.reduceLT, Nat.reduceLeDiff, Nat.reduceEqDiff, Nat.reduceAdd, Nat.reduceSub, Nat.reduceMul, ↓reduceIte, Int.reduceLE, Int.reduceLT, Int.reduceNeg, Int.reduceToNat, Int.reduceAdd, Int.reduceSub, Int.reduceMul, reduceCtorEq, Try.results76, hlen]) | (with_reducible refine And.intro ?_ ?_) | (with_reducible intro _) | (refine @Exists.intro I _ (I.d D.nil) ?_; simp only [go_sem, Nat.reduceBEq, Nat.reduceLT, Nat.reduceLeDiff, Nat.reduceEqDiff, Nat.reduceAdd, Nat.reduceSub, Nat.reduceMul, ↓reduceIte, Int.reduceLE, Int.reduceLT, Int.reduceNeg, Int.reduceToNat, Int.reduceAdd, Int.reduceSub, Int.reduceMul, reduceCtorEq, Try.results76, hlen]) | ((with_reducible (show Region.lexB _ _ = true)); kernel_rfl) | ((try rw [inK_i64]); omega)
def mQs (l : List (Int × Bool)) (k : Int) : List (Int × Bool) := (List.range l.length).map fun (j : Nat) => (k + 2 * (j : Int), decide ((k + 2 * (j : Int) + 1) % 3 = 0))
theorem mQs_len (l : List (Int × Bool)) (k : Int) : (mQs l k).length = l.length := by simp [mQs]
theorem mQs_get (l : List (Int × Bool)) (k : Int) {j : Nat} (h : j < l.length) : (mQs l k).getD j (0, false) = (k + 2 * (j : Int), decide ((k + 2 * (j : Int) + 1) % 3 = 0)) := by simp [mQs, List.getD, h]
theorem Try.c_markPadConfigS (g : Nat) (l : List (Int × Bool)) (k : Int) (hk : 0 ≤ k ∧ k + 2 * l.length ≤ 1000000000000) :
    ICall Try.prog 38 [.sl 0 g 2 0 l.length, .d (dI k)] [.row g 2 true (l.map fun x => dQ x)] (fun r H' => r = .d (dI (k + 2 * (l.length : Int))) ∧ H' = [.row g 2 true ((mQs l k).map fun x => dQ x)]) := by
  refine icall_of' (E := Try.env 1) Try.tok rfl 1000 Try.func38 rfl rfl Try.ntmps38 (by simp) ?_
  simp only [go_sem, Nat.reduceBEq, Nat.reduceLT, Nat.reduceLeDiff, Nat.reduceEqDiff, Nat.reduceAdd, Nat.reduceSub, Nat.reduceMul, ↓reduceIte, Int.reduceLE, Int.reduceLT, Int.reduceNeg, Int.reduceToNat, Int.reduceAdd, Int.reduceSub, Int.reduceMul, reduceCtorEq, Try.results38]
  refine loop_of5 (E := Try.env 1) Try.tok (σ := Nat × List (Int × Bool)) (fun s => [(0, .sl 0 g 2 0 l.length), (1, .d (dI (k + 2 * (s.1 : Int)))), (5, .d (dI s.1))]) (fun s => [.row g 2 true (s.2.map fun x => dQ x)]) (fun s => s.1 ≤ l.length ∧ s.2.length = l.length ∧ ∀ (j : Nat), j < s.1 → s.2.getD j (0, false) = (k + 2 * (j : Int), decide ((k + 2 * (j : Int) + 1) % 3 = 0))) (fun s => l.length - s.1) [] [] 1000 1000 ?_ ?_
  · simp only [go_sem, Nat.reduceBEq, Nat.reduceLT, Nat.reduceLeDiff, Nat.reduceEqDiff, Nat.reduceAdd, Nat.reduceSub, Nat.reduceMul, ↓reduceIte, Int.reduceLE, Int.reduceLT, Int.reduceNeg, Int.reduceToNat, Int.reduceAdd, Int.reduceSub, Int.reduceMul, reduceCtorEq]
    exact ⟨(0, l), ⟨by omega, rfl, fun j hj => absurd hj (by simp)⟩, by simp⟩
  · rintro ⟨i, b⟩ ⟨hi, hb, hlo⟩
    simp only at hi hb hlo
    by_cases hlt : i < l.length
    · have hr := remV_pos (y := 3) (show (0 : Int) ≤ k + 2 * (i : Int) + 1 by omega)
      simp only [go_sem, Nat.reduceBEq, Nat.reduceLT, Nat.reduceLeDiff, Nat.reduceEqDiff, Nat.reduceAdd, Nat.reduceSub, Nat.reduceMul, ↓reduceIte, Int.reduceLE, Int.reduceLT, Int.reduceNeg, Int.reduceToNat, Int.reduceAdd, Int.reduceSub, Int.reduceMul, reduceCtorEq, Try.results38]
      repeat' first | assumption | (simp (disch := first | assumption | omega | (simp; done) | (simp; omega)) only [getD_bss, getD_iss, List.take_of_length_le, remV_pos, getD_tc, getD_q, getD_fp, getD_set_same]; try simp only [go_sem, Nat.reduceBEq, Nat.reduceLT, Nat.reduceLeDiff, Nat.reduceEqDiff, Nat.reduceAdd, Nat.reduceSub, Nat.reduceMul, ↓reduceIte, Int.reduceLE, Int.reduceLT, Int.reduceNeg, Int.reduceToNat, Int.reduceAdd, Int.reduceSub, Int.reduceMul, reduceCtorEq, Try.results38, hr]) | (with_reducible refine And.intro ?_ ?_) | (with_reducible intro _) | (refine @Exists.intro I _ (I.d D.nil) ?_; simp only [go_sem, Nat.reduceBEq, Nat.reduceLT, Nat.reduceLeDiff, Nat.reduceEqDiff, Nat.reduceAdd, Nat.reduceSub, Nat.reduceMul, ↓reduceIte, Int.reduceLE, Int.reduceLT, Int.reduceNeg, Int.reduceToNat, Int.reduceAdd, Int.reduceSub, Int.reduceMul, reduceCtorEq, Try.results38, hr]) | ((with_reducible (show Region.lexB _ _ = true)); kernel_rfl) | ((try rw [inK_i64]); omega)
      refine ⟨(i + 1, b.set i (k + 2 * (i : Int), decide ((k + 2 * (i : Int) + 1) % 3 = 0))), ⟨by omega, by simpa using hb, fun j hj => ?_⟩, by omega, ⟨by simp only; omega, rfl⟩, ?_⟩
      · simp only at hj ⊢
        by_cases hji : j = i
        · subst hji; rw [getD_set_same (by omega)]
        · rw [getD_set_other (Ne.symm hji)]; exact hlo j (by omega)
      · rw [List.set_set, List.map_set]
    · simp only [go_sem, Nat.reduceBEq, Nat.reduceLT, Nat.reduceLeDiff, Nat.reduceEqDiff, Nat.reduceAdd, Nat.reduceSub, Nat.reduceMul, ↓reduceIte, Int.reduceLE, Int.reduceLT, Int.reduceNeg, Int.reduceToNat, Int.reduceAdd, Int.reduceSub, Int.reduceMul, reduceCtorEq, Try.results38]
      repeat' first | assumption | (simp (disch := first | assumption | omega | (simp; done) | (simp; omega)) only [getD_bss, getD_iss, List.take_of_length_le, remV_pos, getD_tc, getD_q, getD_fp, getD_set_same]; try simp only [go_sem, Nat.reduceBEq, Nat.reduceLT, Nat.reduceLeDiff, Nat.reduceEqDiff, Nat.reduceAdd, Nat.reduceSub, Nat.reduceMul, ↓reduceIte, Int.reduceLE, Int.reduceLT, Int.reduceNeg, Int.reduceToNat, Int.reduceAdd, Int.reduceSub, Int.reduceMul, reduceCtorEq, Try.results38]) | (with_reducible refine And.intro ?_ ?_) | (with_reducible intro _) | (refine @Exists.intro I _ (I.d D.nil) ?_; simp only [go_sem, Nat.reduceBEq, Nat.reduceLT, Nat.reduceLeDiff, Nat.reduceEqDiff, Nat.reduceAdd, Nat.reduceSub, Nat.reduceMul, ↓reduceIte, Int.reduceLE, Int.reduceLT, Int.reduceNeg, Int.reduceToNat, Int.reduceAdd, Int.reduceSub, Int.reduceMul, reduceCtorEq, Try.results38]) | ((with_reducible (show Region.lexB _ _ = true)); kernel_rfl) | ((try rw [inK_i64]); omega)
      refine endI_same ⟨by rw [show i = l.length by omega], ?_⟩
      have e : b = mQs l k := ext_getD (0, false) (by rw [hb, mQs_len]) fun j hj => by rw [hlo j (by omega), mQs_get l k (by omega)]
      rw [e]
theorem Try.c_heldPadConfigS (l : List (Int × Bool)) (k : Int) (hk : 0 ≤ k ∧ k + 2 * l.length ≤ 1000000000000) : Pure Try.prog 77 [dQs (mQs l k), dI k] (dI (k + 2 * (l.length : Int))) := by
  refine pure_of' (E := Try.env 0) Try.tok rfl 1000 Try.func77 rfl rfl Try.ntmps77 (by simp) fun ok => ?_
  simp only [go_sem, Nat.reduceBEq, Nat.reduceLT, Nat.reduceLeDiff, Nat.reduceEqDiff, Nat.reduceAdd, Nat.reduceSub, Nat.reduceMul, ↓reduceIte, Int.reduceLE, Int.reduceLT, Int.reduceNeg, Int.reduceToNat, Int.reduceAdd, Int.reduceSub, Int.reduceMul, reduceCtorEq] at ok
  have hlen := mQs_len l k
  simp only [go_sem, Nat.reduceBEq, Nat.reduceLT, Nat.reduceLeDiff, Nat.reduceEqDiff, Nat.reduceAdd, Nat.reduceSub, Nat.reduceMul, ↓reduceIte, Int.reduceLE, Int.reduceLT, Int.reduceNeg, Int.reduceToNat, Int.reduceAdd, Int.reduceSub, Int.reduceMul, reduceCtorEq, Try.results77]
  refine loop_of (E := Try.env 0) Try.tok (σ := Nat) (fun i => [(0, .d (dQs (mQs l k))), (1, .d (dI (k + 2 * (i : Int)))), (5, .d (dI i))]) (fun _ => []) (fun i => i ≤ l.length) (fun i => l.length - i) [] 1000 1000 ?_ ?_ ?_
  · simp only [go_sem, Nat.reduceBEq, Nat.reduceLT, Nat.reduceLeDiff, Nat.reduceEqDiff, Nat.reduceAdd, Nat.reduceSub, Nat.reduceMul, ↓reduceIte, Int.reduceLE, Int.reduceLT, Int.reduceNeg, Int.reduceToNat, Int.reduceAdd, Int.reduceSub, Int.reduceMul, reduceCtorEq]
  · simp only [go_sem, Nat.reduceBEq, Nat.reduceLT, Nat.reduceLeDiff, Nat.reduceEqDiff, Nat.reduceAdd, Nat.reduceSub, Nat.reduceMul, ↓reduceIte, Int.reduceLE, Int.reduceLT, Int.reduceNeg, Int.reduceToNat, Int.reduceAdd, Int.reduceSub, Int.reduceMul, reduceCtorEq]
    exact ⟨0, by omega, by simp⟩
  · intro i hi
    by_cases hlt : i < l.length
    · have e4 := mQs_get l k hlt
      have hr := remV_pos (y := 3) (show (0 : Int) ≤ k + 2 * (i : Int) + 1 by omega)
      simp only [go_sem, Nat.reduceBEq, Nat.reduceLT, Nat.reduceLeDiff, Nat.reduceEqDiff, Nat.reduceAdd, Nat.reduceSub, Nat.reduceMul, ↓reduceIte, Int.reduceLE, Int.reduceLT, Int.reduceNeg, Int.reduceToNat, Int.reduceAdd, Int.reduceSub, Int.reduceMul, reduceCtorEq, Try.results77]
      repeat' first | assumption | (simp (disch := first | assumption | omega | (simp; done) | (simp; omega)) only [getD_bss, getD_iss, List.take_of_length_le, remV_pos, getD_tc, getD_q, getD_fp, getD_set_same]; try simp only [go_sem, Nat.reduceBEq, Nat.reduceLT, Nat.reduceLeDiff, Nat.reduceEqDiff, Nat.reduceAdd, Nat.reduceSub, Nat.reduceMul, ↓reduceIte, Int.reduceLE, Int.reduceLT, Int.reduceNeg, Int.reduceToNat, Int.reduceAdd, Int.reduceSub, Int.reduceMul, reduceCtorEq, Try.results77, e4, hlen, hr]) | (with_reducible refine And.intro ?_ ?_) | (with_reducible intro _) | (refine @Exists.intro I _ (I.d D.nil) ?_; simp only [go_sem, Nat.reduceBEq, Nat.reduceLT, Nat.reduceLeDiff, Nat.reduceEqDiff, Nat.reduceAdd, Nat.reduceSub, Nat.reduceMul, ↓reduceIte, Int.reduceLE, Int.reduceLT, Int.reduceNeg, Int.reduceToNat, Int.reduceAdd, Int.reduceSub, Int.reduceMul, reduceCtorEq, Try.results77, e4, hlen, hr]) | ((with_reducible (show Region.lexB _ _ = true)); kernel_rfl) | ((try rw [inK_i64]); omega)
      exact ⟨i + 1, by omega, by omega, by omega, rfl⟩
    · simp only [go_sem, Nat.reduceBEq, Nat.reduceLT, Nat.reduceLeDiff, Nat.reduceEqDiff, Nat.reduceAdd, Nat.reduceSub, Nat.reduceMul, ↓reduceIte, Int.reduceLE, Int.reduceLT, Int.reduceNeg, Int.reduceToNat, Int.reduceAdd, Int.reduceSub, Int.reduceMul, reduceCtorEq, Try.results77]
      repeat' first | assumption | (simp (disch := first | assumption | omega | (simp; done) | (simp; omega)) only [getD_bss, getD_iss, List.take_of_length_le, remV_pos, getD_tc, getD_q, getD_fp, getD_set_same]; try simp only [go_sem, Nat.reduceBEq, Nat.reduceLT, Nat.reduceLeDiff, Nat.reduceEqDiff, Nat.reduceAdd, Nat.reduceSub, Nat.reduceMul, ↓reduceIte, Int.reduceLE, Int.reduceLT, Int.reduceNeg, Int.reduceToNat, Int.reduceAdd, Int.reduceSub, Int.reduceMul, reduceCtorEq, Try.results77, hlen]) | (with_reducible refine And.intro ?_ ?_) | (with_reducible intro _) | (refine @Exists.intro I _ (I.d D.nil) ?_; simp only [go_sem, Nat.reduceBEq, Nat.reduceLT, Nat.reduceLeDiff, Nat.reduceEqDiff, Nat.reduceAdd, Nat.reduceSub, Nat.reduceMul, ↓reduceIte, Int.reduceLE, Int.reduceLT, Int.reduceNeg, Int.reduceToNat, Int.reduceAdd, Int.reduceSub, Int.reduceMul, reduceCtorEq, Try.results77, hlen]) | ((with_reducible (show Region.lexB _ _ = true)); kernel_rfl) | ((try rw [inK_i64]); omega)
def mK (c : Kcfg) (k : Int) : Kcfg := ⟨mTs c.tiles k, mQs c.pads (k + (sumB wM c.tiles : Int))⟩
def wKM (c : Kcfg) : Nat := sumB wM c.tiles + 2 * c.pads.length
theorem Try.c_markConfig (g g' : Nat) (c : Kcfg) (k : Int) (hk : 0 ≤ k ∧ k + wKM c ≤ 1000000000000) (hl : c.tiles.length ≤ 1000000000000) :
    ICall Try.prog 21 [.agg [.sl 0 g 4 0 c.tiles.length, .sl 1 g' 2 0 c.pads.length], .d (dI k)] [.row g 4 true (c.tiles.map fun x => dTc x), .row g' 2 true (c.pads.map fun x => dQ x)]
      (fun r H' => r = .d (dI (k + (wKM c : Int))) ∧ H' = [.row g 4 true ((mK c k).tiles.map fun x => dTc x), .row g' 2 true ((mK c k).pads.map fun x => dQ x)]) := by
  have e : wKM c = sumB wM c.tiles + 2 * c.pads.length := rfl
  refine icall_of' (E := Try.env 2) Try.tok rfl 1000 Try.func21 rfl rfl Try.ntmps21 (by simp) ?_
  simp only [go_sem, Nat.reduceBEq, Nat.reduceLT, Nat.reduceLeDiff, Nat.reduceEqDiff, Nat.reduceAdd, Nat.reduceSub, Nat.reduceMul, ↓reduceIte, Int.reduceLE, Int.reduceLT, Int.reduceNeg, Int.reduceToNat, Int.reduceAdd, Int.reduceSub, Int.reduceMul, reduceCtorEq, Try.results21]
  refine call_icall (Try.c_markTileConfigS g c.tiles k (by omega) (by omega)) [0] (by simp only [go_sem, Nat.reduceBEq, Nat.reduceLT, Nat.reduceLeDiff, Nat.reduceEqDiff, Nat.reduceAdd, Nat.reduceSub, Nat.reduceMul, ↓reduceIte, Int.reduceLE, Int.reduceLT, Int.reduceNeg, Int.reduceToNat, Int.reduceAdd, Int.reduceSub, Int.reduceMul, reduceCtorEq]) ?_
  rintro r0 H1 ⟨rfl, rfl⟩
  simp only [go_sem, Nat.reduceBEq, Nat.reduceLT, Nat.reduceLeDiff, Nat.reduceEqDiff, Nat.reduceAdd, Nat.reduceSub, Nat.reduceMul, ↓reduceIte, Int.reduceLE, Int.reduceLT, Int.reduceNeg, Int.reduceToNat, Int.reduceAdd, Int.reduceSub, Int.reduceMul, reduceCtorEq, Try.results21]
  repeat' first | assumption | (simp (disch := first | assumption | omega | (simp; done) | (simp; omega)) only [getD_bss, getD_iss, List.take_of_length_le, remV_pos, getD_tc, getD_q, getD_fp, getD_set_same]; try simp only [go_sem, Nat.reduceBEq, Nat.reduceLT, Nat.reduceLeDiff, Nat.reduceEqDiff, Nat.reduceAdd, Nat.reduceSub, Nat.reduceMul, ↓reduceIte, Int.reduceLE, Int.reduceLT, Int.reduceNeg, Int.reduceToNat, Int.reduceAdd, Int.reduceSub, Int.reduceMul, reduceCtorEq, Try.results21]) | (with_reducible refine And.intro ?_ ?_) | (with_reducible intro _) | (refine @Exists.intro I _ (I.d D.nil) ?_; simp only [go_sem, Nat.reduceBEq, Nat.reduceLT, Nat.reduceLeDiff, Nat.reduceEqDiff, Nat.reduceAdd, Nat.reduceSub, Nat.reduceMul, ↓reduceIte, Int.reduceLE, Int.reduceLT, Int.reduceNeg, Int.reduceToNat, Int.reduceAdd, Int.reduceSub, Int.reduceMul, reduceCtorEq, Try.results21]) | ((with_reducible (show Region.lexB _ _ = true)); kernel_rfl) | ((try rw [inK_i64]); omega)
  refine call_icall (Try.c_markPadConfigS g' c.pads (k + (sumB wM c.tiles : Int)) (by omega)) [1] (by simp only [go_sem, Nat.reduceBEq, Nat.reduceLT, Nat.reduceLeDiff, Nat.reduceEqDiff, Nat.reduceAdd, Nat.reduceSub, Nat.reduceMul, ↓reduceIte, Int.reduceLE, Int.reduceLT, Int.reduceNeg, Int.reduceToNat, Int.reduceAdd, Int.reduceSub, Int.reduceMul, reduceCtorEq]) ?_
  rintro r0 H1 ⟨rfl, rfl⟩
  simp only [go_sem, Nat.reduceBEq, Nat.reduceLT, Nat.reduceLeDiff, Nat.reduceEqDiff, Nat.reduceAdd, Nat.reduceSub, Nat.reduceMul, ↓reduceIte, Int.reduceLE, Int.reduceLT, Int.reduceNeg, Int.reduceToNat, Int.reduceAdd, Int.reduceSub, Int.reduceMul, reduceCtorEq, Try.results21]
  repeat' first | assumption | (simp (disch := first | assumption | omega | (simp; done) | (simp; omega)) only [getD_bss, getD_iss, List.take_of_length_le, remV_pos, getD_tc, getD_q, getD_fp, getD_set_same]; try simp only [go_sem, Nat.reduceBEq, Nat.reduceLT, Nat.reduceLeDiff, Nat.reduceEqDiff, Nat.reduceAdd, Nat.reduceSub, Nat.reduceMul, ↓reduceIte, Int.reduceLE, Int.reduceLT, Int.reduceNeg, Int.reduceToNat, Int.reduceAdd, Int.reduceSub, Int.reduceMul, reduceCtorEq, Try.results21]) | (with_reducible refine And.intro ?_ ?_) | (with_reducible intro _) | (refine @Exists.intro I _ (I.d D.nil) ?_; simp only [go_sem, Nat.reduceBEq, Nat.reduceLT, Nat.reduceLeDiff, Nat.reduceEqDiff, Nat.reduceAdd, Nat.reduceSub, Nat.reduceMul, ↓reduceIte, Int.reduceLE, Int.reduceLT, Int.reduceNeg, Int.reduceToNat, Int.reduceAdd, Int.reduceSub, Int.reduceMul, reduceCtorEq, Try.results21]) | ((with_reducible (show Region.lexB _ _ = true)); kernel_rfl) | ((try rw [inK_i64]); omega)
  refine endI_frz (by simp) (by simp [go_sem]) ?_
  simp only [go_sem, Nat.reduceBEq, Nat.reduceLT, Nat.reduceLeDiff, Nat.reduceEqDiff, Nat.reduceAdd, Nat.reduceSub, Nat.reduceMul, ↓reduceIte, Int.reduceLE, Int.reduceLT, Int.reduceNeg, Int.reduceToNat, Int.reduceAdd, Int.reduceSub, Int.reduceMul, reduceCtorEq]
  have e5 : k + (sumB wM c.tiles : Int) + 2 * (c.pads.length : Int) = k + (wKM c : Int) := by omega
  rw [e5]
  exact ⟨rfl, rfl⟩
end Go.Proofs
