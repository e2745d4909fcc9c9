/- Contracts: the reference's optimization of circuits. Conditions: none; lemmas. -/
import Derived.Test.YtaegedoalbnafaaC32
set_option maxRecDepth 20000
set_option linter.unusedVariables false
set_option linter.unusedSimpArgs false
namespace Go.Proofs
open Go Go.VL

def lmap (m : List Int) (l : Int) : Int := if l % 2 = 1 then flip (m.getD (l / 2).toNat 0) else m.getD (l / 2).toNat 0
theorem xor0 {x : Int} (h : 0 ≤ x) : ((x.toNat ^^^ (0 : Int).toNat : Nat) : Int) = x := by simp; omega
theorem Try.c_l3Map (m : List Int) (l : Int) (h : 0 ≤ l ∧ l < 2 * m.length) (hm : ∀ x ∈ m, 0 ≤ x) : Pure Try.prog 74 [dIs m, dI l] (dI (lmap m l)) := by
  refine pure_of' (E := Try.env 0) Try.tok rfl 1000 Try.func74 rfl rfl Try.ntmps74 (by simp) fun ok => ?_
  simp only [go_sem, Nat.reduceBEq, Nat.reduceLT, Nat.reduceLeDiff, Nat.reduceEqDiff, Nat.reduceAdd, Nat.reduceSub, Nat.reduceMul, ↓reduceIte, Int.reduceLE, Int.reduceLT, Int.reduceNeg, Int.reduceToNat, Int.reduceAdd, Int.reduceSub, Int.reduceMul, reduceCtorEq] at ok
  have hx := hm _ (getD_mem' (l := m) (i := (l / 2).toNat) (z := 0) (by omega))
  have h2 := remV_pos (y := 2) h.1
  simp only [go_sem, Nat.reduceBEq, Nat.reduceLT, Nat.reduceLeDiff, Nat.reduceEqDiff, Nat.reduceAdd, Nat.reduceSub, Nat.reduceMul, ↓reduceIte, Int.reduceLE, Int.reduceLT, Int.reduceNeg, Int.reduceToNat, Int.reduceAdd, Int.reduceSub, Int.reduceMul, reduceCtorEq, Try.results74]
  repeat' first | assumption | (simp (disch := first | assumption | omega | (simp; done) | (simp; omega)) only [getD_bss, getD_iss, List.take_of_length_le, remV_pos]; try simp only [go_sem, Nat.reduceBEq, Nat.reduceLT, Nat.reduceLeDiff, Nat.reduceEqDiff, Nat.reduceAdd, Nat.reduceSub, Nat.reduceMul, ↓reduceIte, Int.reduceLE, Int.reduceLT, Int.reduceNeg, Int.reduceToNat, Int.reduceAdd, Int.reduceSub, Int.reduceMul, reduceCtorEq, Try.results74]) | (with_reducible refine And.intro ?_ ?_) | (with_reducible intro _) | (refine @Exists.intro I _ (I.d D.nil) ?_; simp only [go_sem, Nat.reduceBEq, Nat.reduceLT, Nat.reduceLeDiff, Nat.reduceEqDiff, Nat.reduceAdd, Nat.reduceSub, Nat.reduceMul, ↓reduceIte, Int.reduceLE, Int.reduceLT, Int.reduceNeg, Int.reduceToNat, Int.reduceAdd, Int.reduceSub, Int.reduceMul, reduceCtorEq, Try.results74]) | ((with_reducible (show Region.lexB _ _ = true)); kernel_rfl) | ((try rw [inK_i64]); omega)
  rcases Int.emod_two_eq l with e | e
  · rw [e, xor0 hx, lmap, if_neg (by omega)]
  · rw [e, xor1 hx, lmap, if_pos (by omega)]
def mrk (first : Int) (u : List Bool) (r : Int) : List Bool := if first ≤ r / 2 then u.set (r / 2 - first).toNat true else u
def mrkN (first : Int) (l : List Int) (u : List Bool) : Nat → List Bool
  | 0 => u
  | i + 1 => mrk first (mrkN first l u i) (l.getD i 0)
def usdI (c : Circ) (u : List Bool) (i : Nat) : Nat → List Bool
  | 0 => u
  | 1 => if u.getD i false then mrk c.first u (c.gates.getD i (0, 0)).1 else u
  | _ => if u.getD i false then mrk c.first (mrk c.first u (c.gates.getD i (0, 0)).1) (c.gates.getD i (0, 0)).2 else u
def usdN (c : Circ) : Nat → List Bool
  | 0 => mrkN c.first (c.outs ++ c.next) (List.replicate c.gates.length false) (c.outs ++ c.next).length
  | k + 1 => usdI c (usdN c k) (c.gates.length - 1 - k) 2
theorem mrk_len {first r : Int} {u : List Bool} : (mrk first u r).length = u.length := by unfold mrk; split <;> simp
theorem mrkN_len {first : Int} {l : List Int} {u : List Bool} : ∀ i, (mrkN first l u i).length = u.length
  | 0 => rfl
  | i + 1 => by rw [mrkN, mrk_len, mrkN_len i]
theorem usdI_len {c : Circ} {u : List Bool} {i : Nat} : ∀ k, (usdI c u i k).length = u.length
  | 0 => rfl
  | 1 => by simp only [usdI]; split <;> simp [mrk_len]
  | k + 2 => by simp only [usdI]; split <;> simp [mrk_len]
theorem usdN_len {c : Circ} : ∀ k, (usdN c k).length = c.gates.length
  | 0 => by rw [usdN, mrkN_len]; simp
  | k + 1 => by rw [usdN, usdI_len, usdN_len k]
theorem mrk_other {first r : Int} {u : List Bool} {G : Nat} (h : r < 2 * (first + (G : Int))) : (mrk first u r).getD G false = u.getD G false := by
  unfold mrk
  split
  · rw [List.getD_eq_getElem?_getD, List.getElem?_set_ne (by omega), ← List.getD_eq_getElem?_getD]
  · rfl
set_option maxHeartbeats 4000000 in
theorem Try.c_l3Used (c : Circ) (hv : c.Valid) : Pure Try.prog 143 [dC c] (dBs (usdN c c.gates.length)) := by
  refine pure_of' (E := Try.env 0) Try.tok rfl 1000 Try.func143 rfl rfl Try.ntmps143 (by simp) fun ok => ?_
  simp only [go_sem, Nat.reduceBEq, Nat.reduceLT, Nat.reduceLeDiff, Nat.reduceEqDiff, Nat.reduceAdd, Nat.reduceSub, Nat.reduceMul, ↓reduceIte, Int.reduceLE, Int.reduceLT, Int.reduceNeg, Int.reduceToNat, Int.reduceAdd, Int.reduceSub, Int.reduceMul, reduceCtorEq] at ok
  have hfb := hv.first_bd
  have hvb := hv.vars_bd
  have hln := hv.ln; have hlg := hv.lg; have hlo := hv.lo; have hi0 := hv.i0; have hi1 := hv.i1
  simp only [go_sem, Nat.reduceBEq, Nat.reduceLT, Nat.reduceLeDiff, Nat.reduceEqDiff, Nat.reduceAdd, Nat.reduceSub, Nat.reduceMul, ↓reduceIte, Int.reduceLE, Int.reduceLT, Int.reduceNeg, Int.reduceToNat, Int.reduceAdd, Int.reduceSub, Int.reduceMul, reduceCtorEq, Try.results143]
  repeat' first | assumption | (simp (disch := first | assumption | omega | (simp; done) | (simp; omega)) only [getD_bss, getD_iss, List.take_of_length_le, remV_pos]; try simp only [go_sem, Nat.reduceBEq, Nat.reduceLT, Nat.reduceLeDiff, Nat.reduceEqDiff, Nat.reduceAdd, Nat.reduceSub, Nat.reduceMul, ↓reduceIte, Int.reduceLE, Int.reduceLT, Int.reduceNeg, Int.reduceToNat, Int.reduceAdd, Int.reduceSub, Int.reduceMul, reduceCtorEq, Try.results143]) | (with_reducible refine And.intro ?_ ?_) | (with_reducible intro _) | (refine pcall_fz (Try.c_l1First c (by omega)) ?_; simp only [go_sem, Nat.reduceBEq, Nat.reduceLT, Nat.reduceLeDiff, Nat.reduceEqDiff, Nat.reduceAdd, Nat.reduceSub, Nat.reduceMul, ↓reduceIte, Int.reduceLE, Int.reduceLT, Int.reduceNeg, Int.reduceToNat, Int.reduceAdd, Int.reduceSub, Int.reduceMul, reduceCtorEq, Try.results143]) | (refine @Exists.intro I _ (I.d D.nil) ?_; simp only [go_sem, Nat.reduceBEq, Nat.reduceLT, Nat.reduceLeDiff, Nat.reduceEqDiff, Nat.reduceAdd, Nat.reduceSub, Nat.reduceMul, ↓reduceIte, Int.reduceLE, Int.reduceLT, Int.reduceNeg, Int.reduceToNat, Int.reduceAdd, Int.reduceSub, Int.reduceMul, reduceCtorEq, Try.results143]) | ((with_reducible (show Region.lexB _ _ = true)); kernel_rfl) | ((try rw [inK_i64]); omega)
  refine drawn_of (E := Try.env 0) Try.tok Try.follows 1000 1000 [3, 6] (.fst 1 (.fst 4 (.fst 2 (.two 0 (.two 3 (.one 5 (.one 6 (.fst 7 (.done)))) 5 (.one 3 (.one 6 (.fst 7 (.done))))) 5 (.one 0 (.one 3 (.one 6 (.fst 7 (.done))))))))) (by kernel_rfl) ?_
  simp only [go_sem, Nat.reduceBEq, Nat.reduceLT, Nat.reduceLeDiff, Nat.reduceEqDiff, Nat.reduceAdd, Nat.reduceSub, Nat.reduceMul, ↓reduceIte, Int.reduceLE, Int.reduceLT, Int.reduceNeg, Int.reduceToNat, Int.reduceAdd, Int.reduceSub, Int.reduceMul, reduceCtorEq, Try.results143]
  repeat' first | assumption | (simp (disch := first | assumption | omega | (simp; done) | (simp; omega)) only [getD_bss, getD_iss, List.take_of_length_le, remV_pos]; try simp only [go_sem, Nat.reduceBEq, Nat.reduceLT, Nat.reduceLeDiff, Nat.reduceEqDiff, Nat.reduceAdd, Nat.reduceSub, Nat.reduceMul, ↓reduceIte, Int.reduceLE, Int.reduceLT, Int.reduceNeg, Int.reduceToNat, Int.reduceAdd, Int.reduceSub, Int.reduceMul, reduceCtorEq, Try.results143]) | (with_reducible refine And.intro ?_ ?_) | (with_reducible intro _) | (refine @Exists.intro I _ (I.d D.nil) ?_; simp only [go_sem, Nat.reduceBEq, Nat.reduceLT, Nat.reduceLeDiff, Nat.reduceEqDiff, Nat.reduceAdd, Nat.reduceSub, Nat.reduceMul, ↓reduceIte, Int.reduceLE, Int.reduceLT, Int.reduceNeg, Int.reduceToNat, Int.reduceAdd, Int.reduceSub, Int.reduceMul, reduceCtorEq, Try.results143]) | ((with_reducible (show Region.lexB _ _ = true)); kernel_rfl) | ((try rw [inK_i64]); omega)
  all_goals (
    have hrl : ∀ i, i < (c.outs ++ c.next).length → litOk ((c.outs ++ c.next).getD i 0) c.vars := fun i hi => by
      have := getD_mem' (l := c.outs ++ c.next) (i := i) (z := 0) hi
      rcases List.mem_append.1 this with h | h
      · exact hv.o _ h
      · exact hv.n _ h
    have hll : (c.outs ++ c.next).length ≤ 6 := by simp; omega
    have hve : c.vars = c.first + c.gates.length := rfl
    refine loop_of (E := Try.env 0) Try.tok (σ := Nat) (fun i => [(1, .ptr 0 0), (3, .d (dI c.first)), (4, .sl 1 0 1 0 c.gates.length), (5, .d (dIs (c.outs ++ c.next))), (6, .d (dI i))])
      (fun i => [.box [.d (dI c.inputs), .d (dIs c.next), .d (dPs c.gates), .d (dIs c.outs)], .row 0 1 true ((mrkN c.first (c.outs ++ c.next) (List.replicate c.gates.length false) i).map D.bool)]) (fun i => i ≤ (c.outs ++ c.next).length) (fun i => (c.outs ++ c.next).length - i) [] 1000 1000 ?_ ?_ ?_
    · simp only [go_sem, Nat.reduceBEq, Nat.reduceLT, Nat.reduceLeDiff, Nat.reduceEqDiff, Nat.reduceAdd, Nat.reduceSub, Nat.reduceMul, ↓reduceIte, Int.reduceLE, Int.reduceLT, Int.reduceNeg, Int.reduceToNat, Int.reduceAdd, Int.reduceSub, Int.reduceMul, reduceCtorEq]
    · simp only [go_sem, Nat.reduceBEq, Nat.reduceLT, Nat.reduceLeDiff, Nat.reduceEqDiff, Nat.reduceAdd, Nat.reduceSub, Nat.reduceMul, ↓reduceIte, Int.reduceLE, Int.reduceLT, Int.reduceNeg, Int.reduceToNat, Int.reduceAdd, Int.reduceSub, Int.reduceMul, reduceCtorEq]
      exact ⟨0, by omega, ⟨List.take_of_length_le (by rw [List.length_append]; exact Nat.le_refl _), rfl⟩, rfl⟩
    · intro i hi
      have hml : (mrkN c.first (c.outs ++ c.next) (List.replicate c.gates.length false) i).length = c.gates.length := by rw [mrkN_len]; simp
      have hs : mrkN c.first (c.outs ++ c.next) (List.replicate c.gates.length false) (i + 1) = mrk c.first (mrkN c.first (c.outs ++ c.next) (List.replicate c.gates.length false) i) ((c.outs ++ c.next).getD i 0) := rfl
      have hr := hrl i
      have hq : usdN c 0 = mrkN c.first (c.outs ++ c.next) (List.replicate c.gates.length false) (c.outs ++ c.next).length := rfl
      generalize c.outs ++ c.next = rs at *
      unfold litOk at hr
      by_cases hlt : i < rs.length
      · have hr := hr hlt
        simp only [go_sem, Nat.reduceBEq, Nat.reduceLT, Nat.reduceLeDiff, Nat.reduceEqDiff, Nat.reduceAdd, Nat.reduceSub, Nat.reduceMul, ↓reduceIte, Int.reduceLE, Int.reduceLT, Int.reduceNeg, Int.reduceToNat, Int.reduceAdd, Int.reduceSub, Int.reduceMul, reduceCtorEq, Try.results143]
        repeat' first | assumption | (simp (disch := first | assumption | omega | (simp; done) | (simp; omega)) only [getD_bss, getD_iss, List.take_of_length_le, remV_pos]; try simp only [go_sem, Nat.reduceBEq, Nat.reduceLT, Nat.reduceLeDiff, Nat.reduceEqDiff, Nat.reduceAdd, Nat.reduceSub, Nat.reduceMul, ↓reduceIte, Int.reduceLE, Int.reduceLT, Int.reduceNeg, Int.reduceToNat, Int.reduceAdd, Int.reduceSub, Int.reduceMul, reduceCtorEq, Try.results143]) | (with_reducible refine And.intro ?_ ?_) | (with_reducible intro _) | (refine @Exists.intro I _ (I.d D.nil) ?_; simp only [go_sem, Nat.reduceBEq, Nat.reduceLT, Nat.reduceLeDiff, Nat.reduceEqDiff, Nat.reduceAdd, Nat.reduceSub, Nat.reduceMul, ↓reduceIte, Int.reduceLE, Int.reduceLT, Int.reduceNeg, Int.reduceToNat, Int.reduceAdd, Int.reduceSub, Int.reduceMul, reduceCtorEq, Try.results143]) | ((with_reducible (show Region.lexB _ _ = true)); kernel_rfl) | ((try rw [inK_i64]); omega)
        · rename_i h1 h2
          exact ⟨i + 1, by omega, by omega, rfl, by rw [hs, mrk, if_pos h2]⟩
        · rename_i h1 h2
          exact ⟨i + 1, by omega, by omega, rfl, by rw [hs, mrk, if_neg h2]⟩
      · obtain rfl : i = rs.length := by omega
        simp only [go_sem, Nat.reduceBEq, Nat.reduceLT, Nat.reduceLeDiff, Nat.reduceEqDiff, Nat.reduceAdd, Nat.reduceSub, Nat.reduceMul, ↓reduceIte, Int.reduceLE, Int.reduceLT, Int.reduceNeg, Int.reduceToNat, Int.reduceAdd, Int.reduceSub, Int.reduceMul, reduceCtorEq, Try.results143]
        repeat' first | assumption | (simp (disch := first | assumption | omega | (simp; done) | (simp; omega)) only [getD_bss, getD_iss, List.take_of_length_le, remV_pos]; try simp only [go_sem, Nat.reduceBEq, Nat.reduceLT, Nat.reduceLeDiff, Nat.reduceEqDiff, Nat.reduceAdd, Nat.reduceSub, Nat.reduceMul, ↓reduceIte, Int.reduceLE, Int.reduceLT, Int.reduceNeg, Int.reduceToNat, Int.reduceAdd, Int.reduceSub, Int.reduceMul, reduceCtorEq, Try.results143]) | (with_reducible refine And.intro ?_ ?_) | (with_reducible intro _) | (refine @Exists.intro I _ (I.d D.nil) ?_; simp only [go_sem, Nat.reduceBEq, Nat.reduceLT, Nat.reduceLeDiff, Nat.reduceEqDiff, Nat.reduceAdd, Nat.reduceSub, Nat.reduceMul, ↓reduceIte, Int.reduceLE, Int.reduceLT, Int.reduceNeg, Int.reduceToNat, Int.reduceAdd, Int.reduceSub, Int.reduceMul, reduceCtorEq, Try.results143]) | ((with_reducible (show Region.lexB _ _ = true)); kernel_rfl) | ((try rw [inK_i64]); omega)
        rw [← hq]
        refine loop_of (E := Try.env 0) Try.tok (σ := Nat) (fun k => [(1, .ptr 0 0), (3, .d (dI c.first)), (4, .sl 1 0 1 0 c.gates.length), (7, .d (dI ((c.gates.length : Int) - 1 - (k : Int))))])
          (fun k => [.box [.d (dI c.inputs), .d (dIs c.next), .d (dPs c.gates), .d (dIs c.outs)], .row 0 1 true ((usdN c k).map D.bool)]) (fun k => k ≤ c.gates.length) (fun k => c.gates.length - k) [] 1000 1000 ?_ ?_ ?_
        · simp only [go_sem, Nat.reduceBEq, Nat.reduceLT, Nat.reduceLeDiff, Nat.reduceEqDiff, Nat.reduceAdd, Nat.reduceSub, Nat.reduceMul, ↓reduceIte, Int.reduceLE, Int.reduceLT, Int.reduceNeg, Int.reduceToNat, Int.reduceAdd, Int.reduceSub, Int.reduceMul, reduceCtorEq]
        · simp only [go_sem, Nat.reduceBEq, Nat.reduceLT, Nat.reduceLeDiff, Nat.reduceEqDiff, Nat.reduceAdd, Nat.reduceSub, Nat.reduceMul, ↓reduceIte, Int.reduceLE, Int.reduceLT, Int.reduceNeg, Int.reduceToNat, Int.reduceAdd, Int.reduceSub, Int.reduceMul, reduceCtorEq]
          exact ⟨0, by omega, by simp, rfl⟩
        · intro k hk
          have hul := usdN_len (c := c) k
          by_cases hlt : k < c.gates.length
          · have hg := hv.g (c.gates.length - 1 - k) (by omega)
            unfold litOk at hg
            have hki : ((c.gates.length : Int) - 1 - (k : Int)).toNat = c.gates.length - 1 - k := by omega
            have hs2 : usdN c (k + 1) = usdI c (usdN c k) (c.gates.length - 1 - k) 2 := rfl
            simp only [go_sem, Nat.reduceBEq, Nat.reduceLT, Nat.reduceLeDiff, Nat.reduceEqDiff, Nat.reduceAdd, Nat.reduceSub, Nat.reduceMul, ↓reduceIte, Int.reduceLE, Int.reduceLT, Int.reduceNeg, Int.reduceToNat, Int.reduceAdd, Int.reduceSub, Int.reduceMul, reduceCtorEq, Try.results143, hki]
            repeat' first | assumption | (simp (disch := first | assumption | omega | (simp; done) | (simp; omega)) only [getD_bss, getD_iss, List.take_of_length_le, remV_pos]; try simp only [go_sem, Nat.reduceBEq, Nat.reduceLT, Nat.reduceLeDiff, Nat.reduceEqDiff, Nat.reduceAdd, Nat.reduceSub, Nat.reduceMul, ↓reduceIte, Int.reduceLE, Int.reduceLT, Int.reduceNeg, Int.reduceToNat, Int.reduceAdd, Int.reduceSub, Int.reduceMul, reduceCtorEq, Try.results143, hki]) | (with_reducible refine And.intro ?_ ?_) | (with_reducible intro _) | (refine @Exists.intro I _ (I.d D.nil) ?_; simp only [go_sem, Nat.reduceBEq, Nat.reduceLT, Nat.reduceLeDiff, Nat.reduceEqDiff, Nat.reduceAdd, Nat.reduceSub, Nat.reduceMul, ↓reduceIte, Int.reduceLE, Int.reduceLT, Int.reduceNeg, Int.reduceToNat, Int.reduceAdd, Int.reduceSub, Int.reduceMul, reduceCtorEq, Try.results143, hki]) | ((with_reducible (show Region.lexB _ _ = true)); kernel_rfl) | ((try rw [inK_i64]); omega)
            refine drawn_of (E := Try.env 0) Try.tok Try.follows 1000 1000 [] (.fst 0 (.fst 2 (.fst 7 (.fst 9 (.fst 1 (.fst 3 (.fst 4 (.fst 5 (.fst 6 (.fst 8 (.fst 10 (.fst 11 (.fst 12 (.fst 13 (.one 14 (.fst 15 (.done))))))))))))))))) (by kernel_rfl) ?_
            simp only [go_sem, Nat.reduceBEq, Nat.reduceLT, Nat.reduceLeDiff, Nat.reduceEqDiff, Nat.reduceAdd, Nat.reduceSub, Nat.reduceMul, ↓reduceIte, Int.reduceLE, Int.reduceLT, Int.reduceNeg, Int.reduceToNat, Int.reduceAdd, Int.reduceSub, Int.reduceMul, reduceCtorEq, Try.results143, hki]
            repeat' first | assumption | (simp (disch := first | assumption | omega | (simp; done) | (simp; omega)) only [getD_bss, getD_iss, List.take_of_length_le, remV_pos]; try simp only [go_sem, Nat.reduceBEq, Nat.reduceLT, Nat.reduceLeDiff, Nat.reduceEqDiff, Nat.reduceAdd, Nat.reduceSub, Nat.reduceMul, ↓reduceIte, Int.reduceLE, Int.reduceLT, Int.reduceNeg, Int.reduceToNat, Int.reduceAdd, Int.reduceSub, Int.reduceMul, reduceCtorEq, Try.results143, hki]) | (with_reducible refine And.intro ?_ ?_) | (with_reducible intro _) | (refine @Exists.intro I _ (I.d D.nil) ?_; simp only [go_sem, Nat.reduceBEq, Nat.reduceLT, Nat.reduceLeDiff, Nat.reduceEqDiff, Nat.reduceAdd, Nat.reduceSub, Nat.reduceMul, ↓reduceIte, Int.reduceLE, Int.reduceLT, Int.reduceNeg, Int.reduceToNat, Int.reduceAdd, Int.reduceSub, Int.reduceMul, reduceCtorEq, Try.results143, hki]) | ((with_reducible (show Region.lexB _ _ = true)); kernel_rfl) | ((try rw [inK_i64]); omega)
            all_goals (
              have hu0 : ∀ u, usdI c u (c.gates.length - 1 - k) 0 = u := fun u => rfl
              have hu1 : ∀ u, usdI c u (c.gates.length - 1 - k) 1 = if u.getD (c.gates.length - 1 - k) false then mrk c.first u (c.gates.getD (c.gates.length - 1 - k) (0, 0)).1 else u := fun u => rfl
              have hu2 : ∀ u, usdI c u (c.gates.length - 1 - k) 2 = if u.getD (c.gates.length - 1 - k) false then mrk c.first (mrk c.first u (c.gates.getD (c.gates.length - 1 - k) (0, 0)).1) (c.gates.getD (c.gates.length - 1 - k) (0, 0)).2 else u := fun u => rfl
              generalize hG : c.gates.length - 1 - k = G at *
              generalize hA : (c.gates.getD G (0, 0)).1 = A at *
              generalize hB : (c.gates.getD G (0, 0)).2 = B at *
              refine loop_of (E := Try.env 0) Try.tok (σ := Nat) (fun j => [(1, .ptr 0 0), (3, .d (dI c.first)), (4, .sl 1 0 1 0 c.gates.length), (7, .d (dI ((c.gates.length : Int) - 1 - (k : Int)))), (8, .d (dIs [A / 2, B / 2])), (9, .d (dI j))])
                (fun j => [.box [.d (dI c.inputs), .d (dIs c.next), .d (dPs c.gates), .d (dIs c.outs)], .row 0 1 true ((usdI c (usdN c k) G j).map D.bool)]) (fun j => j ≤ 2) (fun j => 2 - j) [] 1000 1000 ?_ ?_ ?_
              · simp only [go_sem, Nat.reduceBEq, Nat.reduceLT, Nat.reduceLeDiff, Nat.reduceEqDiff, Nat.reduceAdd, Nat.reduceSub, Nat.reduceMul, ↓reduceIte, Int.reduceLE, Int.reduceLT, Int.reduceNeg, Int.reduceToNat, Int.reduceAdd, Int.reduceSub, Int.reduceMul, reduceCtorEq]
              · simp only [go_sem, Nat.reduceBEq, Nat.reduceLT, Nat.reduceLeDiff, Nat.reduceEqDiff, Nat.reduceAdd, Nat.reduceSub, Nat.reduceMul, ↓reduceIte, Int.reduceLE, Int.reduceLT, Int.reduceNeg, Int.reduceToNat, Int.reduceAdd, Int.reduceSub, Int.reduceMul, reduceCtorEq]
                exact ⟨0, by omega, rfl, rfl⟩
              · intro j hj
                have hil := usdI_len (c := c) (u := usdN c k) (i := G) j
                obtain rfl | rfl | rfl : j = 0 ∨ j = 1 ∨ j = 2 := by omega
                · simp only [go_sem, Nat.reduceBEq, Nat.reduceLT, Nat.reduceLeDiff, Nat.reduceEqDiff, Nat.reduceAdd, Nat.reduceSub, Nat.reduceMul, ↓reduceIte, Int.reduceLE, Int.reduceLT, Int.reduceNeg, Int.reduceToNat, Int.reduceAdd, Int.reduceSub, Int.reduceMul, reduceCtorEq, Try.results143, hki, hu0]
                  repeat' first | assumption | (simp (disch := first | assumption | omega | (simp; done) | (simp; omega)) only [getD_bss, getD_iss, List.take_of_length_le, remV_pos]; try simp only [go_sem, Nat.reduceBEq, Nat.reduceLT, Nat.reduceLeDiff, Nat.reduceEqDiff, Nat.reduceAdd, Nat.reduceSub, Nat.reduceMul, ↓reduceIte, Int.reduceLE, Int.reduceLT, Int.reduceNeg, Int.reduceToNat, Int.reduceAdd, Int.reduceSub, Int.reduceMul, reduceCtorEq, Try.results143, hki, hu0]) | (with_reducible refine And.intro ?_ ?_) | (with_reducible intro _) | (refine @Exists.intro I _ (I.d D.nil) ?_; simp only [go_sem, Nat.reduceBEq, Nat.reduceLT, Nat.reduceLeDiff, Nat.reduceEqDiff, Nat.reduceAdd, Nat.reduceSub, Nat.reduceMul, ↓reduceIte, Int.reduceLE, Int.reduceLT, Int.reduceNeg, Int.reduceToNat, Int.reduceAdd, Int.reduceSub, Int.reduceMul, reduceCtorEq, Try.results143, hki, hu0]) | ((with_reducible (show Region.lexB _ _ = true)); kernel_rfl) | ((try rw [inK_i64]); omega)
                  all_goals (
                    refine ⟨1, by omega, by omega, rfl, ?_⟩
                    rw [hu1]
                    unfold mrk
                    repeat' split
                    all_goals first | rfl | (exfalso; simp_all; done))
                · have hk1 : (usdI c (usdN c k) G 1).getD G false = (usdN c k).getD G false := by
                    rw [hu1]
                    split
                    · exact mrk_other hg.1.2
                    · rfl
                  simp only [go_sem, Nat.reduceBEq, Nat.reduceLT, Nat.reduceLeDiff, Nat.reduceEqDiff, Nat.reduceAdd, Nat.reduceSub, Nat.reduceMul, ↓reduceIte, Int.reduceLE, Int.reduceLT, Int.reduceNeg, Int.reduceToNat, Int.reduceAdd, Int.reduceSub, Int.reduceMul, reduceCtorEq, Try.results143, hki, hk1]
                  repeat' first | assumption | (simp (disch := first | assumption | omega | (simp; done) | (simp; omega)) only [getD_bss, getD_iss, List.take_of_length_le, remV_pos]; try simp only [go_sem, Nat.reduceBEq, Nat.reduceLT, Nat.reduceLeDiff, Nat.reduceEqDiff, Nat.reduceAdd, Nat.reduceSub, Nat.reduceMul, ↓reduceIte, Int.reduceLE, Int.reduceLT, Int.reduceNeg, Int.reduceToNat, Int.reduceAdd, Int.reduceSub, Int.reduceMul, reduceCtorEq, Try.results143, hki, hk1]) | (with_reducible refine And.intro ?_ ?_) | (with_reducible intro _) | (refine @Exists.intro I _ (I.d D.nil) ?_; simp only [go_sem, Nat.reduceBEq, Nat.reduceLT, Nat.reduceLeDiff, Nat.reduceEqDiff, Nat.reduceAdd, Nat.reduceSub, Nat.reduceMul, ↓reduceIte, Int.reduceLE, Int.reduceLT, Int.reduceNeg, Int.reduceToNat, Int.reduceAdd, Int.reduceSub, Int.reduceMul, reduceCtorEq, Try.results143, hki, hk1]) | ((with_reducible (show Region.lexB _ _ = true)); kernel_rfl) | ((try rw [inK_i64]); omega)
                  all_goals first
                    | (refine ⟨2, by omega, by omega, rfl, ?_⟩
                       rw [hu1, hu2]
                       unfold mrk
                       repeat' split
                       all_goals first | rfl | (exfalso; simp_all; done))
                · simp only [go_sem, Nat.reduceBEq, Nat.reduceLT, Nat.reduceLeDiff, Nat.reduceEqDiff, Nat.reduceAdd, Nat.reduceSub, Nat.reduceMul, ↓reduceIte, Int.reduceLE, Int.reduceLT, Int.reduceNeg, Int.reduceToNat, Int.reduceAdd, Int.reduceSub, Int.reduceMul, reduceCtorEq, Try.results143, hki]
                  repeat' first | assumption | (simp (disch := first | assumption | omega | (simp; done) | (simp; omega)) only [getD_bss, getD_iss, List.take_of_length_le, remV_pos]; try simp only [go_sem, Nat.reduceBEq, Nat.reduceLT, Nat.reduceLeDiff, Nat.reduceEqDiff, Nat.reduceAdd, Nat.reduceSub, Nat.reduceMul, ↓reduceIte, Int.reduceLE, Int.reduceLT, Int.reduceNeg, Int.reduceToNat, Int.reduceAdd, Int.reduceSub, Int.reduceMul, reduceCtorEq, Try.results143, hki]) | (with_reducible refine And.intro ?_ ?_) | (with_reducible intro _) | (refine @Exists.intro I _ (I.d D.nil) ?_; simp only [go_sem, Nat.reduceBEq, Nat.reduceLT, Nat.reduceLeDiff, Nat.reduceEqDiff, Nat.reduceAdd, Nat.reduceSub, Nat.reduceMul, ↓reduceIte, Int.reduceLE, Int.reduceLT, Int.reduceNeg, Int.reduceToNat, Int.reduceAdd, Int.reduceSub, Int.reduceMul, reduceCtorEq, Try.results143, hki]) | ((with_reducible (show Region.lexB _ _ = true)); kernel_rfl) | ((try rw [inK_i64]); omega)
                  all_goals first
                    | exact ⟨k + 1, by omega, by omega, by omega, by rw [hs2]⟩)
          · obtain rfl : k = c.gates.length := by omega
            simp only [go_sem, Nat.reduceBEq, Nat.reduceLT, Nat.reduceLeDiff, Nat.reduceEqDiff, Nat.reduceAdd, Nat.reduceSub, Nat.reduceMul, ↓reduceIte, Int.reduceLE, Int.reduceLT, Int.reduceNeg, Int.reduceToNat, Int.reduceAdd, Int.reduceSub, Int.reduceMul, reduceCtorEq, Try.results143]
            repeat' first | assumption | (simp (disch := first | assumption | omega | (simp; done) | (simp; omega)) only [getD_bss, getD_iss, List.take_of_length_le, remV_pos]; try simp only [go_sem, Nat.reduceBEq, Nat.reduceLT, Nat.reduceLeDiff, Nat.reduceEqDiff, Nat.reduceAdd, Nat.reduceSub, Nat.reduceMul, ↓reduceIte, Int.reduceLE, Int.reduceLT, Int.reduceNeg, Int.reduceToNat, Int.reduceAdd, Int.reduceSub, Int.reduceMul, reduceCtorEq, Try.results143]) | (with_reducible refine And.intro ?_ ?_) | (with_reducible intro _) | (refine @Exists.intro I _ (I.d D.nil) ?_; simp only [go_sem, Nat.reduceBEq, Nat.reduceLT, Nat.reduceLeDiff, Nat.reduceEqDiff, Nat.reduceAdd, Nat.reduceSub, Nat.reduceMul, ↓reduceIte, Int.reduceLE, Int.reduceLT, Int.reduceNeg, Int.reduceToNat, Int.reduceAdd, Int.reduceSub, Int.reduceMul, reduceCtorEq, Try.results143]) | ((with_reducible (show Region.lexB _ _ = true)); kernel_rfl) | ((try rw [inK_i64]); omega)
            skip)
end Go.Proofs
