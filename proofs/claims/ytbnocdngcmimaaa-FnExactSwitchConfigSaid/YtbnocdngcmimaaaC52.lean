/- Contracts: frames that are applied. Conditions: none; lemmas. -/
import Derived.Test.YtbnocdngcmimaaaC51
set_option maxRecDepth 20000
set_option linter.unusedVariables false
set_option linter.unusedSimpArgs false
namespace Go.Proofs
open Go Go.VL

--@walk getD_tc, getD_q, getD_fp, getD_set_same
def frOk (p : Int × Tcfg) : Bool := (decide (0 ≤ p.1) && decide (p.1 ≤ 24)) && p.2.ok p.1
theorem frOk_iff {p : Int × Tcfg} : frOk p = true ↔ (0 ≤ p.1 ∧ p.1 ≤ 24) ∧ p.2.ok p.1 = true := by simp [frOk]
def frsOk (l : List (Int × Tcfg)) : Prop := ∀ j, j < l.length → frOk (l.getD j (0, tc0)) = true
noncomputable instance (l : List (Int × Tcfg)) : Decidable (frsOk l) := Classical.propDecidable _
def applyT (l : List Tcfg) (fs : List (Int × Tcfg)) : List Tcfg := fs.foldl (fun l f => l.set f.1.toNat f.2) l
theorem applyT_len (fs : List (Int × Tcfg)) : ∀ (l : List Tcfg), (applyT l fs).length = l.length := by
  induction fs with
  | nil => exact fun l => rfl
  | cons d r ih =>
    intro l
    show (applyT (l.set d.1.toNat d.2) r).length = _
    rw [ih, List.length_set]
theorem applyT_snoc (l : List Tcfg) (fs : List (Int × Tcfg)) {i : Nat} (h : i < fs.length) :
    applyT l (fs.take (i + 1)) = (applyT l (fs.take i)).set (fs.getD i (0, tc0)).1.toNat (fs.getD i (0, tc0)).2 := by
  rw [List.take_succ_eq_append_getElem h, applyT, List.foldl_append]
  simp [List.getD, h, applyT]
theorem tok_set {l : List Tcfg} (h : ∀ j, j < l.length → (l.getD j tc0).ok (j : Int) = true) {p : Int × Tcfg} (hp : frOk p = true) : ∀ j, j < (l.set p.1.toNat p.2).length → ((l.set p.1.toNat p.2).getD j tc0).ok (j : Int) = true := by
  intro j hj
  have hj2 : j < l.length := by simpa using hj
  obtain ⟨h1, h2⟩ := frOk_iff.1 hp
  by_cases e : p.1.toNat = j
  · subst e
    rw [getD_set_same hj2, show ((p.1.toNat : Nat) : Int) = p.1 by omega]
    exact h2
  · rw [getD_set_other e]; exact h j hj2
theorem tok_apply : ∀ (fs : List (Int × Tcfg)) {l : List Tcfg}, (∀ j, j < l.length → (l.getD j tc0).ok (j : Int) = true) → (∀ p ∈ fs, frOk p = true) → ∀ j, j < (applyT l fs).length → ((applyT l fs).getD j tc0).ok (j : Int) = true
  | [], l, h, _ => h
  | p :: r, l, h, hp => tok_apply r (l := l.set p.1.toNat p.2) (tok_set h (hp p (by simp))) fun q hq => hp q (by simp [hq])
theorem frOk_sizes {p : Int × Tcfg} (h : frOk p = true) : p.2.select.length = 3 ∧ p.2.drive.length = 8 := by
  have := Tcfg.ok_iff.1 (frOk_iff.1 h).2
  exact ⟨this.2.1, this.2.2.1⟩
def applyOk (c : Kcfg) (fs : List (Int × Tcfg)) (ps : List (Int × Bool)) : Prop := c.ok ∧ padsOk ps ∧ frsOk fs
noncomputable instance (c : Kcfg) (fs : List (Int × Tcfg)) (ps : List (Int × Bool)) : Decidable (applyOk c fs ps) := Classical.propDecidable _
theorem sumB_bdl {l : List Tcfg} (h : ∀ j, j < l.length → (l.getD j tc0).ok (j : Int) = true) : sumB wM l ≤ l.length * 13 :=
  sumB_bd fun x hx => by
    obtain ⟨i, hi, rfl⟩ := mem_getD tc0 hx
    have := Tcfg.ok_iff.1 (h i hi)
    simp only [wM]; omega
theorem Kcfg.ok_wKM {c : Kcfg} (h : c.ok) : wKM c ≤ 1000 ∧ c.tiles.length ≤ 25 := by
  have e2 : wKM c = sumB wM c.tiles + 2 * c.pads.length := rfl
  have h1 := sumB_bdl h.2.2
  have h2 := h.1
  have h3 := h.2.1.1
  rw [h2] at h1
  omega
end Go.Proofs
