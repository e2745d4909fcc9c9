/- Part 34: loops whose boxes hold nil slices that become rows of one's own. Conditions: none; lemmas. -/
import Derived.Test.YtfinoodiofghkaaVL33
set_option linter.unusedVariables false
set_option linter.unusedSimpArgs false
namespace Go.VL

variable {E : Env} {Q : Post} {fr : Fr} {H : List R} {n : Nat}

/-- Cells of boxes: root, cell, cells an element, whether deep. -/
def ownBx (i j k : Nat) (dp : Bool) (H : List R) : Option R → List R
  | some (.box cs) => (H ++ [R.row 0 k dp []]).set i (.box (cs.set j (.sl H.length 0 k 0 0)))
  | _ => H
def ownBvc (i j k : Nat) : Option R → Prop
  | some (.box cs) => cs.getD j .junk = .d .nil ∧ j < cs.length ∧ 0 < k
  | _ => False
def ownB : List (Nat × Nat × Nat × Bool) → List R → List R
  | [], H => H
  | (i, j, k, dp) :: r, H => ownB r (ownBx i j k dp H (rootAt H i))
def ownBC : List (Nat × Nat × Nat × Bool) → List R → Prop
  | [], _ => True
  | (i, j, k, dp) :: r, H => ownBvc i j k (rootAt H i) ∧ ownBC r (ownBx i j k dp H (rootAt H i))
theorem ownB_ghost : ∀ (l : List (Nat × Nat × Nat × Bool)) {fr : Fr} {H : List R}, ownBC l H → Ghost n fr H fr (ownB l H)
  | [], fr, H, _ => Ghost.refl n fr H
  | (i, j, k, dp) :: r, fr, H, h => by
    obtain ⟨h1, h2⟩ := h
    simp only [ownB]
    cases hr : rootAt H i with
    | none => rw [hr] at h1; exact h1.elim
    | some x =>
      rw [hr] at h1 h2
      cases x with
      | box cs =>
        simp only [ownBvc, ownBx] at h1 h2 ⊢
        rw [← rootAt_eq] at hr
        exact (Ghost.ownBox i j k dp hr h1.1 h1.2.1 h1.2.2).trans (ownB_ghost r h2)
      | _ => exact h1.elim

theorem loop_of2 (hT : TOK E.P E.T) {σ : Type} (F : σ → List (Nat × I)) (Hp : σ → List R) (inv : σ → Prop) (mu : σ → Nat) (ob : List (Nat × Nat × Nat × Bool)) (own : List (Nat × Nat × Bool)) (f1 f2 : Nat) {ks : List Item} {c : Code}
    (hbc : ownBC ob H) (hvc : ownVC own fr (ownB ob H)) (h0 : ∃ s, inv s ∧ fit E.n fr.n (ownAll own fr (ownB ob H)).1 (ownAll own fr (ownB ob H)).2 (F s) (Hp s))
    (hr : ∀ s, inv s → execC E f1 c [] (loopQ E ks Q f2 fr.n F Hp inv mu s) ⟨fr.n, F s⟩ (Hp s)) : iwp E.P E.n (.loop c) (contQ E ks Q) fr H :=
  iwp_ghost (ownB_ghost ob hbc) (loop_of hT F Hp inv mu own f1 f2 hvc h0 hr)

/-- The same for a procedure's end, or anywhere: nil cells of boxes as rows of one's own. -/
theorem endI_ownB {Po : I → List R → Prop} {r : I} (ob : List (Nat × Nat × Nat × Bool)) (hbc : ownBC ob H) (h : endI n Po r (ownB ob H)) : endI n Po r H := by
  obtain ⟨fr', H', g, h1, h2⟩ := h
  exact ⟨fr', H', (ownB_ghost ob hbc).trans g, h1, h2⟩

section rules
@[go_sem] theorem ownB_nil : ownB [] H = H := rfl
@[go_sem] theorem ownB_cons {i j k : Nat} {dp : Bool} {r : List (Nat × Nat × Nat × Bool)} : ownB ((i, j, k, dp) :: r) H = ownB r (ownBx i j k dp H (rootAt H i)) := rfl
@[go_sem] theorem ownBC_nil : ownBC [] H = True := rfl
@[go_sem] theorem ownBC_cons {i j k : Nat} {dp : Bool} {r : List (Nat × Nat × Nat × Bool)} : ownBC ((i, j, k, dp) :: r) H = (ownBvc i j k (rootAt H i) ∧ ownBC r (ownBx i j k dp H (rootAt H i))) := rfl
@[go_sem] theorem ownBx_s {i j k : Nat} {dp : Bool} {cs : List I} : ownBx i j k dp H (some (.box cs)) = (H ++ [R.row 0 k dp []]).set i (.box (cs.set j (.sl H.length 0 k 0 0))) := rfl
@[go_sem] theorem ownBvc_s {i j k : Nat} {cs : List I} : ownBvc i j k (some (.box cs)) = (cs.getD j .junk = .d .nil ∧ j < cs.length ∧ 0 < k) := rfl
attribute [go_sem] List.set_cons_zero List.set_cons_succ List.getD_cons_zero List.getD_cons_succ List.cons_append List.nil_append
@[go_sem] theorem nmem_cons {a b : Nat} {l : List Nat} : (¬ a ∈ b :: l) = (¬ a = b ∧ ¬ a ∈ l) := by simp
end rules

end Go.VL
