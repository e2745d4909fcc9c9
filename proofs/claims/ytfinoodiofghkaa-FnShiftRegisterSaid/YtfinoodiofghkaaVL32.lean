/- Part 32: circuits as data. Conditions: none; plain definitions and lemmas. -/
import Derived.Test.YtfinoodiofghkaaVL31
set_option linter.unusedVariables false
set_option linter.unusedSimpArgs false
namespace Go.VL

/-! ### Pairs of numbers -/
abbrev dP (p : Int × Int) : D := .agg [dI p.1, dI p.2]
abbrev dPs (l : List (Int × Int)) : D := .lst 2 (l.map dP)
@[go_sem] theorem dP_get {l : List (Int × Int)} {i : Nat} : (l.map dP).getD i (.agg [.int .i64 0, .int .i64 0]) = dP (l.getD i (0, 0)) := getD_map' _ _ _ (0, 0)
@[go_sem] theorem dP_inj {l l' : List (Int × Int)} : (l.map dP = l'.map dP) = (l = l') := map_inj fun x y h => by
  obtain ⟨a, b⟩ := x; obtain ⟨c, d⟩ := y
  simpa [dP] using h
@[go_sem] theorem dP_ok {l : List (Int × Int)} : okL (l.map dP) = ∀ x ∈ l, InK .i64 x.1 ∧ InK .i64 x.2 := by
  rw [okL_map]
  simp [dP, D.ok, okL]
@[go_sem] theorem dP_set {l : List (Int × Int)} {i : Nat} {x : Int × Int} : (l.map dP).set i (dP x) = (l.set i x).map dP := List.map_set.symm
@[go_sem] theorem dP_set' {l : List (Int × Int)} {i : Nat} {x y : Int} : (l.map dP).set i (D.agg [.int .i64 x, .int .i64 y]) = (l.set i (x, y)).map dP := (List.map_set (f := dP) (a := (x, y))).symm
@[go_sem] theorem dP_rep {n : Nat} : List.replicate n (D.agg [.int .i64 0, .int .i64 0]) = (List.replicate n ((0, 0) : Int × Int)).map dP := by simp [dP]
@[go_sem] theorem dP_push {l : List (Int × Int)} {x y : Int} : l.map dP ++ [D.agg [.int .i64 x, .int .i64 y]] = (l ++ [(x, y)]).map dP := by simp
@[go_sem] theorem dP_push' {l : List (Int × Int)} {x : Int × Int} : l.map dP ++ [dP x] = (l ++ [x]).map dP := by simp
@[go_sem] theorem dP_app {l l' : List (Int × Int)} : l.map dP ++ l'.map dP = (l ++ l').map dP := by simp
@[go_sem] theorem dP_none {l : List (Int × Int)} : (([] : List D) = l.map dP) = (l = []) := propext ⟨fun h => by cases l with | nil => rfl | cons x r => simp at h, fun h => by rw [h]; rfl⟩
@[go_sem] theorem dP_one {x y : Int} {l : List (Int × Int)} : ([D.agg [.int .i64 x, .int .i64 y]] = l.map dP) = (l = [(x, y)]) := propext ⟨fun h => by
    cases l with
    | nil => simp at h
    | cons z r =>
      cases r with
      | nil => obtain ⟨u, v⟩ := z; simp [dP] at h; simp [h]
      | cons y r => simp at h, fun h => by rw [h]; rfl⟩
@[go_sem] theorem dP_drop {l : List (Int × Int)} {n : Nat} : (l.map dP).drop n = (l.drop n).map dP := by simp
@[go_sem] theorem dP_take {l : List (Int × Int)} {n : Nat} : (l.map dP).take n = (l.take n).map dP := by simp
attribute [go_sem] List.drop_zero

theorem getD_mem' {α : Type} {l : List α} {i : Nat} {z : α} (h : i < l.length) : l.getD i z ∈ l := by simp [List.getD, h]
theorem mem_getD {α : Type} {l : List α} {x : α} (z : α) (h : x ∈ l) : ∃ i, i < l.length ∧ l.getD i z = x := by
  obtain ⟨i, hi, rfl⟩ := List.getElem_of_mem h
  exact ⟨i, hi, by simp [List.getD, hi]⟩
theorem all_getD {α : Type} {P : α → Prop} {l : List α} (z : α) : (∀ x ∈ l, P x) ↔ ∀ j, j < l.length → P (l.getD j z) :=
  ⟨fun h j hj => h _ (getD_mem' hj), fun h x hx => by obtain ⟨i, hi, rfl⟩ := mem_getD z hx; exact h i hi⟩

/-! ### nil in place of an empty list, in arguments -/
theorem Pure.wk {P : Program} {f : Nat} {ds ds' : List D} {x : D} (h : Pure P f ds x) (hw : wkT ds' ds) : Pure P f ds' x := by
  obtain ⟨hl, hg⟩ := wkT_get hw
  exact ⟨h.1, fun S vs w Rr hS ha hr => h.2 S vs w Rr hS ⟨ha.1.trans hl, fun j hj => fz_wk2 (hg j (by omega)) (ha.2 j (by omega))⟩ hr⟩
theorem PureF.wk {P : Program} {f : Nat} {ds ds' : List D} {x : D} (h : PureF P f ds x) (hw : wkT ds' ds) : PureF P f ds' x := by
  obtain ⟨hl, hg⟩ := wkT_get hw
  exact ⟨h.1, fun S vs w Rr hS ha hr => h.2 S vs w Rr hS ⟨ha.1.trans hl, fun j hj => fz_wk2 (hg j (by omega)) (ha.2 j (by omega))⟩ hr⟩

/-! ### Circuits -/
structure Circ where
  inputs : Int
  next : List Int
  gates : List (Int × Int)
  outs : List Int
abbrev dC (c : Circ) : D := .agg [dI c.inputs, dIs c.next, dPs c.gates, dIs c.outs]
/-- A circuit behind a pointer. -/
abbrev pC (c : Circ) : D := .ptr [dI c.inputs, dIs c.next, dPs c.gates, dIs c.outs]
def Circ.zero : Circ := ⟨0, [], [], []⟩
def Circ.first (c : Circ) : Int := 1 + c.inputs + (c.next.length : Int)
def Circ.vars (c : Circ) : Int := c.first + (c.gates.length : Int)
def Circ.roots (c : Circ) : List Int := c.next ++ c.outs
def litOk (l n : Int) : Prop := 0 ≤ l ∧ l < 2 * n
instance (l n : Int) : Decidable (litOk l n) := by unfold litOk; infer_instance
structure Circ.Valid (c : Circ) : Prop where
  i0 : 0 ≤ c.inputs
  i1 : c.inputs ≤ 4
  ln : c.next.length ≤ 3
  lg : c.gates.length ≤ 14
  lo : c.outs.length ≤ 3
  g : ∀ i, i < c.gates.length → litOk (c.gates.getD i (0, 0)).1 (c.first + (i : Int)) ∧ litOk (c.gates.getD i (0, 0)).2 (c.first + (i : Int))
  n : ∀ x ∈ c.next, litOk x c.vars
  o : ∀ x ∈ c.outs, litOk x c.vars
noncomputable instance (c : Circ) : Decidable c.Valid := Classical.propDecidable _
theorem Circ.Valid.vars_eq (c : Circ) : c.vars = 1 + c.inputs + (c.next.length : Int) + (c.gates.length : Int) := rfl
theorem Circ.Valid.first_bd {c : Circ} (h : c.Valid) : 1 ≤ c.first ∧ c.first ≤ 8 := by
  have := h.i0; have := h.i1; have := h.ln
  unfold Circ.first; omega
theorem Circ.Valid.vars_bd {c : Circ} (h : c.Valid) : c.first ≤ c.vars ∧ c.vars ≤ 22 := by
  have := h.first_bd; have := h.lg
  unfold Circ.vars; omega
theorem Circ.zero_valid : Circ.zero.Valid := ⟨by decide, by decide, by decide, by decide, by decide, by simp [Circ.zero], by simp [Circ.zero], by simp [Circ.zero]⟩
theorem Circ.Valid.roots {c : Circ} (h : c.Valid) : ∀ x ∈ c.roots, litOk x c.vars := by
  intro x hx
  rcases List.mem_append.1 hx with h1 | h1
  · exact h.n x h1
  · exact h.o x h1

end Go.VL
