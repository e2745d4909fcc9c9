/- Part 32: circuits as data. Conditions: none; plain definitions and lemmas. -/
import Derived.Test.YtbnocdngcmimaaaVM7
import Derived.OrdersHeld
set_option linter.unusedVariables false
set_option linter.unusedSimpArgs false
namespace Go.VL

/-! ### Pairs of numbers -/
abbrev dP (p : Int × Int) : D := .agg [dI p.1, dI p.2]
abbrev dPs (l : List (Int × Int)) : D := .lst 2 (l.map dP)
@[go_sem] theorem dP_get {l : List (Int × Int)} {i : Nat} : (l.map dP).getD i (.agg [.int .i64 0, .int .i64 0]) = dP (l.getD i (0, 0)) := getD_map' _ _ _ (0, 0)
@[go_sem] theorem dP_inj {l l' : List (Int × Int)} : (l.map dP = l'.map dP) = (l = l') := map_inj fun x y h => by
  obtain ⟨a, b⟩ := x; obtain ⟨c, d⟩ := y
  simpa [dP] using h
@[go_sem] theorem dP_ok {l : List (Int × Int)} : okL (l.map dP) = ∀ x ∈ l, InK .i64 x.1 ∧ InK .i64 x.2 := by
  rw [okL_map]
  simp [dP, D.ok, okL]
@[go_sem] theorem dP_set {l : List (Int × Int)} {i : Nat} {x : Int × Int} : (l.map dP).set i (dP x) = (l.set i x).map dP := List.map_set.symm
@[go_sem] theorem dP_set' {l : List (Int × Int)} {i : Nat} {x y : Int} : (l.map dP).set i (D.agg [.int .i64 x, .int .i64 y]) = (l.set i (x, y)).map dP := (List.map_set (f := dP) (a := (x, y))).symm
@[go_sem] theorem dP_rep {n : Nat} : List.replicate n (D.agg [.int .i64 0, .int .i64 0]) = (List.replicate n ((0, 0) : Int × Int)).map dP := by simp [dP]
@[go_sem] theorem dP_push {l : List (Int × Int)} {x y : Int} : l.map dP ++ [D.agg [.int .i64 x, .int .i64 y]] = (l ++ [(x, y)]).map dP := by simp
@[go_sem] theorem dP_push' {l : List (Int × Int)} {x : Int × Int} : l.map dP ++ [dP x] = (l ++ [x]).map dP := by simp
@[go_sem] theorem dP_app {l l' : List (Int × Int)} : l.map dP ++ l'.map dP = (l ++ l').map dP := by simp
@[go_sem] theorem dP_none {l : List (Int × Int)} : (([] : List D) = l.map dP) = (l = []) := propext ⟨fun h => by cases l with | nil => rfl | cons x r => simp at h, fun h => by rw [h]; rfl⟩
@[go_sem] theorem dP_one {x y : Int} {l : List (Int × Int)} : ([D.agg [.int .i64 x, .int .i64 y]] = l.map dP) = (l = [(x, y)]) := propext ⟨fun h => by
    cases l with
    | nil => simp at h
    | cons z r =>
      cases r with
      | nil => obtain ⟨u, v⟩ := z; simp [dP] at h; simp [h]
      | cons y r => simp at h, fun h => by rw [h]; rfl⟩
@[go_sem] theorem dP_drop {l : List (Int × Int)} {n : Nat} : (l.map dP).drop n = (l.drop n).map dP := by simp
@[go_sem] theorem dP_take {l : List (Int × Int)} {n : Nat} : (l.map dP).take n = (l.take n).map dP := by simp
attribute [go_sem] List.drop_zero

theorem getD_mem' {α : Type} {l : List α} {i : Nat} {z : α} (h : i < l.length) : l.getD i z ∈ l := by simp [List.getD, h]
theorem mem_getD {α : Type} {l : List α} {x : α} (z : α) (h : x ∈ l) : ∃ i, i < l.length ∧ l.getD i z = x := by
  obtain ⟨i, hi, rfl⟩ := List.getElem_of_mem h
  exact ⟨i, hi, by simp [List.getD, hi]⟩
theorem all_getD {α : Type} {P : α → Prop} {l : List α} (z : α) : (∀ x ∈ l, P x) ↔ ∀ j, j < l.length → P (l.getD j z) :=
  ⟨fun h j hj => h _ (getD_mem' hj), fun h x hx => by obtain ⟨i, hi, rfl⟩ := mem_getD z hx; exact h i hi⟩

/-! ### nil in place of an empty list, in arguments -/
theorem Pure.wk {P : Program} {f : Nat} {ds ds' : List D} {x : D} (h : Pure P f ds x) (hw : wkT ds' ds) : Pure P f ds' x := by
  obtain ⟨hl, hg⟩ := wkT_get hw
  exact ⟨h.1, fun S vs w Rr hS ha hr => h.2 S vs w Rr hS ⟨ha.1.trans hl, fun j hj => fz_wk2 (hg j (by omega)) (ha.2 j (by omega))⟩ hr⟩
theorem PureF.wk {P : Program} {f : Nat} {ds ds' : List D} {x : D} (h : PureF P f ds x) (hw : wkT ds' ds) : PureF P f ds' x := by
  obtain ⟨hl, hg⟩ := wkT_get hw
  exact ⟨h.1, fun S vs w Rr hS ha hr => h.2 S vs w Rr hS ⟨ha.1.trans hl, fun j hj => fz_wk2 (hg j (by omega)) (ha.2 j (by omega))⟩ hr⟩

/-! ### Circuits -/
structure Circ where
  inputs : Int
  next : List Int
  gates : List (Int × Int)
  outs : List Int
abbrev dC (c : Circ) : D := .agg [dI c.inputs, dIs c.next, dPs c.gates, dIs c.outs]
/-- A circuit behind a pointer. -/
abbrev pC (c : Circ) : D := .ptr [dI c.inputs, dIs c.next, dPs c.gates, dIs c.outs]
def Circ.zero : Circ := ⟨0, [], [], []⟩
def Circ.first (c : Circ) : Int := 1 + c.inputs + (c.next.length : Int)
def Circ.vars (c : Circ) : Int := c.first + (c.gates.length : Int)
def Circ.roots (c : Circ) : List Int := c.next ++ c.outs
def litOk (l n : Int) : Prop := 0 ≤ l ∧ l < 2 * n
instance (l n : Int) : Decidable (litOk l n) := by unfold litOk; infer_instance
structure Circ.Valid (c : Circ) : Prop where
  i0 : 0 ≤ c.inputs
  i1 : c.inputs ≤ 4
  ln : c.next.length ≤ 3
  lg : c.gates.length ≤ 14
  lo : c.outs.length ≤ 3
  g : ∀ i, i < c.gates.length → litOk (c.gates.getD i (0, 0)).1 (c.first + (i : Int)) ∧ litOk (c.gates.getD i (0, 0)).2 (c.first + (i : Int))
  n : ∀ x ∈ c.next, litOk x c.vars
  o : ∀ x ∈ c.outs, litOk x c.vars
noncomputable instance (c : Circ) : Decidable c.Valid := Classical.propDecidable _
theorem Circ.Valid.vars_eq (c : Circ) : c.vars = 1 + c.inputs + (c.next.length : Int) + (c.gates.length : Int) := rfl
theorem Circ.Valid.first_bd {c : Circ} (h : c.Valid) : 1 ≤ c.first ∧ c.first ≤ 8 := by
  have := h.i0; have := h.i1; have := h.ln
  unfold Circ.first; omega
theorem Circ.Valid.vars_bd {c : Circ} (h : c.Valid) : c.first ≤ c.vars ∧ c.vars ≤ 22 := by
  have := h.first_bd; have := h.lg
  unfold Circ.vars; omega
theorem Circ.zero_valid : Circ.zero.Valid := ⟨by decide, by decide, by decide, by decide, by decide, by simp [Circ.zero], by simp [Circ.zero], by simp [Circ.zero]⟩
theorem Circ.Valid.roots {c : Circ} (h : c.Valid) : ∀ x ∈ c.roots, litOk x c.vars := by
  intro x hx
  rcases List.mem_append.1 hx with h1 | h1
  · exact h.n x h1
  · exact h.o x h1

end Go.VL

/- Part 33: regions that draw their order, where some operations make or change memory. Conditions: none; lemmas. -/
namespace Go.VL

variable {P : Program} {ops : Array Oper} {Q : Exit → Act → World → Prop} {S0 : World → Prop} {T0 : Nat → Bool}

/-! ### Orders, where a condition on the world holds behind all operations but some -/
def wpAnyT (P : Program) (ops : Array Oper) (Q : Exit → Act → World → Prop) (S0 : World → Prop) (T0 : Nat → Bool) : Nat → Array Bool → Act → World → Prop
  | 0, listed, a, w => Region.ready .any ops listed = [] ∧ Q .normal a w
  | fuel + 1, listed, a, w =>
    (Region.ready .any ops listed = [] → Q .normal a w) ∧
    ∀ i ∈ Region.ready .any ops listed, wpOp P ops Q i (fun a' w' => (T0 i = true → S0 w → S0 w') ∧ wpAnyT P ops Q S0 T0 fuel (listed.setIfInBounds i true) a' w') a w

theorem wpAny_of_T : ∀ (fuel : Nat) (listed : Array Bool) (a : Act) (w : World), wpAnyT P ops Q S0 T0 fuel listed a w → wpAny P .any ops Q fuel listed a w
  | 0, _, _, _, h => h
  | fuel + 1, _, _, _, h => ⟨h.1, fun i hi => wpOp_mono (fun a' w' h' => wpAny_of_T fuel _ a' w' h'.2) (h.2 i hi)⟩

/-- What is listed, and all that it waits for. -/
def Closed (ops : Array Oper) (listed : Array Bool) : Prop := ∀ j o, ops[j]? = some o → listed.getD j false = true → ∀ e ∈ o.after, Region.binds .any e = true → listed.getD e.on false = true

theorem Closed.set {listed : Array Bool} (hc : Closed ops listed) {i : Nat} (hi : i ∈ Region.ready .any ops listed) : Closed ops (listed.setIfInBounds i true) := by
  intro j o ho hj e he hb
  by_cases hij : i = j
  · subst hij
    obtain ⟨_, o', ho', hall⟩ := mem_ready.1 hi
    rw [ho] at ho'
    cases ho'
    exact getD_set_true (hall e he hb)
  · rw [getD_set_ne false hij] at hj
    exact getD_set_true (hc j o ho hj e he hb)

/-- 'j' comes up behind 'i' only. -/
def waits (ops : Array Oper) (i : Nat) : Nat → Nat → Bool
  | 0, _ => false
  | f + 1, j => match ops[j]? with
    | some o => o.after.any fun e => Region.binds .any e && (e.on == i || waits ops i f e.on)
    | none => false

theorem waits_listed {listed : Array Bool} (hc : Closed ops listed) {i : Nat} : ∀ (f j : Nat), waits ops i f j = true → listed.getD j false = true → listed.getD i false = true
  | 0, j, h, _ => by simp [waits] at h
  | f + 1, j, h, hj => by
    simp only [waits] at h
    split at h
    · rename_i o ho
      obtain ⟨e, he, hb⟩ := Array.any_eq_true'.1 h
      simp only [Bool.and_eq_true, Bool.or_eq_true, beq_iff_eq] at hb
      have hl := hc j o ho hj e he hb.1
      rcases hb.2 with h1 | h1
      · rw [← h1]; exact hl
      · exact waits_listed hc f e.on h1 hl
    · simp at h

theorem waits_ready {listed : Array Bool} (hc : Closed ops listed) {i : Nat} (f j : Nat) (h : waits ops i f j = true) (hj : j ∈ Region.ready .any ops listed) : listed.getD i false = true := by
  cases f with
  | zero => simp [waits] at h
  | succ f =>
    simp only [waits] at h
    obtain ⟨_, o, ho, hall⟩ := mem_ready.1 hj
    simp only [ho] at h
    obtain ⟨e, he, hb⟩ := Array.any_eq_true'.1 h
    simp only [Bool.and_eq_true, Bool.or_eq_true, beq_iff_eq] at hb
    have hl := hall e he hb.1
    rcases hb.2 with h1 | h1
    · rw [← h1]; exact hl
    · exact waits_listed hc f e.on h1 hl

theorem getD_ff {listed : Array Bool} {i : Nat} (h : listed.getD i true = false) : listed.getD i false = false := by
  rcases Nat.lt_or_ge i listed.size with h' | h'
  · simp [h'] at h ⊢; exact h
  · simp [Array.getElem?_eq_none h'] at h

theorem wpAnyT_first {S1 : World → Prop} {i : Nat} {oi : Oper} {v : Value} (hi : ops[i]? = some oi) (hsel : ∀ (j : Nat) (o : Oper) cs b, ops[j]? = some o → o.op ≠ .select cs b)
    (hQ : ∀ c a w, Q (.panic c) (a.put oi.dst v) w → Q (.panic c) a w) (hS1 : (∀ w, S1 w) ∨ S1 = S0) :
    ∀ (fuel : Nat) (listed : Array Bool) (a : Act) (w : World),
      (∀ j oj, ops[j]? = some oj → j ≠ i → listed.getD j true = false → (∀ e ∈ oj.after, Region.binds .any e = true → e.on ≠ i) → oi.apart ops oj = true) →
      ((∀ w, S1 w) ∨ ∀ j, T0 j = false → listed.getD j true = true ∨ ∃ f, waits ops i f j = true) → Closed ops listed →
      i ∈ Region.ready .any ops listed → YieldsIf P ops S1 oi v a → S1 w →
      wpAnyT P ops Q S0 T0 fuel (listed.setIfInBounds i true) (a.put oi.dst v) w → wpAnyT P ops Q S0 T0 (fuel + 1) listed a w := by
  intro fuel
  induction fuel with
  | zero =>
    intro listed a w _ _ _ hr hy hS H
    refine ⟨fun h => (by rw [h] at hr; cases hr), fun j hj => ?_⟩
    by_cases hji : j = i
    · subst hji; exact hy.wpOp hi hS ⟨fun _ h => h, H⟩
    · have := ready_mono hj hji
      rw [H.1] at this
      cases this
  | succ fuel ih =>
    intro listed a w hfree hwait hcl hr hy hS H
    refine ⟨fun h => (by rw [h] at hr; cases hr), fun j hj => ?_⟩
    by_cases hji : j = i
    · subst hji; exact hy.wpOp hi hS ⟨fun _ h => h, H⟩
    · have h1 := H.2 j (ready_mono hj hji)
      obtain ⟨hjun, oj, hoj, hall⟩ := mem_ready.1 hj
      have hnot : ∀ e ∈ oj.after, Region.binds .any e = true → e.on ≠ i := fun e he hb heq => by
        have h1 := hall e he hb
        have h0 := getD_ff (mem_ready.1 hr).1
        rw [heq] at h1
        rw [h1] at h0
        cases h0
      have h2 := wpOp_putIf hoj (hfree j oj hoj hji hjun hnot) (fun cs b => hsel i oi cs b hi) (fun cs b => hsel j oj cs b hoj) hQ hy h1
      have hfree' : ∀ k ok, ops[k]? = some ok → k ≠ i → (listed.setIfInBounds j true).getD k true = false →
          (∀ e ∈ ok.after, Region.binds .any e = true → e.on ≠ i) → oi.apart ops ok = true := fun k ok hk hki hun hno => by
        refine hfree k ok hk hki ?_ hno
        by_cases hjk : j = k
        · subst hjk; exact hjun
        · rw [getD_set_ne true hjk] at hun; exact hun
      have hwait' : (∀ w, S1 w) ∨ ∀ k, T0 k = false → (listed.setIfInBounds j true).getD k true = true ∨ ∃ f, waits ops i f k = true := by
        refine hwait.imp id fun h k hk => (h k hk).imp (fun h => ?_) id
        by_cases hjk : j = k
        · subst hjk; rw [h] at hjun; cases hjun
        · rw [getD_set_ne true hjk]; exact h
      have hkeep : ∀ w', (T0 j = true → S0 w → S0 w') → S1 w' := by
        intro w' hw'
        rcases hwait with h | h
        · exact h w'
        · rcases hS1 with h3 | rfl
          · exact h3 w'
          cases hT : T0 j with
          | true => exact hw' hT hS
          | false =>
            rcases h j hT with h3 | ⟨f, h3⟩
            · rw [h3] at hjun; cases hjun
            · have h0 := getD_ff (mem_ready.1 hr).1
              rw [waits_ready hcl f j h3 hj] at h0
              cases h0
      refine wpOp_mono (fun a' w' h3 => ⟨h3.2.1, ih (listed.setIfInBounds j true) a' w' hfree' hwait' (hcl.set hj) (ready_mono hr (Ne.symm hji)) h3.1 (hkeep w' h3.2.1) ?_⟩) h2
      rw [Array.setIfInBounds_comm _ _ hji]
      exact h3.2.2

/-! ### One operation -/
/-- An operation that may change what there was. -/
def memO : Op → Bool
  | .box _ _ | .alloc _ | .buildSlice _ _ _ | .makeSlice _ _ _ | .makeMap _ _ => false
  | _ => true
def notProc (E : Env) (fn : Option (Nat × List I)) : Prop :=
  match fn with
  | some (f, _) => E.pf f ≠ .proc
  | none => True
/-- It keeps all that there was. -/
def keepO (E : Env) (fr : Fr) (o : Oper) : Prop :=
  match isCall o.op with
  | some (g, _) => notProc E (fnOf (evx fr g))
  | none => quietO o.op = true ∨ memO o.op = false

def nQ (K : Fr → List R → Prop) : Post := fun e fr H => match e with | .normal => K fr H | _ => False
@[go_sem] theorem nQ_normal {K : Fr → List R → Prop} {fr : Fr} {H : List R} : nQ K .normal fr H = K fr H := rfl

variable {E : Env} {S : Nat → Prop} {φ : List (List Nat)} {H : List R} {w : World} {fr : Fr} {a : Act} {n : Nat}

theorem sopI_kill {T : Nat → Option TI} {fr : Fr} {H : List R} {op : Op} {vc : Prop} {x : I} {H' : List R} (h : sopI T fr H op = some (vc, x, H')) (hm : memO op = false) :
    ∃ H'', sopI T fr (killH H.length H) op = some (vc, x, H'') := by
  have hl : (killH H.length H).length = H.length := killH_length _ _
  cases op with
  | box e y =>
    simp only [sopI, sBox] at h ⊢
    cases hT : T e with
    | none => simp [hT, andCI] at h
    | some ti =>
      simp only [hT] at h ⊢
      cases hc : cellsI ti (evx fr y) with
      | none => simp [hc, andCI] at h
      | some p =>
        simp only [hc, andCI, Option.some.injEq, Prod.mk.injEq, hl] at h ⊢
        exact ⟨_, h.1, h.2.1, rfl⟩
  | alloc e =>
    simp only [sopI, sAlloc] at h ⊢
    cases hT : T e with
    | none => simp [hT] at h
    | some ti =>
      simp only [hT, Option.some.injEq, Prod.mk.injEq, hl] at h ⊢
      exact ⟨_, h.1, h.2.1, rfl⟩
  | buildSlice t len parts =>
    simp only [sopI, sLit] at h ⊢
    cases hT : T t with
    | none => simp [hT, andCI] at h
    | some ti =>
      simp only [hT] at h ⊢
      cases hy : ti.ty with
      | slice e =>
        simp only [hy] at h ⊢
        cases he : T e with
        | none => simp [he, andCI] at h
        | some ei =>
          simp only [he] at h ⊢
          cases hp : litParts ei.size 0 (evParts fr parts.toList) with
          | none => simp [hp, andCI] at h
          | some p =>
            simp only [hp, andCI, Option.some.injEq, Prod.mk.injEq, hl] at h ⊢
            exact ⟨_, h.1, h.2.1, rfl⟩
      | _ => simp [hy, andCI] at h
  | makeSlice t l c =>
    simp only [sopI, sMake] at h ⊢
    split at h
    · rename_i ti x y hT hx hy
      cases hy : ti.ty with
      | slice e =>
        simp only [hy] at h ⊢
        cases he : T e with
        | none => simp [he, andCI] at h
        | some ei =>
          simp only [he, andCI, Option.some.injEq, Prod.mk.injEq, hl] at h ⊢
          exact ⟨_, h.1, h.2.1, rfl⟩
      | _ => simp [hy, andCI] at h
    · simp [andCI] at h
  | makeMap t r =>
    cases r with
    | some r => simp [sopI] at h
    | none =>
      simp only [sopI, sMakeMap] at h ⊢
      split at h
      · simp only [Option.some.injEq, Prod.mk.injEq, hl] at h ⊢
        exact ⟨_, h.1, h.2.1, rfl⟩
      · simp at h
  | _ => simp [memO] at hm

theorem foot_kill (φ : List (List Nat)) (hl : φ.length = H.length) (b : Nat) : ¬ Foot (killF H.length φ) b := by
  rintro ⟨i, hi⟩
  rw [killF_get] at hi
  split at hi
  · simp at hi
  · simp [List.getD, List.getElem?_eq_none (show φ.length ≤ i by omega)] at hi

theorem sopI_keep (hT : TOK E.P E.T) (s : Sim S φ H w) (hf : FrR S φ H w fr a) {o : Oper} (hnc : isCall o.op = none) {vc : Prop} {x : I} {H' : List R} (hp : sopI E.T fr H o.op = some (vc, x, H')) (hvc : vc) {v : Value} {w' : World}
    (hr : (execOp a.eval o).run E.P w = .ok (.value v) w' ∨ ((execOp a.eval o).run E.P w = .ok .skip w' ∧ v = undef)) : keepO E fr o → Agree w w' := by
  intro hko
  simp only [keepO, hnc] at hko
  rcases hko with hq | hmem
  · exfalso
    obtain ⟨dst, op, ty, pos, after, guard⟩ := o
    simp only at hp hq hnc
    cases op with
    | call c =>
      obtain ⟨callee, cargs, tys⟩ := c
      cases callee with
      | builtin b => cases b <;> simp [quietO] at hq <;> simp [sopI] at hp
      | value g => simp [isCall] at hnc
      | _ => simp [quietO] at hq
    | _ => first | (simp [quietO] at hq; done) | (simp [sopI] at hp; done)
  · obtain ⟨H'', hp2⟩ := sopI_kill hp hmem
    obtain ⟨s1, t1⟩ := s.kill H.length
    obtain ⟨v2, w2, φ2, hr2, s2, _, he2, _⟩ := sopI_sound hT s1 (hf.tr t1) hp2 hvc
    have hww : w2 = w' := by
      rcases hr with h1 | ⟨h1, _⟩ <;> rcases hr2 with h2 | ⟨h2, _⟩ <;> rw [h1] at h2 <;> injection h2 with _ h3 <;> exact h3.symm
    rw [← hww]
    exact fun b hb => he2.keep b hb (foot_kill φ s.len b)

/-- What one operation leaves. -/
def Left (E : Env) (S : Nat → Prop) (φ : List (List Nat)) (H : List R) (w : World) (K : Fr → List R → Prop) (a' : Act) (w' : World) : Prop :=
  ∃ S' φ' fr' H', Sim S' φ' H' w' ∧ FrR S' φ' H' w' fr' a' ∧ Ext S φ w S' φ' w' ∧ Tr E.n S φ H w S' φ' H' w' ∧ K fr' H'

theorem callM_left {f : Operand} {args : List Operand} {o : Oper} (ho : isCall o.op = some (f, args)) (s : Sim S φ H w) (hf : FrR S φ H w fr a)
    {Kc : I → List R → Prop} (h : callM E (evc fr f ∧ evcs fr args) (fnOf (evx fr f)) (evs fr args) H Kc) {Qr : Exit → Act → World → Prop} {Kr : Act → World → Prop}
    (hK : ∀ S' φ' H' w' r v, Sim S' φ' H' w' → FrR S' φ' H' w' fr a → V S' φ' H' w' r v → Ext S φ w S' φ' w' → Tr H.length S φ H w S' φ' H' w' → (notProc E (fnOf (evx fr f)) → Agree w w') → Kc r H' → Kr (a.put o.dst v) w') : o.wp E.P a w Kr Qr := by
  unfold callM at h
  split at h
  · rename_i g caps hfn
    have common : (evc fr f ∧ evcs fr args) → ∃ vs, a.eval f = .func (.func g) #[] vs ∧ ((args.map a.eval).toArray ++ vs).size = (evs fr args ++ caps).length ∧
        ∀ j, j < (evs fr args ++ caps).length → V S φ H w ((evs fr args ++ caps).getD j .junk) (((args.map a.eval).toArray ++ vs).getD j undef) := by
      rintro ⟨hc1, hc2⟩
      obtain ⟨vs, e1, e2, e3⟩ := fnOf_sound (hf.evx f hc1) hfn
      obtain ⟨l1, l2⟩ := evs_sound hf args hc2
      obtain ⟨m1, m2⟩ := args_sound (va := (args.map a.eval).toArray) (by simp [l1]) (fun j hj => l2 j (by omega)) e2 e3
      exact ⟨vs, e1, m1, m2⟩
    split at h
    · split at h
      · rename_i vc ds hv
        obtain ⟨hc, hvc, ψ, hp, hk⟩ := h
        obtain ⟨vs, e1, e2, e3⟩ := common hc
        refine oper_wp_enter (run_call ho e1 hp.1 w) (hp.2 (Lent S φ) _ w _ (fun b hb => hb.elim (s.slt b) (s.lt b)) (viewF_args (fun x v vc d h1 h2 h3 => view_sound s 3 h1 h2 h3) e2 e3 hv hvc) ?_)
        intro x v w' fp hx how hnd hfp hg
        rcases hk x hx with hk | ⟨r, H', hu, hk⟩
        · obtain ⟨s1, s2, s3⟩ := grow_ext s hg (fun b => S b ∨ b ∈ fp) (fun b h => .inl h) (fun b h => h.imp id (hfp b)) (fun b h => h.elim (fun h => Nat.lt_of_lt_of_le (s.slt b h) hg.size) (how.lt b))
          exact hK _ _ _ _ _ _ s1 (hf.tr s2) (.d (how.fz fun b hb => .inr hb)) s3 s2 (fun _ => hg.keep) hk
        · obtain ⟨S', φ', s1, s2, s3, hv⟩ := hu S φ w w' v fp s how hnd hfp hg
          exact hK _ _ _ _ _ _ s1 (hf.tr s2) hv s3 s2 (fun _ => hg.keep) hk
      · exact h.elim
    · split at h
      · rename_i vc ds hv
        obtain ⟨hc, hvc, ψ, hp, hk⟩ := h
        obtain ⟨vs, e1, e2, e3⟩ := common hc
        refine oper_wp_enter (run_call ho e1 hp.1 w) (hp.2 S _ w _ s.slt (viewF_args datas_fz e2 e3 hv hvc) ?_)
        intro x v w' S' hx h1 h2 h3 hz hg
        obtain ⟨s1, s2, s3⟩ := grow_ext s hg S' h1 h2 h3
        exact hK _ _ _ _ _ _ s1 (hf.tr s2) (.d hz) s3 s2 (fun _ => hg.keep) (hk x hx)
      · exact h.elim
    · rename_i hpf
      obtain ⟨hc, hp⟩ := h
      obtain ⟨vs, e1, e2, e3⟩ := common hc
      refine oper_wp_enter (run_call ho e1 hp.1 w) (hp.2 S φ _ w _ s e2 e3 ?_)
      intro v w' S' φ' r H' s1 hv s3 s2 hk
      exact hK _ _ _ _ _ _ s1 (hf.tr s2) hv s3 s2 (fun hne => by simp only [hfn, notProc] at hne; exact absurd hpf hne) hk
  · exact h.elim

set_option maxHeartbeats 1000000 in
theorem step_left (hT : TOK E.P E.T) {all : List Oper} {o : Oper} {K : Fr → List R → Prop} (F : Nat) (hn : E.n ≤ H.length) (s : Sim S φ H w) (hf : FrR S φ H w fr a)
    (h : ops' E F all [o] [] (nQ K) fr H) {Kr : Act → World → Prop} {Qr : Exit → Act → World → Prop} (hK : ∀ a' w', (keepO E fr o → Agree w w') → Left E S φ H w K a' w' → Kr a' w') :
    if Region.wanted o (yielded all.toArray a.tmps) then o.wp E.P a w Kr Qr ∨ (o.asks E.P a w ∧ LetsOut Qr) else Kr (a.put o.dst undef) w := by
  have fin : ∀ (f : Nat) {fr' : Fr} {H' : List R}, ops' E f all [] [] (nQ K) fr' H' → K fr' H' := by
    intro f fr' H' h
    match f with
    | 0 => simp only [ops'] at h
    | 1 => simp only [ops', exec] at h
    | f + 2 => simpa only [ops', exec, nQ] using h
  have same : ∀ {fr' : Fr} {a' : Act}, FrR S φ H w fr' a' → K fr' H → Kr a' w := fun hf' hk => hK _ _ (fun _ => Agree.refl w) ⟨S, φ, _, H, s, hf', Ext.refl .., Tr.refl hn, hk⟩
  match F with
  | 0 => simp only [ops'] at h
  | F + 1 =>
  simp only [ops'] at h
  split at h
  · rename_i hgd
    have hw : Region.wanted o (yielded all.toArray a.tmps) = true := by simp only [Region.wanted, hgd]
    simp only [hw, if_true]
    left
    split at h
    · rename_i g args ho
      refine callM_left ho s hf h fun S' φ' H' w' r v s' hf' hv he ht hag hk => hK _ _ (fun hk => hag (by simpa only [keepO, ho] using hk)) ?_
      match F with
      | 0 => simp only [opsK] at hk
      | f + 1 =>
        simp only [opsK] at hk
        exact ⟨S', φ', _, H', s', hf'.put o.dst hv, he, ht.weaken hn, fin _ hk⟩
    · rename_i hnc
      split at h
      · rename_i vc x hp
        obtain ⟨hvc, hk⟩ := h
        obtain ⟨v, hv, hr⟩ := sopP_sound hT s hf hp hvc
        unfold Oper.wp
        rw [hr w (fun _ => Agree.refl w), Oper.upon_value]
        exact same (hf.put o.dst hv) (fin _ hk)
      · rename_i hnP
        split at h
        · rename_i vc x H' hp
          obtain ⟨hvc, hk⟩ := h
          obtain ⟨v, w', φ', hr, s', ht, he, hv⟩ := sopI_sound hT s hf hp hvc
          have hag : keepO E fr o → Agree w w' := sopI_keep hT s hf hnc hp hvc hr
          have fin2 : Kr (a.put o.dst v) w' := hK _ _ hag ⟨S, φ', _, H', s', (hf.tr ht).put o.dst hv, he, ht.weaken hn, fin _ hk⟩
          unfold Oper.wp
          rcases hr with hr | ⟨hr, rfl⟩
          · rw [hr, Oper.upon_value]; exact fin2
          · rw [hr, Oper.upon_skip]; exact fin2
        · split at h
          · rename_i vc x H' hp
            obtain ⟨hvc, hk⟩ := h
            obtain ⟨v, w', φ', hr, hag, s', ht, he, hv, _⟩ := sopO_sound' hT s hf hp hvc
            have fin2 : Kr (a.put o.dst v) w' := hK _ _ (fun _ => hag) ⟨S, φ', _, H', s', (hf.tr ht).put o.dst hv, he, ht.weaken hn, fin _ hk⟩
            unfold Oper.wp
            rw [hr, Oper.upon_value]; exact fin2
          split at h
          · rename_i fc fr1 H1 hfz
            split at h
            · rename_i vc x H' hp
              obtain ⟨hfc, hvc, hk⟩ := h
              obtain ⟨S1, φ1, s1, hf1, e1, t1⟩ := frzOp_sound s hf hfz hfc
              obtain ⟨v, w', φ', hr, s', ht, he, hv⟩ := sopI_sound hT s1 hf1 hp hvc
              have hn1 := Nat.le_trans hn t1.len
              have hag : keepO E fr o → Agree w w' := fun _ => sopI_keep hT s1 hf1 hnc hp hvc hr (by
                obtain ⟨_, _, _, hop⟩ := frzOp_build hfz
                simp [keepO, hop, isCall, memO])
              have fin2 : Kr (a.put o.dst v) w' := hK _ _ hag ⟨S1, φ', _, H', s', (hf1.tr ht).put o.dst hv, e1.trans he, (t1.weaken hn).trans (ht.weaken hn1), fin _ hk⟩
              unfold Oper.wp
              rcases hr with hr | ⟨hr, rfl⟩
              · rw [hr, Oper.upon_value]; exact fin2
              · rw [hr, Oper.upon_skip]; exact fin2
            · exact h.elim
          · exact h.elim
  · rename_i j want hgd
    split at h
    · rename_i gc e hg
      have wanted : gc → Region.wanted o (yielded all.toArray a.tmps) = e := by
        intro hgc
        exact guardOf_sound hf hgd hg hgc
      split at h
      · rename_i g args ho
        obtain ⟨hgc, h⟩ := h
        rw [wanted hgc]
        unfold callN at h
        split at h
        · rename_i g' caps hfn
          split at h
          · rename_i hpf
            split at h
            · rename_i vc ds hv
              obtain ⟨hc, x, hp, hk⟩ := h
              match F with
              | 0 => simp only [opsG] at hk
              | F + 1 =>
              simp only [opsG] at hk
              cases e with
              | false =>
                simp only [Bool.false_eq_true, if_false]
                exact same (hf.skip o.dst rfl _) (fin _ hk)
              | true =>
                simp only [if_true]
                left
                obtain ⟨hc, hvc⟩ := hc rfl
                have hp := hp rfl
                refine callM_left (E := E) ho s hf (Kc := fun r H' => H' = H ∧ r = .d x) ?_ ?_
                · simp only [callM, hfn, hpf, hv]
                  exact ⟨hc, hvc, fun y => y = x, hp.toE, fun y hy => .inl ⟨rfl, by rw [hy]⟩⟩
                · rintro S' φ' H' w' r v s' hf' hv' he ht hag ⟨rfl, rfl⟩
                  exact hK _ _ (fun hk => hag (by simpa only [keepO, ho] using hk)) ⟨S', φ', _, _, s', hf'.put o.dst (.cond (fun _ => hv') fun h => by cases h), he, ht.weaken hn, fin _ hk⟩
            · exact h.elim
          · rename_i hpf
            cases e with
            | false =>
              obtain ⟨x, hk⟩ := h.1 rfl
              match F with
              | 0 => simp only [opsG] at hk
              | F + 1 =>
              simp only [opsG] at hk
              simp only [Bool.false_eq_true, if_false]
              exact same (hf.skip o.dst rfl _) (fin _ hk)
            | true =>
              simp only [if_true]
              left
              obtain ⟨hc, hp⟩ := h.2 rfl
              refine callM_left (E := E) ho s hf (Kc := fun r H' => opsG E F all [] [] (nQ K) fr o.dst H' (.cond true r)) ?_ ?_
              · simp only [callM, hfn, hpf]
                exact ⟨hc, hp⟩
              · intro S' φ' H' w' r v s' hf' hv' he ht hag hk
                match F with
                | 0 => simp only [opsG] at hk
                | F + 1 =>
                simp only [opsG] at hk
                exact hK _ _ (fun hk => hag (by simpa only [keepO, ho] using hk)) ⟨S', φ', _, _, s', hf'.put o.dst (.cond (fun _ => hv') fun h => by cases h), he, ht.weaken hn, fin _ hk⟩
          · exact h.elim
        · exact h.elim
      · split at h
        · rename_i vc x hp
          obtain ⟨hgc, hvc, hk⟩ := h
          rw [wanted hgc]
          cases e with
          | false =>
            simp only [Bool.false_eq_true, if_false]
            exact same (hf.skip o.dst rfl _) (fin _ hk)
          | true =>
            simp only [if_true]
            left
            obtain ⟨v, hv, hr⟩ := sopP_sound hT s hf hp (hvc rfl)
            unfold Oper.wp
            rw [hr w (fun _ => Agree.refl w), Oper.upon_value]
            exact same (hf.put o.dst (.cond (fun _ => hv) fun h => by cases h)) (fin _ hk)
        · rename_i hnP
          split at h
          · rename_i vc x H' hp
            obtain ⟨hgc, hk0, hk1⟩ := h
            rw [wanted hgc]
            cases e with
            | false =>
              obtain ⟨y, hk⟩ := hk0 rfl
              simp only [Bool.false_eq_true, if_false]
              exact same (hf.skip o.dst rfl _) (fin _ hk)
            | true =>
              obtain ⟨hvc, hk⟩ := hk1 rfl
              simp only [if_true]
              left
              obtain ⟨v, w', φ', hr, s', ht, he, hv⟩ := sopI_sound hT s hf hp hvc
              have fin2 : Kr (a.put o.dst v) w' := hK _ _ (sopI_keep hT s hf (by assumption) hp hvc hr) ⟨S, φ', _, H', s', (hf.tr ht).put o.dst (.cond (fun _ => hv) fun h => by cases h), he, ht.weaken hn, fin _ hk⟩
              unfold Oper.wp
              rcases hr with hr | ⟨hr, rfl⟩
              · rw [hr, Oper.upon_value]; exact fin2
              · rw [hr, Oper.upon_skip]; exact fin2
          · exact h.elim
    · exact h.elim

/-- An operation that only yields a value. -/
def plainO (o : Oper) : Bool := quietO o.op && (isCall o.op).isNone

theorem fst_left (hT : TOK E.P E.T) {all : List Oper} {o : Oper} {K : Fr → List R → Prop} (F : Nat) (hn : E.n ≤ H.length) (s : Sim S φ H w) (hf : FrR S φ H w fr a) (hq : plainO o = true)
    (h : ops' E F all [o] [] (nQ K) fr H) : ∃ v fr' φ' H', Sim S φ' H' w ∧ Ext S φ w S φ' w ∧ Tr E.n S φ H w S φ' H' w ∧ FrR S φ' H' w fr' (a.put o.dst v) ∧ K fr' H' ∧ YieldsIf E.P all.toArray (fun w' => readsO o.op = true → Agree w w') o v a := by
  have fin : ∀ (f : Nat) {fr' : Fr} {H' : List R}, ops' E f all [] [] (nQ K) fr' H' → K fr' H' := by
    intro f fr' H' h
    match f with
    | 0 => simp only [ops'] at h
    | 1 => simp only [ops', exec] at h
    | f + 2 => simpa only [ops', exec, nQ] using h
  simp only [plainO, Bool.and_eq_true, Option.isNone_iff_eq_none] at hq
  have noI : ∀ {vc : Prop} {x : I} {H' : List R}, sopI E.T fr H o.op = some (vc, x, H') → False := by
    intro vc x H' hp
    obtain ⟨dst, op, ty, pos, after, guard⟩ := o
    simp only at hp hq
    cases op with
    | call c =>
      obtain ⟨callee, cargs, tys⟩ := c
      cases callee with
      | builtin b => cases b <;> simp [quietO] at hq <;> simp [sopI] at hp
      | value g => simp [isCall] at hq
      | _ => simp [quietO] at hq
    | _ => first | (simp [quietO] at hq; done) | (simp [sopI] at hp; done)
  match F with
  | 0 => simp only [ops'] at h
  | F + 1 =>
  simp only [ops', hq.2] at h
  split at h
  · rename_i hgd
    have hw : Region.wanted o (yielded all.toArray a.tmps) = true := by simp only [Region.wanted, hgd]
    split at h
    · rename_i vc x hp
      obtain ⟨hvc, hk⟩ := h
      obtain ⟨v, hv, hr⟩ := sopP_sound hT s hf hp hvc
      exact ⟨v, _, φ, H, s, Ext.refl .., Tr.refl hn, hf.put o.dst hv, fin _ hk, .inl ⟨hw, fun w' hw' => hr w' hw'⟩⟩
    · split at h
      · rename_i vc x H' hp
        exact (noI hp).elim
      · split at h
        · rename_i vc x H' hp
          obtain ⟨hvc, hk⟩ := h
          obtain ⟨v, w', φ', hr, hag, s', ht, he, hv, hl⟩ := sopO_sound' hT s hf hp hvc
          have hld : ∃ t q, o.op = .load t q := by
            rcases sopO_kind hp with ⟨t, n, q, h⟩ | h
            · rw [h] at hq; simp [quietO] at hq
            · exact h
          obtain ⟨rfl, hl⟩ := hl hld
          exact ⟨v, _, φ', H', s', he, ht.weaken hn, (hf.tr ht).put o.dst hv, fin _ hk, .inl ⟨hw, fun w2 hw2 => hl w2 (hw2 (by obtain ⟨t, q, h⟩ := hld; rw [h]; rfl))⟩⟩
        split at h
        · rename_i fc fr1 H1 hfz
          obtain ⟨_, _, _, hop⟩ := frzOp_build hfz
          rw [hop] at hq
          simp [quietO] at hq
        · exact h.elim
  · rename_i j want hgd
    split at h
    · rename_i gc e hg
      have wanted : gc → Region.wanted o (yielded all.toArray a.tmps) = e := by
        intro hgc
        exact guardOf_sound hf hgd hg hgc
      split at h
      · rename_i vc x hp
        obtain ⟨hgc, hvc, hk⟩ := h
        have hw := wanted hgc
        cases e with
        | false => exact ⟨undef, _, φ, H, s, Ext.refl .., Tr.refl hn, hf.skip o.dst rfl _, fin _ hk, .inr ⟨hw, rfl⟩⟩
        | true =>
          obtain ⟨v, hv, hr⟩ := sopP_sound hT s hf hp (hvc rfl)
          exact ⟨v, _, φ, H, s, Ext.refl .., Tr.refl hn, hf.put o.dst (.cond (fun _ => hv) fun h => by cases h), fin _ hk, .inl ⟨hw, fun w' hw' => hr w' hw'⟩⟩
      · split at h
        · rename_i vc x H' hp
          exact (noI hp).elim
        · exact h.elim
    · exact h.elim

/-! ### The orders of a region, as a tree -/
inductive Sch where
  | done
  | fst (i : Nat) (t : Sch)
  | one (i : Nat) (t : Sch)
  | two (i : Nat) (t : Sch) (j : Nat) (u : Sch)
  | three (i : Nat) (t : Sch) (j : Nat) (u : Sch) (k : Nat) (v : Sch)
  | four (i : Nat) (t : Sch) (j : Nat) (u : Sch) (k : Nat) (v : Sch) (m : Nat) (y : Sch)

/-- 'tails': what may change memory; it waits for all that is read first. 'ph': nothing has changed yet. -/
def chkS (ops : Array Oper) (tails : List Nat) : Array Bool → Bool → Sch → Bool
  | listed, _, .done => (Region.ready .any ops listed).isEmpty
  | listed, ph, .fst i t =>
    (Region.ready .any ops listed).contains i && Region.free .any ops listed i && (match ops[i]? with | some o => plainO o && (!readsO o.op || (ph && tails.all fun j => listed.getD j true || waits ops i ops.size j)) | none => false) &&
      chkS ops tails (listed.setIfInBounds i true) ph t
  | listed, ph, .one i t => Region.ready .any ops listed == [i] && (ops[i]?).isSome && chkS ops tails (listed.setIfInBounds i true) false t
  | listed, ph, .two i t j u => Region.ready .any ops listed == [i, j] && (ops[i]?).isSome && (ops[j]?).isSome && chkS ops tails (listed.setIfInBounds i true) false t && chkS ops tails (listed.setIfInBounds j true) false u
  | listed, ph, .three i t j u k v => Region.ready .any ops listed == [i, j, k] && (ops[i]?).isSome && (ops[j]?).isSome && (ops[k]?).isSome && chkS ops tails (listed.setIfInBounds i true) false t && chkS ops tails (listed.setIfInBounds j true) false u && chkS ops tails (listed.setIfInBounds k true) false v
  | listed, ph, .four i t j u k v m y => Region.ready .any ops listed == [i, j, k, m] && (ops[i]?).isSome && (ops[j]?).isSome && (ops[k]?).isSome && (ops[m]?).isSome && chkS ops tails (listed.setIfInBounds i true) false t && chkS ops tails (listed.setIfInBounds j true) false u && chkS ops tails (listed.setIfInBounds k true) false v && chkS ops tails (listed.setIfInBounds m true) false y

def opAt (l : List Oper) (i : Nat) : Oper := l.getD i ⟨none, .move (.const undef), 0, "", #[], none⟩

def runS (E : Env) (F : Nat) (l : List Oper) (tails : List Nat) (K : Fr → List R → Prop) : Sch → Fr → List R → Prop
  | .done, fr, H => K fr H
  | .fst i t, fr, H => ops' E F l [opAt l i] [] (nQ (runS E F l tails K t)) fr H
  | .one i t, fr, H => (tails.contains i = false → keepO E fr (opAt l i)) ∧ ops' E F l [opAt l i] [] (nQ (runS E F l tails K t)) fr H
  | .two i t j u, fr, H => ((tails.contains i = false → keepO E fr (opAt l i)) ∧ ops' E F l [opAt l i] [] (nQ (runS E F l tails K t)) fr H) ∧
      ((tails.contains j = false → keepO E fr (opAt l j)) ∧ ops' E F l [opAt l j] [] (nQ (runS E F l tails K u)) fr H)
  | .three i t j u k v, fr, H => ((tails.contains i = false → keepO E fr (opAt l i)) ∧ ops' E F l [opAt l i] [] (nQ (runS E F l tails K t)) fr H) ∧
      ((tails.contains j = false → keepO E fr (opAt l j)) ∧ ops' E F l [opAt l j] [] (nQ (runS E F l tails K u)) fr H) ∧
      ((tails.contains k = false → keepO E fr (opAt l k)) ∧ ops' E F l [opAt l k] [] (nQ (runS E F l tails K v)) fr H)
  | .four i t j u k v m y, fr, H =>
      ((tails.contains i = false → keepO E fr (opAt l i)) ∧ ops' E F l [opAt l i] [] (nQ (runS E F l tails K t)) fr H) ∧
      ((tails.contains j = false → keepO E fr (opAt l j)) ∧ ops' E F l [opAt l j] [] (nQ (runS E F l tails K u)) fr H) ∧
      ((tails.contains k = false → keepO E fr (opAt l k)) ∧ ops' E F l [opAt l k] [] (nQ (runS E F l tails K v)) fr H) ∧
      ((tails.contains m = false → keepO E fr (opAt l m)) ∧ ops' E F l [opAt l m] [] (nQ (runS E F l tails K y)) fr H)

theorem opAt_get {l : List Oper} {i : Nat} {o : Oper} (h : l.toArray[i]? = some o) : opAt l i = o := by
  have : l[i]? = some o := by simpa using h
  simp [opAt, List.getD, this]

def Sch.depth : Sch → Nat
  | .done => 0
  | .fst _ t => t.depth + 1
  | .one _ t => t.depth + 1
  | .two _ t _ u => max t.depth u.depth + 1
  | .three _ t _ u _ v => max t.depth (max u.depth v.depth) + 1
  | .four _ t _ u _ v _ y => max (max t.depth y.depth) (max u.depth v.depth) + 1

theorem Left.trans {S0 : Nat → Prop} {φ0 : List (List Nat)} {H0 : List R} {w0 : World} {K : Fr → List R → Prop} {a' : Act} {w' : World} (he : Ext S0 φ0 w0 S φ w) (ht : Tr E.n S0 φ0 H0 w0 S φ H w) (h : Left E S φ H w K a' w') : Left E S0 φ0 H0 w0 K a' w' := by
  obtain ⟨S', φ', fr', H', a1, a2, a3, a4, a5⟩ := h
  exact ⟨S', φ', fr', H', a1, a2, he.trans a3, ht.trans a4, a5⟩

theorem runS_sound (hT : TOK E.P E.T) {F : Nat} {l : List Oper} {tails : List Nat} {K : Fr → List R → Prop} {Qr : Act → World → Prop} {w0 : World} {S0 : Nat → Prop} {φ0 : List (List Nat)} {H0 : List R}
    (hs : Region.noSelect l.toArray = true) (hq : ∀ a' w', Left E S0 φ0 H0 w0 K a' w' → Qr a' w') :
    ∀ (t : Sch) (fuel : Nat) (listed : Array Bool) (ph : Bool) (S : Nat → Prop) (φ : List (List Nat)) (H : List R) (w : World) (fr : Fr) (a : Act),
      Sim S φ H w → FrR S φ H w fr a → Ext S0 φ0 w0 S φ w → Tr E.n S0 φ0 H0 w0 S φ H w → (ph = true → w = w0) → Closed l.toArray listed → chkS l.toArray tails listed ph t = true → t.depth ≤ fuel → runS E F l tails K t fr H →
      wpAnyT E.P l.toArray (fun e a w => match e with | .normal => Qr a w | _ => False) (Agree w0) (fun i => !tails.contains i) fuel listed a w := by
  have agtr : ∀ {w w' : World}, Agree w w' → Agree w0 w → w0.heap.size ≤ w.heap.size → Agree w0 w' := fun h1 h2 h3 b hb => (h1 b (Nat.lt_of_lt_of_le hb h3)).trans (h2 b hb)
  intro t
  induction t with
  | done =>
    intro fuel listed ph S φ H w fr a s hf he ht hph hcl hc hd h
    simp only [chkS, List.isEmpty_iff] at hc
    have hQ : Qr a w := hq _ _ ⟨S, φ, fr, H, s, hf, he, ht, h⟩
    cases fuel with
    | zero => exact ⟨hc, hQ⟩
    | succ f => exact ⟨fun _ => hQ, by rw [hc]; simp⟩
  | fst i t ih =>
    intro fuel listed ph S φ H w fr a s hf he ht hph hcl hc hd h
    match fuel with
    | 0 => simp [Sch.depth] at hd
    | fuel + 1 =>
    simp only [chkS, Bool.and_eq_true, List.contains_iff_mem] at hc
    obtain ⟨⟨⟨hr, hfree⟩, hop⟩, hc⟩ := hc
    split at hop
    case h_2 => simp at hop
    rename_i o ho
    simp only [Bool.and_eq_true, Bool.or_eq_true, Bool.not_eq_true'] at hop
    obtain ⟨hpl, hrd⟩ := hop
    simp only [runS, opAt_get ho] at h
    obtain ⟨v, fr', φ', H', s', he', ht', hf', hk, hy⟩ := fst_left hT F ht.len s hf hpl h
    have next := ih fuel (listed.setIfInBounds i true) ph S φ' H' w fr' (a.put o.dst v) s' hf' (he.trans he') (ht.trans ht') hph (hcl.set hr) hc (by simpa [Sch.depth] using hd) hk
    have hfr := Region.free_spec ho hfree
    cases hro : readsO o.op with
    | false =>
      refine wpAnyT_first (S1 := fun _ => True) ho (Region.noSelect_spec hs) (fun _ _ _ h => h) (.inl fun _ => trivial) fuel listed a w hfr (.inl fun _ => trivial) hcl hr ?_ trivial next
      exact hy.imp (fun ⟨h1, h2⟩ => ⟨h1, fun w' _ => h2 w' (by simp [hro])⟩) id
    | true =>
      rcases hrd with h0 | ⟨h1, h2⟩
      · rw [hro] at h0; cases h0
      · obtain rfl := hph h1
        refine wpAnyT_first (S1 := Agree w) ho (Region.noSelect_spec hs) (fun _ _ _ h => h) (.inr rfl) fuel listed a w hfr (.inr fun j hj => ?_) hcl hr ?_ (Agree.refl w) next
        · simp only [Bool.not_eq_false', List.contains_iff_mem] at hj
          have := List.all_eq_true.1 h2 j hj
          simp only [Bool.or_eq_true] at this
          exact this.imp id fun h => ⟨_, h⟩
        · exact hy.imp (fun ⟨h1, h2⟩ => ⟨h1, fun w' hw' => h2 w' fun _ => hw'⟩) id
  | one i t ih =>
    intro fuel listed ph S φ H w fr a s hf he ht hph hcl hc hd h
    match fuel with
    | 0 => simp [Sch.depth] at hd
    | fuel + 1 =>
    simp only [chkS, Bool.and_eq_true, beq_iff_eq] at hc
    obtain ⟨⟨hr, hop⟩, hc⟩ := hc
    obtain ⟨o, ho⟩ := Option.isSome_iff_exists.1 hop
    simp only [runS, opAt_get ho] at h
    have hmem : i ∈ Region.ready .any l.toArray listed := by rw [hr]; simp
    refine ⟨fun h0 => (by rw [hr] at h0; cases h0), fun k hk => ?_⟩
    rw [hr, List.mem_singleton] at hk
    subst hk
    have := step_left hT (Qr := fun e a w => match e with | .normal => Qr a w | _ => False) (Kr := fun a' w' => ((!tails.contains k) = true → Agree w0 w → Agree w0 w') ∧ wpAnyT E.P l.toArray (fun e a w => match e with | .normal => Qr a w | _ => False) (Agree w0) (fun i => !tails.contains i) fuel (listed.setIfInBounds k true) a' w') F ht.len s hf h.2 (fun a' w' hag hl => ?_)
    · unfold wpOp
      simp only [ho]
      exact this
    · obtain ⟨S', φ', fr', H', b1, b2, b3, b4, b5⟩ := hl
      refine ⟨fun h1 h2 => agtr (hag (h.1 (by simpa using h1))) h2 he.size, ?_⟩
      exact ih fuel _ false S' φ' H' w' fr' a' b1 b2 (he.trans b3) (ht.trans b4) (by simp) (hcl.set hmem) hc (by simpa [Sch.depth] using hd) b5
  | two i t j u ih1 ih2 =>
    intro fuel listed ph S φ H w fr a s hf he ht hph hcl hc hd h
    match fuel with
    | 0 => simp [Sch.depth] at hd
    | fuel + 1 =>
    simp only [chkS, Bool.and_eq_true, beq_iff_eq] at hc
    obtain ⟨⟨⟨⟨hr, hop1⟩, hop2⟩, hc1⟩, hc2⟩ := hc
    obtain ⟨o1, ho1⟩ := Option.isSome_iff_exists.1 hop1
    obtain ⟨o2, ho2⟩ := Option.isSome_iff_exists.1 hop2
    simp only [runS, opAt_get ho1, opAt_get ho2] at h
    have hd' : t.depth ≤ fuel ∧ u.depth ≤ fuel := by simp [Sch.depth] at hd; omega
    refine ⟨fun h0 => (by rw [hr] at h0; cases h0), fun k hk => ?_⟩
    have hmem := hk
    rw [hr, List.mem_cons, List.mem_singleton] at hk
    rcases hk with rfl | rfl
    · have := step_left hT (Qr := fun e a w => match e with | .normal => Qr a w | _ => False) (Kr := fun a' w' => ((!tails.contains k) = true → Agree w0 w → Agree w0 w') ∧ wpAnyT E.P l.toArray (fun e a w => match e with | .normal => Qr a w | _ => False) (Agree w0) (fun i => !tails.contains i) fuel (listed.setIfInBounds k true) a' w') F ht.len s hf h.1.2 (fun a' w' hag hl => ?_)
      · unfold wpOp
        simp only [ho1]
        exact this
      · obtain ⟨S', φ', fr', H', b1, b2, b3, b4, b5⟩ := hl
        refine ⟨fun h1 h2 => agtr (hag (h.1.1 (by simpa using h1))) h2 he.size, ?_⟩
        exact ih1 fuel _ false S' φ' H' w' fr' a' b1 b2 (he.trans b3) (ht.trans b4) (by simp) (hcl.set hmem) hc1 hd'.1 b5
    · have := step_left hT (Qr := fun e a w => match e with | .normal => Qr a w | _ => False) (Kr := fun a' w' => ((!tails.contains k) = true → Agree w0 w → Agree w0 w') ∧ wpAnyT E.P l.toArray (fun e a w => match e with | .normal => Qr a w | _ => False) (Agree w0) (fun i => !tails.contains i) fuel (listed.setIfInBounds k true) a' w') F ht.len s hf h.2.2 (fun a' w' hag hl => ?_)
      · unfold wpOp
        simp only [ho2]
        exact this
      · obtain ⟨S', φ', fr', H', b1, b2, b3, b4, b5⟩ := hl
        refine ⟨fun h1 h2 => agtr (hag (h.2.1 (by simpa using h1))) h2 he.size, ?_⟩
        exact ih2 fuel _ false S' φ' H' w' fr' a' b1 b2 (he.trans b3) (ht.trans b4) (by simp) (hcl.set hmem) hc2 hd'.2 b5
  | three i t j u m v ih1 ih2 ih3 =>
    intro fuel listed ph S φ H w fr a s hf he ht hph hcl hc hd h
    match fuel with
    | 0 => simp [Sch.depth] at hd
    | fuel + 1 =>
    simp only [chkS, Bool.and_eq_true, beq_iff_eq] at hc
    obtain ⟨⟨⟨⟨⟨⟨hr, hop1⟩, hop2⟩, hop3⟩, hc1⟩, hc2⟩, hc3⟩ := hc
    obtain ⟨o1, ho1⟩ := Option.isSome_iff_exists.1 hop1
    obtain ⟨o2, ho2⟩ := Option.isSome_iff_exists.1 hop2
    obtain ⟨o3, ho3⟩ := Option.isSome_iff_exists.1 hop3
    simp only [runS, opAt_get ho1, opAt_get ho2, opAt_get ho3] at h
    have hd' : t.depth ≤ fuel ∧ u.depth ≤ fuel ∧ v.depth ≤ fuel := by simp [Sch.depth] at hd; omega
    refine ⟨fun h0 => (by rw [hr] at h0; cases h0), fun k hk => ?_⟩
    have hmem := hk
    rw [hr, List.mem_cons, List.mem_cons, List.mem_singleton] at hk
    rcases hk with rfl | rfl | rfl
    · have := step_left hT (Qr := fun e a w => match e with | .normal => Qr a w | _ => False) (Kr := fun a' w' => ((!tails.contains k) = true → Agree w0 w → Agree w0 w') ∧ wpAnyT E.P l.toArray (fun e a w => match e with | .normal => Qr a w | _ => False) (Agree w0) (fun i => !tails.contains i) fuel (listed.setIfInBounds k true) a' w') F ht.len s hf h.1.2 (fun a' w' hag hl => ?_)
      · unfold wpOp
        simp only [ho1]
        exact this
      · obtain ⟨S', φ', fr', H', b1, b2, b3, b4, b5⟩ := hl
        refine ⟨fun h1 h2 => agtr (hag (h.1.1 (by simpa using h1))) h2 he.size, ?_⟩
        exact ih1 fuel _ false S' φ' H' w' fr' a' b1 b2 (he.trans b3) (ht.trans b4) (by simp) (hcl.set hmem) hc1 hd'.1 b5
    · have := step_left hT (Qr := fun e a w => match e with | .normal => Qr a w | _ => False) (Kr := fun a' w' => ((!tails.contains k) = true → Agree w0 w → Agree w0 w') ∧ wpAnyT E.P l.toArray (fun e a w => match e with | .normal => Qr a w | _ => False) (Agree w0) (fun i => !tails.contains i) fuel (listed.setIfInBounds k true) a' w') F ht.len s hf h.2.1.2 (fun a' w' hag hl => ?_)
      · unfold wpOp
        simp only [ho2]
        exact this
      · obtain ⟨S', φ', fr', H', b1, b2, b3, b4, b5⟩ := hl
        refine ⟨fun h1 h2 => agtr (hag (h.2.1.1 (by simpa using h1))) h2 he.size, ?_⟩
        exact ih2 fuel _ false S' φ' H' w' fr' a' b1 b2 (he.trans b3) (ht.trans b4) (by simp) (hcl.set hmem) hc2 hd'.2.1 b5
    · have := step_left hT (Qr := fun e a w => match e with | .normal => Qr a w | _ => False) (Kr := fun a' w' => ((!tails.contains k) = true → Agree w0 w → Agree w0 w') ∧ wpAnyT E.P l.toArray (fun e a w => match e with | .normal => Qr a w | _ => False) (Agree w0) (fun i => !tails.contains i) fuel (listed.setIfInBounds k true) a' w') F ht.len s hf h.2.2.2 (fun a' w' hag hl => ?_)
      · unfold wpOp
        simp only [ho3]
        exact this
      · obtain ⟨S', φ', fr', H', b1, b2, b3, b4, b5⟩ := hl
        refine ⟨fun h1 h2 => agtr (hag (h.2.2.1 (by simpa using h1))) h2 he.size, ?_⟩
        exact ih3 fuel _ false S' φ' H' w' fr' a' b1 b2 (he.trans b3) (ht.trans b4) (by simp) (hcl.set hmem) hc3 hd'.2.2 b5
  | four i t j u m v q y ih1 ih2 ih3 ih4 =>
    intro fuel listed ph S φ H w fr a s hf he ht hph hcl hc hd h
    match fuel with
    | 0 => simp [Sch.depth] at hd
    | fuel + 1 =>
    simp only [chkS, Bool.and_eq_true, beq_iff_eq] at hc
    obtain ⟨⟨⟨⟨⟨⟨⟨⟨hr, hop1⟩, hop2⟩, hop3⟩, hop4⟩, hc1⟩, hc2⟩, hc3⟩, hc4⟩ := hc
    obtain ⟨o1, ho1⟩ := Option.isSome_iff_exists.1 hop1
    obtain ⟨o2, ho2⟩ := Option.isSome_iff_exists.1 hop2
    obtain ⟨o3, ho3⟩ := Option.isSome_iff_exists.1 hop3
    obtain ⟨o4, ho4⟩ := Option.isSome_iff_exists.1 hop4
    simp only [runS, opAt_get ho1, opAt_get ho2, opAt_get ho3, opAt_get ho4] at h
    have hd' : t.depth ≤ fuel ∧ u.depth ≤ fuel ∧ v.depth ≤ fuel ∧ y.depth ≤ fuel := by simp [Sch.depth] at hd; omega
    refine ⟨fun h0 => (by rw [hr] at h0; cases h0), fun k hk => ?_⟩
    have hmem := hk
    rw [hr, List.mem_cons, List.mem_cons, List.mem_cons, List.mem_singleton] at hk
    rcases hk with rfl | rfl | rfl | rfl
    · have := step_left hT (Qr := fun e a w => match e with | .normal => Qr a w | _ => False) (Kr := fun a' w' => ((!tails.contains k) = true → Agree w0 w → Agree w0 w') ∧ wpAnyT E.P l.toArray (fun e a w => match e with | .normal => Qr a w | _ => False) (Agree w0) (fun i => !tails.contains i) fuel (listed.setIfInBounds k true) a' w') F ht.len s hf h.1.2 (fun a' w' hag hl => ?_)
      · unfold wpOp
        simp only [ho1]
        exact this
      · obtain ⟨S', φ', fr', H', b1, b2, b3, b4, b5⟩ := hl
        refine ⟨fun h1 h2 => agtr (hag (h.1.1 (by simpa using h1))) h2 he.size, ?_⟩
        exact ih1 fuel _ false S' φ' H' w' fr' a' b1 b2 (he.trans b3) (ht.trans b4) (by simp) (hcl.set hmem) hc1 hd'.1 b5
    · have := step_left hT (Qr := fun e a w => match e with | .normal => Qr a w | _ => False) (Kr := fun a' w' => ((!tails.contains k) = true → Agree w0 w → Agree w0 w') ∧ wpAnyT E.P l.toArray (fun e a w => match e with | .normal => Qr a w | _ => False) (Agree w0) (fun i => !tails.contains i) fuel (listed.setIfInBounds k true) a' w') F ht.len s hf h.2.1.2 (fun a' w' hag hl => ?_)
      · unfold wpOp
        simp only [ho2]
        exact this
      · obtain ⟨S', φ', fr', H', b1, b2, b3, b4, b5⟩ := hl
        refine ⟨fun h1 h2 => agtr (hag (h.2.1.1 (by simpa using h1))) h2 he.size, ?_⟩
        exact ih2 fuel _ false S' φ' H' w' fr' a' b1 b2 (he.trans b3) (ht.trans b4) (by simp) (hcl.set hmem) hc2 hd'.2.1 b5
    · have := step_left hT (Qr := fun e a w => match e with | .normal => Qr a w | _ => False) (Kr := fun a' w' => ((!tails.contains k) = true → Agree w0 w → Agree w0 w') ∧ wpAnyT E.P l.toArray (fun e a w => match e with | .normal => Qr a w | _ => False) (Agree w0) (fun i => !tails.contains i) fuel (listed.setIfInBounds k true) a' w') F ht.len s hf h.2.2.1.2 (fun a' w' hag hl => ?_)
      · unfold wpOp
        simp only [ho3]
        exact this
      · obtain ⟨S', φ', fr', H', b1, b2, b3, b4, b5⟩ := hl
        refine ⟨fun h1 h2 => agtr (hag (h.2.2.1.1 (by simpa using h1))) h2 he.size, ?_⟩
        exact ih3 fuel _ false S' φ' H' w' fr' a' b1 b2 (he.trans b3) (ht.trans b4) (by simp) (hcl.set hmem) hc3 hd'.2.2.1 b5
    · have := step_left hT (Qr := fun e a w => match e with | .normal => Qr a w | _ => False) (Kr := fun a' w' => ((!tails.contains k) = true → Agree w0 w → Agree w0 w') ∧ wpAnyT E.P l.toArray (fun e a w => match e with | .normal => Qr a w | _ => False) (Agree w0) (fun i => !tails.contains i) fuel (listed.setIfInBounds k true) a' w') F ht.len s hf h.2.2.2.2 (fun a' w' hag hl => ?_)
      · unfold wpOp
        simp only [ho4]
        exact this
      · obtain ⟨S', φ', fr', H', b1, b2, b3, b4, b5⟩ := hl
        refine ⟨fun h1 h2 => agtr (hag (h.2.2.2.1 (by simpa using h1))) h2 he.size, ?_⟩
        exact ih4 fuel _ false S' φ' H' w' fr' a' b1 b2 (he.trans b3) (ht.trans b4) (by simp) (hcl.set hmem) hc4 hd'.2.2.2 b5

def chkT (ops : Array Oper) (tails : List Nat) (t : Sch) : Bool :=
  Region.noSelect ops && chkS ops tails (Array.replicate ops.size false) true t && decide (t.depth ≤ ops.size)

/-- What follows a region. -/
def endK (E : Env) (F2 : Nat) (ks : List Item) (Q : Post) (fr : Fr) (H : List R) : Prop := exec E F2 ks Q fr H
@[go_sem] theorem endK_eq {F2 : Nat} {ks : List Item} {Q : Post} : endK E F2 ks Q fr H = exec E F2 ks Q fr H := rfl
/-- A region that draws its order. -/
theorem drawn_of (hT : TOK E.P E.T) (hm : E.P.follows .mixedOrders = true) (F F2 : Nat) {id : Nat} {l : List Oper} {ks : List Item} {Q : Post} (tails : List Nat) (t : Sch) (hc : chkT l.toArray tails t = true)
    (h : runS E F l tails (endK E F2 ks Q) t fr H) : iwp E.P E.n (.region id l.toArray true) (contQ E ks Q) fr H := by
  intro S φ a w Qr hn s hf hq
  simp only [chkT, Bool.and_eq_true, decide_eq_true_eq] at hc
  obtain ⟨⟨h1, h2⟩, h3⟩ := hc
  obtain ⟨s1, s2, s3⟩ := grow_ext s (Grow.draw w) S (fun b h => h) (fun b h => .inl h) (fun b h => s.slt b h)
  have main := runS_sound (E := E) hT (F := F) (l := l) (tails := tails) (K := endK E F2 ks Q) (Qr := fun a' w' => Qr .normal a' w') (w0 := { w with drawn := w.drawn + 1 }) (S0 := S) (φ0 := φ) (H0 := H) h1
    (fun a' w' hl => by
      obtain ⟨S', φ', fr', H', b1, b2, b3, b4, b5⟩ := hl
      exact hq _ a' w' S' φ' fr' H' b1 b2 (s3.trans b3) ((s2.weaken hn).trans b4) (run_cont hT F2 b5))
    t l.toArray.size (Array.replicate l.toArray.size false) true S φ H _ fr a s1 (hf.tr s2) (Ext.refl ..) (Tr.refl hn) (fun _ => rfl) (fun j o ho hj => ?_) h2 h3 h
  · refine wp_mono (wp_region_any hm (wpAny_of_T _ _ _ _ main)) ?_
    intro e a' w' he
    cases e with
    | normal => exact he
    | _ => exact he.elim
  · have hlt : j < l.toArray.size := (Array.getElem?_eq_some_iff.1 ho).1
    simp only [Array.getD_eq_getD_getElem?, Array.getElem?_replicate] at hj
    split at hj <;> simp at hj

@[go_sem] theorem runS_done {F : Nat} {l : List Oper} {tails : List Nat} {K : Fr → List R → Prop} : runS E F l tails K .done fr H = K fr H := rfl
@[go_sem] theorem runS_fst {F : Nat} {l : List Oper} {tails : List Nat} {K : Fr → List R → Prop} {i : Nat} {t : Sch} : runS E F l tails K (.fst i t) fr H = ops' E F l [opAt l i] [] (nQ (runS E F l tails K t)) fr H := rfl
@[go_sem] theorem runS_one {F : Nat} {l : List Oper} {tails : List Nat} {K : Fr → List R → Prop} {i : Nat} {t : Sch} : runS E F l tails K (.one i t) fr H =
    ((tails.contains i = false → keepO E fr (opAt l i)) ∧ ops' E F l [opAt l i] [] (nQ (runS E F l tails K t)) fr H) := rfl
@[go_sem] theorem runS_two {F : Nat} {l : List Oper} {tails : List Nat} {K : Fr → List R → Prop} {i j : Nat} {t u : Sch} : runS E F l tails K (.two i t j u) fr H =
    (((tails.contains i = false → keepO E fr (opAt l i)) ∧ ops' E F l [opAt l i] [] (nQ (runS E F l tails K t)) fr H) ∧
      ((tails.contains j = false → keepO E fr (opAt l j)) ∧ ops' E F l [opAt l j] [] (nQ (runS E F l tails K u)) fr H)) := rfl
@[go_sem] theorem runS_three {F : Nat} {l : List Oper} {tails : List Nat} {K : Fr → List R → Prop} {i j k : Nat} {t u v : Sch} : runS E F l tails K (.three i t j u k v) fr H =
    (((tails.contains i = false → keepO E fr (opAt l i)) ∧ ops' E F l [opAt l i] [] (nQ (runS E F l tails K t)) fr H) ∧
      ((tails.contains j = false → keepO E fr (opAt l j)) ∧ ops' E F l [opAt l j] [] (nQ (runS E F l tails K u)) fr H) ∧
      ((tails.contains k = false → keepO E fr (opAt l k)) ∧ ops' E F l [opAt l k] [] (nQ (runS E F l tails K v)) fr H)) := rfl
@[go_sem] theorem runS_four {F : Nat} {l : List Oper} {tails : List Nat} {K : Fr → List R → Prop} {i j k m : Nat} {t u v y : Sch} : runS E F l tails K (.four i t j u k v m y) fr H =
    (((tails.contains i = false → keepO E fr (opAt l i)) ∧ ops' E F l [opAt l i] [] (nQ (runS E F l tails K t)) fr H) ∧
      ((tails.contains j = false → keepO E fr (opAt l j)) ∧ ops' E F l [opAt l j] [] (nQ (runS E F l tails K u)) fr H) ∧
      ((tails.contains k = false → keepO E fr (opAt l k)) ∧ ops' E F l [opAt l k] [] (nQ (runS E F l tails K v)) fr H) ∧
      ((tails.contains m = false → keepO E fr (opAt l m)) ∧ ops' E F l [opAt l m] [] (nQ (runS E F l tails K y)) fr H)) := rfl
@[go_sem] theorem opAt_zero {o : Oper} {l : List Oper} : opAt (o :: l) 0 = o := rfl
@[go_sem] theorem opAt_succ {o : Oper} {l : List Oper} {n : Nat} : opAt (o :: l) (n + 1) = opAt l n := rfl


section keep
variable {dst : Option Tmp} {ty : TypeId} {pos : String} {af : Array Edge} {gd : Option (Nat × Bool)}
@[go_sem] theorem keepO_move {x : Operand} : keepO E fr ⟨dst, .move x, ty, pos, af, gd⟩ = True := by simp [keepO, isCall, quietO]
@[go_sem] theorem keepO_assign {x : Operand} : keepO E fr ⟨dst, .assign x, ty, pos, af, gd⟩ = True := by simp [keepO, isCall, quietO]
@[go_sem] theorem keepO_pick {c x y : Operand} : keepO E fr ⟨dst, .pick c x y, ty, pos, af, gd⟩ = True := by simp [keepO, isCall, quietO]
@[go_sem] theorem keepO_build {t : TypeId} {p : Array (Nat × Operand)} : keepO E fr ⟨dst, .build t p, ty, pos, af, gd⟩ = True := by simp [keepO, isCall, quietO]
@[go_sem] theorem keepO_load {t : TypeId} {x : Operand} : keepO E fr ⟨dst, .load t x, ty, pos, af, gd⟩ = True := by simp [keepO, isCall, quietO]
@[go_sem] theorem keepO_lookup {t : TypeId} {x y : Operand} {ok : Bool} : keepO E fr ⟨dst, .lookup t x y ok, ty, pos, af, gd⟩ = True := by simp [keepO, isCall, quietO]
@[go_sem] theorem keepO_makeMap {t : TypeId} {x : Option Operand} : keepO E fr ⟨dst, .makeMap t x, ty, pos, af, gd⟩ = True := by simp [keepO, isCall, memO]
@[go_sem] theorem keepO_nilCheck {x : Operand} : keepO E fr ⟨dst, .nilCheck x, ty, pos, af, gd⟩ = True := by simp [keepO, isCall, quietO]
@[go_sem] theorem keepO_binOp {op : BinOp} {t yt : TypeId} {x y : Operand} : keepO E fr ⟨dst, .binOp op t x y yt, ty, pos, af, gd⟩ = True := by simp [keepO, isCall, quietO]
@[go_sem] theorem keepO_unOp {op : UnOp} {t : TypeId} {x : Operand} : keepO E fr ⟨dst, .unOp op t x, ty, pos, af, gd⟩ = True := by simp [keepO, isCall, quietO]
@[go_sem] theorem keepO_convert {t u : TypeId} {x : Operand} : keepO E fr ⟨dst, .convert t u x, ty, pos, af, gd⟩ = True := by simp [keepO, isCall, quietO]
@[go_sem] theorem keepO_slice {t : TypeId} {x : Operand} {lo hi mx : Option Operand} : keepO E fr ⟨dst, .slice t x lo hi mx, ty, pos, af, gd⟩ = True := by simp [keepO, isCall, quietO]
@[go_sem] theorem keepO_fieldAddr {t : TypeId} {x : Operand} {i : Nat} : keepO E fr ⟨dst, .fieldAddr t x i, ty, pos, af, gd⟩ = True := by simp [keepO, isCall, quietO]
@[go_sem] theorem keepO_field {t : TypeId} {x : Operand} {i : Nat} : keepO E fr ⟨dst, .field t x i, ty, pos, af, gd⟩ = True := by simp [keepO, isCall, quietO]
@[go_sem] theorem keepO_indexAddr {t : TypeId} {x y : Operand} : keepO E fr ⟨dst, .indexAddr t x y, ty, pos, af, gd⟩ = True := by simp [keepO, isCall, quietO]
@[go_sem] theorem keepO_index {t : TypeId} {x y : Operand} : keepO E fr ⟨dst, .index t x y, ty, pos, af, gd⟩ = True := by simp [keepO, isCall, quietO]
@[go_sem] theorem keepO_extract {x : Operand} {i : Nat} : keepO E fr ⟨dst, .extract x i, ty, pos, af, gd⟩ = True := by simp [keepO, isCall, quietO]
@[go_sem] theorem keepO_makeFunc {c : Fn} {a : Array Operand} {b : Array Operand} : keepO E fr ⟨dst, .makeFunc c a b, ty, pos, af, gd⟩ = True := by simp [keepO, isCall, quietO]
@[go_sem] theorem keepO_len {a : Array Operand} {b : Array TypeId} : keepO E fr ⟨dst, .call ⟨.builtin .len, a, b⟩, ty, pos, af, gd⟩ = True := by simp [keepO, isCall, quietO]
@[go_sem] theorem keepO_min {a : Array Operand} {b : Array TypeId} : keepO E fr ⟨dst, .call ⟨.builtin .min, a, b⟩, ty, pos, af, gd⟩ = True := by simp [keepO, isCall, quietO]
@[go_sem] theorem keepO_max {a : Array Operand} {b : Array TypeId} : keepO E fr ⟨dst, .call ⟨.builtin .max, a, b⟩, ty, pos, af, gd⟩ = True := by simp [keepO, isCall, quietO]
@[go_sem] theorem keepO_box {t : TypeId} {x : Operand} : keepO E fr ⟨dst, .box t x, ty, pos, af, gd⟩ = True := by simp [keepO, isCall, memO]
@[go_sem] theorem keepO_alloc {t : TypeId} : keepO E fr ⟨dst, .alloc t, ty, pos, af, gd⟩ = True := by simp [keepO, isCall, memO]
@[go_sem] theorem keepO_buildSlice {t : TypeId} {n : Nat} {p : Array (Nat × Operand)} : keepO E fr ⟨dst, .buildSlice t n p, ty, pos, af, gd⟩ = True := by simp [keepO, isCall, memO]
@[go_sem] theorem keepO_makeSlice {t : TypeId} {x y : Operand} : keepO E fr ⟨dst, .makeSlice t x y, ty, pos, af, gd⟩ = True := by simp [keepO, isCall, memO]
@[go_sem] theorem keepO_call {g : Operand} {args : Array Operand} {ts : Array TypeId} : keepO E fr ⟨dst, .call ⟨.value g, args, ts⟩, ty, pos, af, gd⟩ = notProc E (fnOf (evx fr g)) := rfl
@[go_sem] theorem notProc_some {f : Nat} {c : List I} : notProc E (some (f, c)) = (E.pf f ≠ .proc) := rfl
end keep
attribute [go_sem] List.contains_cons List.contains_nil ne_eq false_imp_iff true_imp_iff forall_const
@[go_sem] theorem scalars_ints {k : IntKind} {l : List Int} : scalars (l.map (D.int k)) = true := by induction l with | nil => rfl | cons x r ih => simp [scalars, D.cells, D.scalar, ih]
@[go_sem] theorem scalars_bools {l : List Bool} : scalars (l.map D.bool) = true := by induction l with | nil => rfl | cons x r ih => simp [scalars, D.cells, D.scalar, ih]
@[go_sem] theorem scalars_dP {l : List (Int × Int)} : scalars (l.map dP) = true := by induction l with | nil => rfl | cons x r ih => simp [scalars, D.cells, D.scalar, ih]

end Go.VL

/- Part 34: loops whose boxes hold nil slices that become rows of one's own. Conditions: none; lemmas. -/
namespace Go.VL

variable {E : Env} {Q : Post} {fr : Fr} {H : List R} {n : Nat}

/-- Cells of boxes: root, cell, cells an element, whether deep. -/
def ownBx (i j k : Nat) (dp : Bool) (H : List R) : Option R → List R
  | some (.box cs) => (H ++ [R.row 0 k dp []]).set i (.box (cs.set j (.sl H.length 0 k 0 0)))
  | _ => H
def ownBvc (i j k : Nat) : Option R → Prop
  | some (.box cs) => cs.getD j .junk = .d .nil ∧ j < cs.length ∧ 0 < k
  | _ => False
def ownB : List (Nat × Nat × Nat × Bool) → List R → List R
  | [], H => H
  | (i, j, k, dp) :: r, H => ownB r (ownBx i j k dp H (rootAt H i))
def ownBC : List (Nat × Nat × Nat × Bool) → List R → Prop
  | [], _ => True
  | (i, j, k, dp) :: r, H => ownBvc i j k (rootAt H i) ∧ ownBC r (ownBx i j k dp H (rootAt H i))
theorem ownB_ghost : ∀ (l : List (Nat × Nat × Nat × Bool)) {fr : Fr} {H : List R}, ownBC l H → Ghost n fr H fr (ownB l H)
  | [], fr, H, _ => Ghost.refl n fr H
  | (i, j, k, dp) :: r, fr, H, h => by
    obtain ⟨h1, h2⟩ := h
    simp only [ownB]
    cases hr : rootAt H i with
    | none => rw [hr] at h1; exact h1.elim
    | some x =>
      rw [hr] at h1 h2
      cases x with
      | box cs =>
        simp only [ownBvc, ownBx] at h1 h2 ⊢
        rw [← rootAt_eq] at hr
        exact (Ghost.ownBox i j k dp hr h1.1 h1.2.1 h1.2.2).trans (ownB_ghost r h2)
      | _ => exact h1.elim

theorem loop_of2 (hT : TOK E.P E.T) {σ : Type} (F : σ → List (Nat × I)) (Hp : σ → List R) (inv : σ → Prop) (mu : σ → Nat) (ob : List (Nat × Nat × Nat × Bool)) (own : List (Nat × Nat × Bool)) (f1 f2 : Nat) {ks : List Item} {c : Code}
    (hbc : ownBC ob H) (hvc : ownVC own fr (ownB ob H)) (h0 : ∃ s, inv s ∧ fit E.n fr.n (ownAll own fr (ownB ob H)).1 (ownAll own fr (ownB ob H)).2 (F s) (Hp s))
    (hr : ∀ s, inv s → execC E f1 c [] (loopQ E ks Q f2 fr.n F Hp inv mu s) ⟨fr.n, F s⟩ (Hp s)) : iwp E.P E.n (.loop c) (contQ E ks Q) fr H :=
  iwp_ghost (ownB_ghost ob hbc) (loop_of hT F Hp inv mu own f1 f2 hvc h0 hr)

/-- The same for a procedure's end, or anywhere: nil cells of boxes as rows of one's own. -/
theorem endI_ownB {Po : I → List R → Prop} {r : I} (ob : List (Nat × Nat × Nat × Bool)) (hbc : ownBC ob H) (h : endI n Po r (ownB ob H)) : endI n Po r H := by
  obtain ⟨fr', H', g, h1, h2⟩ := h
  exact ⟨fr', H', (ownB_ghost ob hbc).trans g, h1, h2⟩

section rules
@[go_sem] theorem ownB_nil : ownB [] H = H := rfl
@[go_sem] theorem ownB_cons {i j k : Nat} {dp : Bool} {r : List (Nat × Nat × Nat × Bool)} : ownB ((i, j, k, dp) :: r) H = ownB r (ownBx i j k dp H (rootAt H i)) := rfl
@[go_sem] theorem ownBC_nil : ownBC [] H = True := rfl
@[go_sem] theorem ownBC_cons {i j k : Nat} {dp : Bool} {r : List (Nat × Nat × Nat × Bool)} : ownBC ((i, j, k, dp) :: r) H = (ownBvc i j k (rootAt H i) ∧ ownBC r (ownBx i j k dp H (rootAt H i))) := rfl
@[go_sem] theorem ownBx_s {i j k : Nat} {dp : Bool} {cs : List I} : ownBx i j k dp H (some (.box cs)) = (H ++ [R.row 0 k dp []]).set i (.box (cs.set j (.sl H.length 0 k 0 0))) := rfl
@[go_sem] theorem ownBvc_s {i j k : Nat} {cs : List I} : ownBvc i j k (some (.box cs)) = (cs.getD j .junk = .d .nil ∧ j < cs.length ∧ 0 < k) := rfl
attribute [go_sem] List.set_cons_zero List.set_cons_succ List.getD_cons_zero List.getD_cons_succ List.cons_append List.nil_append
@[go_sem] theorem nmem_cons {a b : Nat} {l : List Nat} : (¬ a ∈ b :: l) = (¬ a = b ∧ ¬ a ∈ l) := by simp
end rules

end Go.VL

/- Part 35: what a circuit computes. Conditions: none; plain definitions and lemmas. -/
namespace Go.VL

theorem and_one (n : Nat) : n &&& 1 = n % 2 := Nat.and_one_is_mod n
theorem land1 {l : Int} (h : 0 ≤ l) : (((l.toNat &&& 1 : Nat) : Int) = 1) = (l % 2 = 1) := by
  rw [and_one]
  simp only [eq_iff_iff]
  omega
theorem land1z {l : Int} (h : 0 ≤ l) : (((l.toNat &&& 1 : Nat) : Int) = 0) = (l % 2 = 0) := by
  rw [and_one]
  simp only [eq_iff_iff]
  omega
theorem land1v {l : Int} (h : 0 ≤ l) : ((l.toNat &&& 1 : Nat) : Int) = l % 2 := by
  rw [and_one]
  omega

/-- The value of a literal. -/
def litV (v : List Bool) (l : Int) : Bool := v.getD (l / 2).toNat false != decide (l % 2 = 1)
def litVs (v : List Bool) (ls : List Int) : List Bool := ls.map (litV v)
theorem litVs_len {v : List Bool} {ls : List Int} : (litVs v ls).length = ls.length := by simp [litVs]
/-- The values of the first variables. -/
def evalN (c : Circ) (st ins : List Bool) : Nat → List Bool
  | 0 => false :: (ins ++ st)
  | i + 1 => evalN c st ins i ++ [litV (evalN c st ins i) (c.gates.getD i (0, 0)).1 && litV (evalN c st ins i) (c.gates.getD i (0, 0)).2]
theorem evalN_len (c : Circ) (st ins : List Bool) : ∀ i, (evalN c st ins i).length = 1 + ins.length + st.length + i
  | 0 => by simp [evalN]; omega
  | i + 1 => by simp [evalN, evalN_len c st ins i]; omega
def values (c : Circ) (st ins : List Bool) : List Bool := evalN c st ins c.gates.length
theorem evalN_pre (c : Circ) (st ins : List Bool) {i : Nat} : ∀ k, ∃ r, evalN c st ins (i + k) = evalN c st ins i ++ r
  | 0 => ⟨[], by simp⟩
  | k + 1 => by
    obtain ⟨r, h⟩ := evalN_pre c st ins (i := i) k
    exact ⟨r ++ [_], by rw [← Nat.add_assoc, evalN, h, List.append_assoc]⟩
theorem getD_append_lt {α : Type} {l r : List α} {i : Nat} {z : α} (h : i < l.length) : (l ++ r).getD i z = l.getD i z := by
  simp [List.getD, List.getElem?_append_left h]
theorem litV_app {v r : List Bool} {l : Int} (h0 : 0 ≤ l) (h : l < 2 * v.length) : litV (v ++ r) l = litV v l := by
  unfold litV
  rw [getD_append_lt (by omega)]
theorem bne_and_ne {a b : Bool} : (a != b) = !(a == b) := rfl

@[go_sem] theorem all_bools {l : List Bool} : (l.map D.bool).all D.scalar = true := by simp [D.scalar]
@[go_sem] theorem all_ints {k : IntKind} {l : List Int} : (l.map (D.int k)).all D.scalar = true := by simp [D.scalar]
attribute [go_sem] List.length_replicate
def splice {α : Type} (l : List α) (lo : Nat) (xs : List α) : List α := l.take lo ++ xs ++ l.drop (lo + xs.length)
@[go_sem] theorem splice_bools {l xs : List Bool} {lo : Nat} : spliceD (l.map D.bool) lo (xs.map D.bool) = (splice l lo xs).map D.bool := by simp [spliceD, splice]
@[go_sem] theorem splice_ints {k : IntKind} {l xs : List Int} {lo : Nat} : spliceD (l.map (D.int k)) lo (xs.map (D.int k)) = (splice l lo xs).map (D.int k) := by simp [spliceD, splice]
theorem splice_len {α : Type} {l xs : List α} {lo : Nat} (h : lo + xs.length ≤ l.length) : (splice l lo xs).length = l.length := by simp [splice]; omega
/-- Inputs and state laid into zeros. -/
theorem splice_two {α : Type} (z : α) (ins st : List α) (n : Nat) (hn : 1 + ins.length + st.length ≤ n) :
    splice (splice (List.replicate n z) 1 ins) (1 + ins.length) st = z :: (ins ++ st) ++ List.replicate (n - (1 + ins.length + st.length)) z := by
  obtain ⟨m, rfl⟩ : ∃ m, n = m + 1 := ⟨n - 1, by omega⟩
  have e1 : splice (List.replicate (m + 1) z) 1 ins = z :: (ins ++ List.replicate (m - ins.length) z) := by
    simp [splice, List.replicate_succ, List.take_replicate, List.drop_replicate, Nat.add_comm 1 ins.length]
  rw [e1]
  simp only [splice, Nat.add_comm 1 ins.length, List.take_succ_cons, List.take_left', show ins.length + 1 + st.length = ins.length + st.length + 1 by omega, List.drop_succ_cons, List.cons_append, List.append_assoc]
  simp [List.drop_append, List.drop_replicate]
  rw [List.drop_eq_nil_of_le (by omega), Nat.sub_sub]
  rfl
theorem splice_len0 {α : Type} {l xs : List α} : splice l 0 xs = xs ++ l.drop xs.length := by simp [splice]

theorem set_app_replicate {α : Type} {v : List α} {z x : α} {g i : Nat} (h : v.length = i) (hg : 0 < g) : (v ++ List.replicate g z).set i x = v ++ [x] ++ List.replicate (g - 1) z := by
  obtain ⟨m, rfl⟩ : ∃ m, g = m + 1 := ⟨g - 1, by omega⟩
  rw [List.set_append_right _ _ (by omega)]
  simp [h, List.replicate_succ]
theorem wk1_self {x : D} : wk1 x x := by unfold wk1; split <;> simp_all
theorem wkL_self : ∀ {l : List D}, wkL l l
  | [] => trivial
  | x :: r => ⟨wk1_self, wkL_self⟩
theorem wk2_self {x : D} : wk2 x x := by
  cases x with
  | agg cs => exact wkL_self
  | _ => simp only [wk2]; exact wk1_self
theorem wkT_self : ∀ {l : List D}, wkT l l
  | [] => trivial
  | x :: r => ⟨wk2_self, wkT_self⟩
@[go_sem] theorem wk_self {x : D} : wk x x = True := by
  refine eq_true ?_
  cases x with
  | tup cs => exact wkT_self
  | _ => simp only [wk]; exact wk2_self
theorem getD_bss {rows : List (List Bool)} {i : Nat} (h : i < rows.length) : (rows.map fun x => dBs x).getD i .nil = dBs (rows.getD i []) := getD_lt _ _ _ _ _ h
theorem getD_iss {rows : List (List Int)} {i : Nat} (h : i < rows.length) : (rows.map fun x => dIs x).getD i .nil = dIs (rows.getD i []) := getD_lt _ _ _ _ _ h
@[go_sem] theorem bss_inj {l l' : List (List Bool)} : (l.map (fun x => dBs x) = l'.map fun x => dBs x) = (l = l') := map_inj fun x y h => by simpa [go_sem] using h
@[go_sem] theorem bss_push {l : List (List Bool)} {x : List Bool} : l.map (fun x => dBs x) ++ [D.lst 1 (x.map D.bool)] = (l ++ [x]).map fun x => dBs x := by simp
@[go_sem] theorem bss_none {l : List (List Bool)} : (([] : List D) = l.map fun x => dBs x) = (l = []) := propext ⟨fun h => by cases l with | nil => rfl | cons x r => simp at h, fun h => by rw [h]; rfl⟩
@[go_sem] theorem bss_take {l : List (List Bool)} {n : Nat} : (l.map fun x => dBs x).take n = (l.take n).map fun x => dBs x := by simp
@[go_sem] theorem bss_drop {l : List (List Bool)} {n : Nat} : (l.map fun x => dBs x).drop n = (l.drop n).map fun x => dBs x := by simp
theorem evalN_init {c : Circ} {st ins : List Bool} : evalN c st ins 0 = false :: (ins ++ st) := rfl

end Go.VL

/- Part 36: a slice that may be nil or empty, compared with nil; copies of slices. Conditions: none; lemmas. -/
namespace Go.VL

variable {E : Env} {Q : Post} {fr : Fr} {H : List R} {all rest : List Oper} {ks : List Item}

theorem opsW_P (hT : TOK E.P E.T) {o : Oper} (hg : o.guard = none) {vc : Prop} {x : I} (hp : sopP E.T fr H o.op = some (vc, x)) (hvc : vc) (h : opsW E all rest ks Q (fr.put o.dst x) H) : opsW E all (o :: rest) ks Q fr H := by
  intro S φ a w Qr hn s hf hq
  refine wpList_plain hg fun Kr hKr => ?_
  obtain ⟨v, hv, hr⟩ := sopP_sound hT s hf hp hvc
  unfold Oper.wp
  rw [hr w (fun _ => Agree.refl w), Oper.upon_value]
  exact hKr _ _ (h S φ _ w Qr hn s (hf.put o.dst hv) hq)
/-- An empty list stands for nil, or for a slice that is not nil. -/
theorem opsW_nil (hT : TOK E.P E.T) {dst : Option Tmp} {t t' ty : Nat} {y : Operand} {pos : String} {af : Array Edge} {k e : Nat} {l : List D} {ti : TI} (hti : E.T t = some ti) (hk : ti.ty = .slice e) (hc : evc fr y) (hx : evx fr y = .d (.lst k l))
    (h : ∀ b : Bool, (b = true → l = []) → opsW E all rest ks Q (fr.put dst (.d (.bool b))) H) : opsW E all (⟨dst, .binOp .eql t y (.const (.slice none 0 0)) t', ty, pos, af, none⟩ :: rest) ks Q fr H := by
  intro S φ a w Qr hn s hf hq
  refine wpList_plain rfl fun Kr hKr => ?_
  have hv := hf.evx y hc
  rw [hx] at hv
  have hz := hv.fz
  have hu := (hT _ _ hti).und_slice hk
  have key : ∃ ad n cap, a.eval y = .slice ad n cap ∧ (ad.isNone = true → l = []) := by
    generalize a.eval y = vx at hz
    cases hz with
    | lst0 _ => exact ⟨_, _, _, rfl, fun _ => rfl⟩
    | lst _ _ _ _ _ _ _ _ _ => exact ⟨_, _, _, rfl, fun h => by simp at h⟩
  obtain ⟨ad, n, cap, he, hb⟩ := key
  unfold Oper.wp
  have hr : (execOp a.eval ⟨dst, .binOp .eql t y (.const (.slice none 0 0)) t', ty, pos, af, none⟩).run E.P w = .ok (.value (.bool ad.isNone)) w := by
    have hcn : a.eval (.const (.slice none 0 0)) = .slice none 0 0 := rfl
    simp only [execOp, he, hcn, eqGuard_at_slice, Sem.run_bind, Sem.run_pure, Result.andThen_ok, run_eql_slice_nil' hu]
  rw [hr, Oper.upon_value]
  exact hKr _ _ (h ad.isNone hb S φ _ w Qr hn s (hf.put dst (.d .bool)) hq)
theorem opsW_end (hT : TOK E.P E.T) (f : Nat) (h : exec E f ks Q fr H) : opsW E all [] ks Q fr H := by
  intro S φ a w Qr hn s hf hq
  exact hq a w S φ fr H s hf (Ext.refl ..) (Tr.refl hn) (run_cont hT f h)
theorem opsW_end0 (h : contQ E ks Q .normal fr H) : opsW E all [] ks Q fr H := by
  intro S φ a w Qr hn s hf hq
  exact hq a w S φ fr H s hf (Ext.refl ..) (Tr.refl hn) h
theorem run_region {id : Nat} {ops : Array Oper} (h : opsW E ops.toList ops.toList ks Q fr H) : iwp E.P E.n (.region id ops false) (contQ E ks Q) fr H :=
  iwp_region (by unfold opsW at h; simpa using h)
theorem iwp_seqK {x y : Code} (h : iwp E.P E.n x (contQ E (.code y :: ks) Q) fr H) : iwp E.P E.n (.seq x y) (contQ E ks Q) fr H := iwp_seq h
theorem run_codeK (hT : TOK E.P E.T) (f : Nat) {c : Code} (h : execC E f c ks Q fr H) : iwp E.P E.n c (contQ E ks Q) fr H := (exec_sound hT f).2.1 c ks h
end Go.VL

/- Part 37: loops and ends where the cells of boxes may be read anew: as frozen data, or nil as the empty list. Conditions: none; lemmas. -/
namespace Go.VL

variable {E : Env} {P : Program} {Q : Post} {S : Nat → Prop} {φ : List (List Nat)} {fr : Fr} {H : List R} {w : World} {n : Nat}

def fitL (K : List R) : List I → List I → Prop
  | [], [] => True
  | x :: r, y :: s => fit1 K x y ∧ fitL K r s
  | _, _ => False
/-- Cells of boxes are read one by one. -/
def fitR2 (K : List R) : R → R → Prop
  | .box cs, .box cs' => fitL K cs cs'
  | x, .dead g => x.gen ≤ g
  | .row g k dp l, y => dp.shut = true ∧ fitR (.row g k dp l) y
  | x, y => fitR x y
def fitH2 (K : List R) : List R → List R → Prop
  | _, [] => True
  | x :: r, y :: s => fitR2 K x y ∧ fitH2 K r s
  | [], _ :: _ => False
def fit2 (n nt : Nat) (fr : Fr) (H : List R) (m : List (Nat × I)) (H' : List R) : Prop :=
  fr.n = nt ∧ n ≤ H'.length ∧ fitF (killH H'.length H) fr m ∧ fitH2 (killH H'.length H) H H' ∧ idltM H'.length m ∧ idltH H'.length H'

theorem fitL_get {K : List R} : ∀ {cs cs' : List I}, fitL K cs cs' → cs.length = cs'.length ∧ ∀ j, j < cs.length → fit1 K (cs.getD j .junk) (cs'.getD j .junk)
  | [], [], _ => ⟨rfl, fun j hj => by simp at hj⟩
  | x :: r, y :: s, h => by
    obtain ⟨h1, h2⟩ := fitL_get h.2
    refine ⟨by simp [h1], fun j hj => ?_⟩
    cases j with
    | zero => exact h.1
    | succ j => simpa using h2 j (by simpa using hj)
  | [], _ :: _, h => h.elim
  | _ :: _, [], h => h.elim
theorem fitH2_len {K : List R} : ∀ {H H' : List R}, fitH2 K H H' → H'.length ≤ H.length ∧ ∀ (i : Nat) (y : R), H'[i]? = some y → ∃ x : R, H[i]? = some x ∧ fitR2 K x y
  | H, [], _ => by simp
  | x :: r, y :: s, h => by
    obtain ⟨h1, h2⟩ := fitH2_len h.2
    refine ⟨by simp; omega, fun i z hz => ?_⟩
    cases i with
    | zero => simp at hz; subst hz; exact ⟨x, rfl, h.1⟩
    | succ i => simpa using h2 i z (by simpa using hz)
  | [], _ :: _, h => h.elim
theorem fitR2_inv {K : List R} {x y : R} (h : fitR2 K x y) : (∃ cs cs', x = .box cs ∧ y = .box cs' ∧ fitL K cs cs') ∨ (fitR x y ∧ (∀ cs, y ≠ .box cs) ∧ ∀ g k dp l, x = .row g k dp l → dp.shut = true) ∨ (∃ g, y = .dead g ∧ x.gen ≤ g) := by
  cases y with
  | dead g => exact .inr (.inr ⟨g, rfl, by cases x <;> exact h⟩)
  | _ =>
    cases x with
    | box cs =>
      first
        | exact .inl ⟨_, _, rfl, rfl, h⟩
        | exact .inr (.inl ⟨h, by simp, by simp⟩)
    | row g k dp l =>
      refine .inr (.inl ⟨h.2, fun cs hy => ?_, fun g k dp l hx => by cases hx; exact h.1⟩)
      cases hy
      all_goals (exfalso; revert h; simp [fitR2, VL.fitR])
    | _ =>
      refine .inr (.inl ⟨h, fun cs hy => ?_, by simp⟩)
      cases hy
      all_goals (exfalso; revert h; simp [fitR2, VL.fitR])

/-- No boxes. -/
def noBox : R → R
  | .box _ => .dead 0
  | .row g _ (.own (_ :: _)) _ => .dead g
  | r => r
theorem noBox_shut {g k : Nat} {dp : DP} {l : List D} (h : dp.shut = true) : noBox (.row g k dp l) = .row g k dp l := by
  match dp, h with
  | .fz, _ => rfl
  | .own [], _ => rfl
  | .own (_ :: _), h => simp [DP.shut] at h
theorem rrel_shut {S S' : Nat → Prop} {φ φ' : List (List Nat)} {H H' : List R} {w : World} {fp : List Nat} {g k : Nat} {dp : DP} {l : List D} (hd : dp.shut = true) (hS : ∀ b, S b → S' b) (h : RRel S φ H w fp (.row g k dp l)) : RRel S' φ' H' w fp (.row g k dp l) := by
  obtain ⟨h1, h2, h3, h4, h5⟩ := h
  refine ⟨h1, h2, h3, h4, ?_⟩
  rcases h5 with h5 | ⟨b, rest, arr, ty, e1, e2, e3, e4⟩
  · exact .inl h5
  · refine .inr ⟨b, rest, arr, ty, e1, e2, e3, ?_⟩
    match dp, hd with
    | .fz, _ => exact ⟨e4.1, fun j hj => (e4.2 j hj).mono hS fun _ _ => rfl⟩
    | .own [], _ => exact e4
    | .own (_ :: _), hd => simp [DP.shut] at hd
theorem Sim.noBox (s : Sim S φ H w) : Sim S φ (H.map noBox) w := by
  refine ⟨by rw [s.len, List.length_map], s.nd, s.dj, s.lt, s.off, s.slt, fun i r hr => ?_⟩
  simp only [List.getElem?_map, Option.map_eq_some_iff] at hr
  obtain ⟨x, hx, rfl⟩ := hr
  have := s.rel i x hx
  cases x with
  | box cs => trivial
  | row g k dp l =>
    match dp, this with
    | .fz, this => exact rrel_shut rfl (fun _ h => h) this
    | .own [], this => exact rrel_shut rfl (fun _ h => h) this
    | .own (_ :: _), _ => trivial
  | map es => exact this
  | val x => exact this
  | dead g => exact this
theorem idltH_noBox (m : Nat) : ∀ (H : List R), idltH m (H.map VL.noBox)
  | [] => trivial
  | r :: l => ⟨by
      cases r with
      | row g k dp l => match dp with | .fz => trivial | .own [] => trivial | .own (_ :: _) => trivial
      | _ => simp only [VL.noBox, R.idlt], idltH_noBox m l⟩

theorem fitG_ghost {nt : Nat} {m : List (Nat × I)} {H' : List R} (h1 : fr.n = nt) (h2 : n ≤ H'.length)
    (h3 : ∀ S φ w a, Sim S φ H w → FrR S φ H w fr a → ∀ t, V (fun b => S b ∨ Foot (killF H'.length φ) b) (φ.take H'.length) (H.take H'.length) w (look t m) (a.tmps.getD t undef))
    (h4 : fitH2 (killH H'.length H) H H') (h6 : idltH H'.length H') : Ghost n fr H ⟨nt, m⟩ H' := by
  obtain ⟨e2, e1⟩ := fitH2_len h4
  intro S φ w a hn s hf
  have hl0 : (H.map VL.noBox).length = H.length := by simp
  obtain ⟨s2, t2, x2⟩ := take_kill s.noBox (n := H'.length) (by rw [hl0]; exact e2) (by rw [← List.map_take]; exact idltH_noBox _ _)
  have hget : ∀ i, i < H'.length → (φ.take H'.length).getD i [] = φ.getD i [] := fun i hi => getD_take _ _ _ _ hi
  -- from the roots that stay to what they are read as
  have htr : ∀ (φ0 : List (List Nat)) (G : List R), H'.length ≤ G.length → (∀ i, i < H'.length → G[i]? = H[i]?) → (∀ i, i < H'.length → φ0.getD i [] = φ.getD i []) → ∀ S0 : Nat → Prop, (∀ b, S0 b → S b ∨ Foot (killF H'.length φ) b) →
      Tr H'.length S0 φ0 G w (fun b => S b ∨ Foot (killF H'.length φ) b) (φ.take H'.length) H' w := by
    intro φ0 G hG hGe hφ0 S0 hS0
    refine ⟨hS0, fun _ _ => rfl, hG, Nat.le_refl _, ?_, ?_, ?_, ?_, ?_⟩
    · intro i hi
      obtain ⟨x, hx, hxy⟩ := e1 i (H'.getD i (.dead 0)) (by simp [List.getD, hi])
      have e : G.getD i (.dead 0) = x := by simp [List.getD, hGe i hi, hx]
      rw [e]
      rcases fitR2_inv hxy with ⟨cs, cs', h1, h2, _⟩ | ⟨hxy, _, _⟩ | ⟨g, h1, h2⟩
      rotate_left 2
      · rw [h1]; exact h2
      · rw [h1, h2]; exact Nat.le_refl _
      · rcases fitR_inv hxy with h1 | ⟨g, k, l, h1, h2, _⟩
        · rw [h1]; exact Nat.le_refl _
        · rw [h1, h2]; exact Nat.le_refl _
    · intro i g k dp' l' hi hl'
      obtain ⟨x, hx, hxy⟩ := e1 i _ hl'
      rcases fitR2_inv hxy with ⟨cs, cs', h1, h2, _⟩ | ⟨hxy, _, _⟩ | ⟨g, h1, h2⟩
      rotate_left 2
      · cases h1
      · cases h2
      · rcases fitR_inv hxy with rfl | ⟨g, k, l, rfl, h2, _⟩
        · exact .inr ⟨dp', l', by rw [hGe i hi]; exact hx, by rw [hget i hi, hφ0 i hi], Nat.le_refl _, fun b rest arr ty e1 e2 => ⟨arr, ty, e2, Nat.le_refl _⟩⟩
        · cases h2
          exact .inr ⟨true, _, by rw [hGe i hi]; exact hx, by rw [hget i hi, hφ0 i hi], Nat.le_refl _, fun b rest arr ty e1 e2 => ⟨arr, ty, e2, Nat.le_refl _⟩⟩
    · intro i cs hi hl'
      obtain ⟨x, hx, hxy⟩ := e1 i _ hl'
      rcases fitR2_inv hxy with ⟨cs1, cs', h1, h2, _⟩ | ⟨_, hnb, _⟩ | ⟨g, h1, h2⟩
      rotate_left 2
      · cases h1
      · exact ⟨cs1, by rw [hGe i hi, hx, h1], by rw [hget i hi, hφ0 i hi]⟩
      · exact absurd rfl (hnb cs)
    · intro i cs hi hl'
      obtain ⟨x, hx, hxy⟩ := e1 i _ hl'
      rcases fitR2_inv hxy with ⟨cs1, cs', h1, h2, _⟩ | ⟨hxy, _⟩ | ⟨g, h1, h2⟩
      rotate_left 2
      · cases h1
      · cases h2
      · rcases fitR_inv hxy with rfl | ⟨g, k, l, rfl, h2, _⟩
        · exact ⟨cs, by rw [hGe i hi]; exact hx, by rw [hget i hi, hφ0 i hi]⟩
        · cases h2
    · intro i z hi hl'
      obtain ⟨x, hx, hxy⟩ := e1 i _ hl'
      rcases fitR2_inv hxy with ⟨cs1, cs', h1, h2, _⟩ | ⟨hxy, _⟩ | ⟨g, h1, h2⟩
      rotate_left 2
      · cases h1
      · cases h2
      · rcases fitR_inv hxy with rfl | ⟨g, k, l, rfl, h2, _⟩
        · exact ⟨by rw [hGe i hi]; exact hx, by rw [hget i hi, hφ0 i hi], fun _ _ => rfl⟩
        · cases h2
  have hlt : (H.take H'.length).length = H'.length := by simp; omega
  have tA := htr φ H e2 (fun _ _ => rfl) (fun _ _ => rfl) S (fun _ h => .inl h)
  have tB := htr (φ.take H'.length) (H.take H'.length) (by omega) (fun i hi => take_get _ _ _ hi) hget (fun b => S b ∨ Foot (killF H'.length φ) b) (fun _ h => h)
  have s3 : Sim (fun b => S b ∨ Foot (killF H'.length φ) b) (φ.take H'.length) H' w := by
    refine ⟨by rw [s2.len]; simp; omega, s2.nd, s2.dj, s2.lt, s2.off, s2.slt, fun i y hy => ?_⟩
    have hi : i < H'.length := (List.getElem?_eq_some_iff.1 hy).1
    obtain ⟨x, hx, hxy⟩ := e1 i y hy
    rw [hget i hi]
    rcases fitR2_inv hxy with ⟨cs, cs', rfl, rfl, hfl⟩ | ⟨hxy, hnb, hshut⟩ | ⟨g, rfl, _⟩
    rotate_left 2
    · trivial
    · obtain ⟨b, arr, ty, q1, q2, q3, q4⟩ := s.rel i _ hx
      obtain ⟨l1, l2⟩ := fitL_get hfl
      refine ⟨b, arr, ty, q1, q2, by omega, fun j hj => ?_⟩
      obtain ⟨o1, v1⟩ := q4 j (by omega)
      refine ⟨o1, ?_⟩
      have := fit1_v s e2 (l2 j (by omega)) (idltL_getD (idltH_get h6 i _ hy) j hj) v1
      exact this.tr (by rw [hlt]; exact tB)
    · have hx2 : ((H.map VL.noBox).take H'.length)[i]? = some (VL.noBox x) := by rw [take_get _ _ _ hi, List.getElem?_map, hx]; rfl
      have hrel := s2.rel i _ hx2
      rw [hget i hi] at hrel
      rcases fitR_inv hxy with rfl | ⟨g, k, l, rfl, rfl, hsc⟩
      · cases x with
        | box cs => exact absurd rfl (hnb cs)
        | row g k dp l =>
          have hd := hshut _ _ _ _ rfl
          rw [noBox_shut hd] at hrel
          exact rrel_shut hd (fun _ h => h) hrel
        | map es => exact hrel
        | val x => exact hrel
        | dead g => exact hrel
      · obtain ⟨h1, h2, h3, h4, h5⟩ := hrel
        refine ⟨h1, h2, h3, h4, ?_⟩
        rcases h5 with h5 | ⟨b, rest, arr, ty, e1, e2, e3, F, hF, _, hr⟩
        · exact .inl h5
        · have hall := scalars_all hsc
          have hz : ∀ j, j < (flat l).length → F j = [] := fun j hj => ow_scal (hr j hj) (hall _ (getD_mem hj))
          refine .inr ⟨b, rest, arr, ty, e1, e2, e3, ?_, fun j hj => ow_scalar (hr j hj) (hall _ (getD_mem hj)) _⟩
          rw [hF]
          refine List.flatMap_eq_nil_iff.2 fun j hj => hz j (List.mem_range.1 hj)
  refine ⟨_, _, s3, ⟨hf.defers, hf.size.trans h1, fun t => ?_⟩, x2, tA.weaken h2⟩
  have := h3 S φ w a s hf t
  exact this.tr (by rw [hlt]; exact tB)

theorem fit2_ghost {nt : Nat} {m : List (Nat × I)} {H' : List R} (h : fit2 n nt fr H m H') : Ghost n fr H ⟨nt, m⟩ H' := by
  obtain ⟨h1, h2, h3, h4, h5, h6⟩ := h
  exact fitG_ghost h1 h2 (fun S φ w a s hf => fitF_look s (fitH2_len h4).1 hf m h3 h5) h4 h6

/-- The end of a round, or a way out of the loop. -/
def loopQ3 (E : Env) (ks : List Item) (Q : Post) (f : Nat) {σ : Type} (nt : Nat) (F : σ → List (Nat × I)) (Hp : σ → List R) (inv : σ → Prop) (mu : σ → Nat) (s : σ) : Post
  | .normal, fr, H => ∃ s', inv s' ∧ mu s' < mu s ∧ fit2 E.n nt fr H (F s') (Hp s')
  | .exit id, fr, H => execX E f (exK id ks) id ks Q fr H
  | e, fr, H => contQ E ks Q e fr H

theorem loop_of3 (hT : TOK E.P E.T) {σ : Type} (F : σ → List (Nat × I)) (Hp : σ → List R) (inv : σ → Prop) (mu : σ → Nat) (ob : List (Nat × Nat × Nat × Bool)) (own : List (Nat × Nat × Bool)) (f1 f2 : Nat) {ks : List Item} {c : Code}
    (hbc : ownBC ob H) (hvc : ownVC own fr (ownB ob H)) (h0 : ∃ s, inv s ∧ fit2 E.n fr.n (ownAll own fr (ownB ob H)).1 (ownAll own fr (ownB ob H)).2 (F s) (Hp s))
    (hr : ∀ s, inv s → execC E f1 c [] (loopQ3 E ks Q f2 fr.n F Hp inv mu s) ⟨fr.n, F s⟩ (Hp s)) : iwp E.P E.n (.loop c) (contQ E ks Q) fr H := by
  obtain ⟨s0, hi0, hf0⟩ := h0
  refine iwp_loopG (fun m fr' H' => ∃ s, inv s ∧ mu s = m ∧ fr' = ⟨fr.n, F s⟩ ∧ H' = Hp s) (mu s0) ⟨_, _, ((ownB_ghost ob hbc).trans (ownAll_ghost own hvc)).trans (fit2_ghost hf0), s0, hi0, rfl, rfl, rfl⟩ ?_
  rintro m fr' H' ⟨s, hi, rfl, rfl, rfl⟩
  refine iwp_mono (run_code hT f1 (hr s hi)) ?_
  intro e fr' H' hq
  cases e with
  | normal =>
    obtain ⟨s', hi', hmu, hfit⟩ := hq
    exact ⟨_, _, fit2_ghost hfit, mu s', hmu, s', hi', rfl, rfl, rfl⟩
  | exit id =>
    simp only [loopQ3] at hq
    refine contQ_exit id ks ?_
    generalize exK id ks = o at hq
    match f2, o with
    | 0, _ => simp only [execX] at hq
    | f + 1, some ks' =>
      simp only [execX] at hq
      exact run_cont hT f hq
    | f + 1, none =>
      simp only [execX] at hq
      exact hq
  | goto l => exact hq
  | ret => exact hq
  | panic ch => exact hq
  | outgrown => exact hq

/-- The same; a round may begin with ghost steps. -/
theorem loop_of4 (hT : TOK E.P E.T) {σ : Type} (F : σ → List (Nat × I)) (Hp : σ → List R) (inv : σ → Prop) (mu : σ → Nat) (ob : List (Nat × Nat × Nat × Bool)) (own : List (Nat × Nat × Bool)) (f2 : Nat) {ks : List Item} {c : Code}
    (hbc : ownBC ob H) (hvc : ownVC own fr (ownB ob H)) (h0 : ∃ s, inv s ∧ fit2 E.n fr.n (ownAll own fr (ownB ob H)).1 (ownAll own fr (ownB ob H)).2 (F s) (Hp s))
    (hr : ∀ s, inv s → iwp E.P E.n c (loopQ3 E ks Q f2 fr.n F Hp inv mu s) ⟨fr.n, F s⟩ (Hp s)) : iwp E.P E.n (.loop c) (contQ E ks Q) fr H := by
  obtain ⟨s0, hi0, hf0⟩ := h0
  refine iwp_loopG (fun m fr' H' => ∃ s, inv s ∧ mu s = m ∧ fr' = ⟨fr.n, F s⟩ ∧ H' = Hp s) (mu s0) ⟨_, _, ((ownB_ghost ob hbc).trans (ownAll_ghost own hvc)).trans (fit2_ghost hf0), s0, hi0, rfl, rfl, rfl⟩ ?_
  rintro m fr' H' ⟨s, hi, rfl, rfl, rfl⟩
  refine iwp_mono (hr s hi) ?_
  intro e fr' H' hq
  cases e with
  | normal =>
    obtain ⟨s', hi', hmu, hfit⟩ := hq
    exact ⟨_, _, fit2_ghost hfit, mu s', hmu, s', hi', rfl, rfl, rfl⟩
  | exit id =>
    simp only [loopQ3] at hq
    refine contQ_exit id ks ?_
    generalize exK id ks = o at hq
    match f2, o with
    | 0, _ => simp only [execX] at hq
    | f + 1, some ks' =>
      simp only [execX] at hq
      exact run_cont hT f hq
    | f + 1, none =>
      simp only [execX] at hq
      exact hq
  | goto l => exact hq
  | ret => exact hq
  | panic ch => exact hq
  | outgrown => exact hq
/-- A round that begins by reading its state anew. -/
theorem iwp_fit {c : Code} {nt : Nat} (m : List (Nat × I)) (H' : List R) (hn : fr.n = nt) (h : fit2 E.n nt fr H m H') (hr : iwp E.P E.n c Q ⟨nt, m⟩ H') : iwp E.P E.n c Q fr H := iwp_ghost (fit2_ghost h) hr

/-- What several branches end in, proved once. -/
structure Held (C : Prop) : Prop where
  get : C
theorem cutP {C Q : Prop} (f : Held C → Q) (h : C) : Q := f ⟨h⟩
/-- The end of a procedure, its boxes read anew. -/
def fitE2 (n : Nat) (r : I) (H : List R) (r0 : I) (H1 : List R) : Prop := fit1 (killH H1.length H) r r0 ∧ n ≤ H1.length ∧ fitH2 (killH H1.length H) H H1 ∧ r0.idlt H1.length ∧ idltH H1.length H1
theorem endI_fit2 {Po : I → List R → Prop} {r r0 : I} {H1 : List R} (hf : fitE2 n r H r0 H1) (h : Po r0 H1) : endI n Po r H := by
  obtain ⟨h1, h2, h3, h4, h5⟩ := hf
  refine ⟨⟨1, [(0, r0)]⟩, H1, fit2_ghost ⟨rfl, h2, ⟨?_, trivial⟩, h3, ⟨h4, trivial⟩, h5⟩, rfl, ?_⟩
  · show fit1 _ (look 0 [(0, r)]) r0
    simpa [look] using h1
  · show Po (look 0 [(0, r0)]) H1
    simpa [look] using h

/-- A function that may share what it is handed, called as a procedure without roots. -/
theorem procF {f : Nat} {ds : List D} {x : D} (h : PureF P f ds x) : Proc P f (ds.map .d) [] (.d x) [] := by
  refine ⟨h.1, fun S φ vs w Rr s hl hv hr => h.2 S vs w Rr s.slt ⟨?_, fun j hj => ?_⟩ fun v w' S' h1 h2 h3 hz hg => ?_⟩
  · simpa using hl
  · have := hv j (by simpa using hj)
    have e : (ds.map I.d).getD j .junk = .d (ds.getD j .nil) := by simp [List.getD, hj]
    rw [e] at this
    exact this.fz
  · obtain ⟨s1, s2, s3⟩ := grow_ext s hg S' h1 h2 h3
    exact hr v w' S' φ (.d x) [] s1 (.d hz) s3 s2 ⟨rfl, rfl⟩

/-- Structs and results of several values are read part by part. -/
def fitAll (f : I → I → Prop) : List I → List I → Prop
  | [], [] => True
  | x :: r, y :: s => f x y ∧ fitAll f r s
  | _, _ => False
def fitV (K : List R) : Nat → I → I → Prop
  | n + 1, .agg xs, .agg ys => fitAll (fitV K n) xs ys
  | n + 1, .tup xs, .tup ys => fitAll (fitV K n) xs ys
  | _, x, y => fit1 K x y
theorem fitAll_get {f : I → I → Prop} : ∀ {cs cs' : List I}, fitAll f cs cs' → cs.length = cs'.length ∧ ∀ j, j < cs.length → f (cs.getD j .junk) (cs'.getD j .junk)
  | [], [], _ => ⟨rfl, fun j hj => by simp at hj⟩
  | x :: r, y :: s, h => by
    obtain ⟨h1, h2⟩ := fitAll_get h.2
    refine ⟨by simp [h1], fun j hj => ?_⟩
    cases j with
    | zero => exact h.1
    | succ j => simpa using h2 j (by simpa using hj)
  | [], _ :: _, h => h.elim
  | _ :: _, [], h => h.elim
theorem fitV_v {m : Nat} (s : Sim S φ H w) (hm : m ≤ H.length) : ∀ (f : Nat) {x y : I} {v : Value}, fitV (killH m H) f x y → y.idlt m → V S φ H w x v → V (fun b => S b ∨ Foot (killF m φ) b) (φ.take m) (H.take m) w y v := by
  intro f
  induction f with
  | zero => intro x y v h hy hv; exact fit1_v s hm (by unfold fitV at h; exact h) hy hv
  | succ f ih =>
    intro x y v h hy hv
    unfold fitV at h
    split at h
    · rename_i heq
      simp only [Nat.succ_eq_add_one, Nat.add_right_cancel_iff] at heq
      subst heq
      rename_i xs ys
      obtain ⟨l1, l2⟩ := fitAll_get h
      simp only [I.idlt] at hy
      cases hv with
      | agg hl h1 hj =>
        exact .agg (by omega) (fun j hj' => h1 j (by omega)) fun j hj' => ih (l2 j (by omega)) (idltL_getD hy j hj') (hj j (by omega))
    · rename_i heq
      simp only [Nat.succ_eq_add_one, Nat.add_right_cancel_iff] at heq
      subst heq
      rename_i xs ys
      obtain ⟨l1, l2⟩ := fitAll_get h
      simp only [I.idlt] at hy
      cases hv with
      | tup hl hj =>
        exact .tup (by omega) fun j hj' => ih (l2 j (by omega)) (idltL_getD hy j hj') (hj j (by omega))
    · exact fit1_v s hm h hy hv
def fitE3 (n : Nat) (r : I) (H : List R) (r0 : I) (H1 : List R) : Prop := fitV (killH H1.length H) 3 r r0 ∧ n ≤ H1.length ∧ fitH2 (killH H1.length H) H H1 ∧ r0.idlt H1.length ∧ idltH H1.length H1
theorem endI_fit3 {Po : I → List R → Prop} {r r0 : I} {H1 : List R} (hf : fitE3 n r H r0 H1) (h : Po r0 H1) : endI n Po r H := by
  obtain ⟨h1, h2, h3, h4, h5⟩ := hf
  refine ⟨⟨1, [(0, r0)]⟩, H1, fitG_ghost rfl h2 (fun S φ w a s hf t => ?_) h3 h5, rfl, ?_⟩
  · simp only [look]
    split
    · rename_i h0
      subst h0
      have hv := hf.val 0
      have e : (⟨1, [(0, r)]⟩ : Fr).get 0 = r := by simp [Fr.get, look]
      rw [e] at hv
      exact fitV_v s (fitH2_len h3).1 3 h1 h4 hv
    · exact .junk
  · show Po (look 0 [(0, r0)]) H1
    simpa [look] using h
section rules
variable {σ : Type} {F : σ → List (Nat × I)} {Hp : σ → List R} {inv : σ → Prop} {mu : σ → Nat} {s : σ} {ks : List Item} {f nt : Nat} {K : List R}
@[go_sem] theorem loopQ3_normal : loopQ3 E ks Q f nt F Hp inv mu s .normal fr H = ∃ s', inv s' ∧ mu s' < mu s ∧ fit2 E.n nt fr H (F s') (Hp s') := rfl
@[go_sem] theorem loopQ3_exit {id : Nat} : loopQ3 E ks Q f nt F Hp inv mu s (.exit id) fr H = execX E f (exK id ks) id ks Q fr H := rfl
@[go_sem] theorem loopQ3_ret : loopQ3 E ks Q f nt F Hp inv mu s .ret fr H = contQ E ks Q .ret fr H := rfl
@[go_sem] theorem fit2_eq {m : List (Nat × I)} {H' : List R} : fit2 n nt fr H m H' = (fr.n = nt ∧ n ≤ H'.length ∧ fitF (killH H'.length H) fr m ∧ fitH2 (killH H'.length H) H H' ∧ idltM H'.length m ∧ idltH H'.length H') := rfl
@[go_sem] theorem fitE2_eq {r r0 : I} {H' : List R} : fitE2 n r H r0 H' = (fit1 (killH H'.length H) r r0 ∧ n ≤ H'.length ∧ fitH2 (killH H'.length H) H H' ∧ r0.idlt H'.length ∧ idltH H'.length H') := rfl
@[go_sem] theorem fitE3_eq {r r0 : I} {H' : List R} : fitE3 n r H r0 H' = (fitV (killH H'.length H) 3 r r0 ∧ n ≤ H'.length ∧ fitH2 (killH H'.length H) H H' ∧ r0.idlt H'.length ∧ idltH H'.length H') := rfl
@[go_sem] theorem fitAll_nil {f' : I → I → Prop} : fitAll f' [] [] = True := rfl
@[go_sem] theorem fitAll_cons {f' : I → I → Prop} {x y : I} {r q : List I} : fitAll f' (x :: r) (y :: q) = (f' x y ∧ fitAll f' r q) := rfl
@[go_sem] theorem fitV_agg3 {xs ys : List I} : fitV K 3 (.agg xs) (.agg ys) = fitAll (fitV K 2) xs ys := rfl
@[go_sem] theorem fitV_tup3 {xs ys : List I} : fitV K 3 (.tup xs) (.tup ys) = fitAll (fitV K 2) xs ys := rfl
@[go_sem] theorem fitV_agg2 {xs ys : List I} : fitV K 2 (.agg xs) (.agg ys) = fitAll (fitV K 1) xs ys := rfl
@[go_sem] theorem fitV_d {m : Nat} {x : I} {d : D} : fitV K (m + 1) x (.d d) = fit1 K x (.d d) := by cases x <;> rfl
@[go_sem] theorem fitV_sl {m i g k' a b : Nat} {x : I} : fitV K (m + 1) x (.sl i g k' a b) = fit1 K x (.sl i g k' a b) := by cases x <;> rfl
@[go_sem] theorem fitH2_nil : fitH2 K H [] = True := by cases H <;> rfl
@[go_sem] theorem fitH2_cons {x y : R} {r q : List R} : fitH2 K (x :: r) (y :: q) = (fitR2 K x y ∧ fitH2 K r q) := rfl
@[go_sem] theorem fitR2_box {cs cs' : List I} : fitR2 K (.box cs) (.box cs') = fitL K cs cs' := rfl
@[go_sem] theorem fitR2_row {g k g' k' : Nat} {dp dp' : DP} {l l' : List D} : fitR2 K (.row g k dp l) (.row g' k' dp' l') = (dp.shut = true ∧ fitR (.row g k dp l) (.row g' k' dp' l')) := rfl
@[go_sem] theorem fitR2_map {es es' : List (D × D)} : fitR2 K (.map es) (.map es') = (es = es') := by simp [fitR2, fitR]
@[go_sem] theorem fitR2_dead {x : R} {g : Nat} : fitR2 K x (.dead g) = (x.gen ≤ g) := by cases x <;> rfl
@[go_sem] theorem fitR2_rb {g k : Nat} {dp : DP} {l : List D} {cs : List I} : fitR2 K (.row g k dp l) (.box cs) = False := by simp [fitR2, fitR]
@[go_sem] theorem fitR2_br {g k : Nat} {dp : DP} {l : List D} {cs : List I} : fitR2 K (.box cs) (.row g k dp l) = False := by simp [fitR2, fitR]
@[go_sem] theorem fitL_nil : fitL K [] [] = True := rfl
@[go_sem] theorem fitL_cons {x y : I} {r s : List I} : fitL K (x :: r) (y :: s) = (fit1 K x y ∧ fitL K r s) := rfl
@[go_sem] theorem fit1_map {i : Nat} {y : I} : fit1 K (.map i) y = fitS K (.map i) y := fit1_S nofun
@[go_sem] theorem fit1_junk {x : I} : fit1 K x .junk = (x = .junk) := by cases x <;> rfl
end rules
end Go.VL

/- Part 38: freezing one row, wherever it stands. Conditions: none; lemmas. -/
namespace Go.VL

variable {E : Env} {P : Program} {Q : Post} {S : Nat → Prop} {φ : List (List Nat)} {fr : Fr} {H : List R} {w : World} {n : Nat}

/-- Slices of the row are data from now on. -/
def fzIt (i g k : Nat) (l : List D) : I → I
  | .sl i' g' k' lo m => if i' = i ∧ g' = g ∧ k' = k then .d (.lst k ((l.drop lo).take m)) else .sl i' g' k' lo m
  | x => x
def fzLt (i g k : Nat) (l : List D) : List I → List I
  | [] => []
  | x :: r => fzIt i g k l x :: fzLt i g k l r
def fzMt (i g k : Nat) (l : List D) : List (Nat × I) → List (Nat × I)
  | [] => []
  | (t, x) :: r => (t, fzIt i g k l x) :: fzMt i g k l r
def fzRt (i g k : Nat) (l : List D) : R → R
  | .box cs => .box (fzLt i g k l cs)
  | r => r
def fzHt (i g k : Nat) (l : List D) : List R → List R
  | [] => []
  | r :: H => fzRt i g k l r :: fzHt i g k l H
theorem fzLt_get {i g k : Nat} {l : List D} : ∀ (cs : List I), (fzLt i g k l cs).length = cs.length ∧ ∀ j, (fzLt i g k l cs).getD j .junk = fzIt i g k l (cs.getD j .junk)
  | [] => ⟨rfl, fun j => by simp [fzLt, fzIt]⟩
  | x :: r => by
    obtain ⟨h1, h2⟩ := fzLt_get (i := i) (g := g) (k := k) (l := l) r
    refine ⟨by simp [fzLt, h1], fun j => ?_⟩
    cases j with
    | zero => simp [fzLt]
    | succ j => simpa [fzLt] using h2 j
theorem fzHt_get {i g k : Nat} {l : List D} : ∀ (H : List R), (fzHt i g k l H).length = H.length ∧ ∀ j : Nat, (fzHt i g k l H)[j]? = (H[j]?).map (fzRt i g k l)
  | [] => ⟨rfl, fun j => by simp [fzHt]⟩
  | x :: r => by
    obtain ⟨h1, h2⟩ := fzHt_get (i := i) (g := g) (k := k) (l := l) r
    refine ⟨by simp [fzHt, h1], fun j => ?_⟩
    cases j with
    | zero => simp [fzHt]
    | succ j => simpa [fzHt] using h2 j
theorem look_fzMt {i g k : Nat} {l : List D} (t : Nat) : ∀ (m : List (Nat × I)), look t (fzMt i g k l m) = fzIt i g k l (look t m)
  | [] => by simp [fzMt, look, fzIt]
  | (u, x) :: r => by
    simp only [fzMt, look]
    split
    · rfl
    · exact look_fzMt t r

theorem frz_ghost {i g k : Nat} {dp : DP} {l : List D} (hi : H[i]? = some (.row g k dp l)) (hd : dp.shut = true) (hn : n ≤ H.length) :
    Ghost n fr H ⟨fr.n, fzMt i g k l fr.m⟩ (fzHt i g k l (H.set i (.dead g))) := by
  intro S φ w a _ s hf
  obtain ⟨s1, t1, e1, z1⟩ := s.freeze hd hi
  obtain ⟨l1, g1⟩ := fzHt_get (i := i) (g := g) (k := k) (l := l) (H.set i (.dead g))
  have hlen : (H.set i (.dead g)).length = H.length := by simp
  have hlt : i < H.length := (List.getElem?_eq_some_iff.1 hi).1
  -- boxes read anew
  have t2 : Tr H.length (fun b => S b ∨ b ∈ φ.getD i []) (φ.set i []) (H.set i (.dead g)) w (fun b => S b ∨ b ∈ φ.getD i []) (φ.set i []) (fzHt i g k l (H.set i (.dead g))) w := by
    have hfr : ∀ (j : Nat) (y : R), (fzHt i g k l (H.set i (.dead g)))[j]? = some y → ∃ x, (H.set i (.dead g))[j]? = some x ∧ y = fzRt i g k l x := by
      intro j y hy
      rw [g1 j, Option.map_eq_some_iff] at hy
      obtain ⟨x, hx, rfl⟩ := hy
      exact ⟨x, hx, rfl⟩
    refine ⟨fun _ h => h, fun _ _ => rfl, by omega, by omega, ?_, ?_, ?_, ?_, ?_⟩
    · intro j hj
      have hjl : j < (H.set i (R.dead g)).length := by omega
      have hx : (H.set i (.dead g))[j]? = some ((H.set i (.dead g)).getD j (.dead 0)) := by
        rw [List.getD_eq_getElem?_getD, List.getElem?_eq_getElem hjl]; rfl
      have e : (fzHt i g k l (H.set i (.dead g))).getD j (.dead 0) = fzRt i g k l ((H.set i (.dead g)).getD j (.dead 0)) := by
        rw [List.getD_eq_getElem?_getD, g1 j, hx]; rfl
      rw [e]
      cases (H.set i (.dead g)).getD j (.dead 0) <;> exact Nat.le_refl _
    · intro j g' k' dp' l' hj hl'
      obtain ⟨x, hx, hy⟩ := hfr j _ hl'
      cases x with
      | row g2 k2 dp2 l2 =>
        cases hy
        exact .inr ⟨_, _, hx, rfl, Nat.le_refl _, fun b rest arr ty _ e2 => ⟨arr, ty, e2, Nat.le_refl _⟩⟩
      | box cs => cases hy
      | map es => cases hy
      | val z => cases hy
      | dead g2 => cases hy
    · intro j cs' hj hl'
      obtain ⟨x, hx, hy⟩ := hfr j _ hl'
      cases x with
      | box cs => exact ⟨cs, hx, rfl⟩
      | row g2 k2 dp2 l2 => cases hy
      | map es => cases hy
      | val z => cases hy
      | dead g2 => cases hy
    · intro j es' hj hl'
      obtain ⟨x, hx, hy⟩ := hfr j _ hl'
      cases x with
      | map es => exact ⟨es, hx, rfl⟩
      | row g2 k2 dp2 l2 => cases hy
      | box cs => cases hy
      | val z => cases hy
      | dead g2 => cases hy
    · intro j z hj hl'
      obtain ⟨x, hx, hy⟩ := hfr j _ hl'
      cases x with
      | val z2 => cases hy; exact ⟨hx, rfl, fun _ _ => rfl⟩
      | row g2 k2 dp2 l2 => cases hy
      | box cs => cases hy
      | map es => cases hy
      | dead g2 => cases hy
  have hv : ∀ {x : I} {v : Value}, V S φ H w x v → V (fun b => S b ∨ b ∈ φ.getD i []) (φ.set i []) (fzHt i g k l (H.set i (.dead g))) w (fzIt i g k l x) v := by
    intro x v h
    have h2 := (h.tr t1).tr (by rw [hlen]; exact t2)
    cases x with
    | sl i' g' k' lo m =>
      simp only [fzIt]
      split
      · rename_i hc
        obtain ⟨rfl, rfl, rfl⟩ := hc
        exact .d (z1 h)
      · exact h2
    | _ => exact h2
  have s3 : Sim (fun b => S b ∨ b ∈ φ.getD i []) (φ.set i []) (fzHt i g k l (H.set i (.dead g))) w := by
    refine ⟨by rw [s1.len]; omega, s1.nd, s1.dj, s1.lt, s1.off, s1.slt, fun j y hy => ?_⟩
    rw [g1 j, Option.map_eq_some_iff] at hy
    obtain ⟨x, hx, rfl⟩ := hy
    have hrel := s1.rel j x hx
    cases x with
    | box cs =>
      have hij : i ≠ j := by
        rintro rfl
        rw [List.getElem?_set_self hlt] at hx
        cases hx
      rw [List.getElem?_set_ne hij] at hx
      obtain ⟨b, arr, ty, q1, q2, q3, q4⟩ := hrel
      obtain ⟨b0, arr0, ty0, p1, p2, p3, p4⟩ := s.rel j _ hx
      obtain ⟨m1, m2⟩ := fzLt_get (i := i) (g := g) (k := k) (l := l) cs
      have hφ : (φ.set i []).getD j [] = φ.getD j [] := by simp [List.getD, List.getElem?_set_ne hij]
      rw [hφ] at q1
      rw [p1] at q1
      obtain rfl : b0 = b := by simpa using q1
      rw [p2] at q2
      obtain ⟨rfl, rfl⟩ : arr0 = arr ∧ ty0 = ty := by simpa using q2
      refine ⟨b0, arr0, ty0, by rw [hφ]; exact p1, p2, by omega, fun r hr => ?_⟩
      obtain ⟨o1, v1⟩ := p4 r (by omega)
      refine ⟨o1, ?_⟩
      rw [m2 r]
      exact hv v1
    | row g2 k2 dp2 l2 => exact hrel.tr (by rw [hlen]; exact t2) fun _ _ => rfl
    | map es => exact hrel
    | val z => exact hrel
    | dead g2 => exact hrel
  refine ⟨_, _, s3, ⟨hf.defers, hf.size, fun t => ?_⟩, e1, (t1.trans t2).weaken hn⟩
  show V _ _ _ _ (look t (fzMt i g k l fr.m)) _
  rw [look_fzMt]
  exact hv (hf.val t)

/-- The row with number i is frozen. -/
theorem iwp_frz {c : Code} (i : Nat) {g k : Nat} {dp : DP} {l : List D} (hi : H[i]? = some (.row g k dp l)) (hn : n ≤ H.length) (hd : dp.shut = true := by rfl) (h : iwp P n c Q ⟨fr.n, fzMt i g k l fr.m⟩ (fzHt i g k l (H.set i (.dead g)))) : iwp P n c Q fr H := iwp_ghost (frz_ghost hi hd hn) h

section rules
variable {i g k : Nat} {l : List D}
@[go_sem] theorem fzMt_nil : fzMt i g k l [] = [] := rfl
@[go_sem] theorem fzMt_cons {t : Nat} {x : I} {r : List (Nat × I)} : fzMt i g k l ((t, x) :: r) = (t, fzIt i g k l x) :: fzMt i g k l r := rfl
@[go_sem] theorem fzLt_nil : fzLt i g k l [] = [] := rfl
@[go_sem] theorem fzLt_cons {x : I} {r : List I} : fzLt i g k l (x :: r) = fzIt i g k l x :: fzLt i g k l r := rfl
@[go_sem] theorem fzHt_nil : fzHt i g k l [] = [] := rfl
@[go_sem] theorem fzHt_cons {x : R} {r : List R} : fzHt i g k l (x :: r) = fzRt i g k l x :: fzHt i g k l r := rfl
@[go_sem] theorem fzRt_box {cs : List I} : fzRt i g k l (.box cs) = .box (fzLt i g k l cs) := rfl
@[go_sem] theorem fzRt_row {g' k' : Nat} {dp' : DP} {l' : List D} : fzRt i g k l (.row g' k' dp' l') = .row g' k' dp' l' := rfl
@[go_sem] theorem fzRt_map {es : List (D × D)} : fzRt i g k l (.map es) = .map es := rfl
@[go_sem] theorem fzRt_dead {g' : Nat} : fzRt i g k l (.dead g') = .dead g' := rfl
@[go_sem] theorem fzIt_sl {i' g' k' lo m : Nat} : fzIt i g k l (.sl i' g' k' lo m) = if i' = i ∧ g' = g ∧ k' = k then .d (.lst k ((l.drop lo).take m)) else .sl i' g' k' lo m := rfl
@[go_sem] theorem fzIt_d {x : D} : fzIt i g k l (.d x) = .d x := rfl
@[go_sem] theorem fzIt_ptr {a b : Nat} : fzIt i g k l (.ptr a b) = .ptr a b := rfl
@[go_sem] theorem fzIt_agg {cs : List I} : fzIt i g k l (.agg cs) = .agg cs := rfl
@[go_sem] theorem fzIt_tup {cs : List I} : fzIt i g k l (.tup cs) = .tup cs := rfl
@[go_sem] theorem fzIt_map {a : Nat} : fzIt i g k l (.map a) = .map a := rfl
@[go_sem] theorem fzIt_junk : fzIt i g k l .junk = .junk := rfl
@[go_sem] theorem fzIt_cond {c : Bool} {x : I} : fzIt i g k l (.cond c x) = .cond c x := rfl
end rules
end Go.VL

/- Part 39: triples of numbers. Conditions: none; plain definitions and lemmas. -/
namespace Go.VL

abbrev Tri := Int × Int × Int
abbrev dN (x : Tri) : D := .agg [dI x.1, dI x.2.1, dI x.2.2]
abbrev dNs (l : List Tri) : D := .lst 3 (l.map dN)
@[go_sem] theorem dN_get {l : List Tri} {i : Nat} : (l.map dN).getD i (.agg [.int .i64 0, .int .i64 0, .int .i64 0]) = dN (l.getD i (0, 0, 0)) := getD_map' _ _ _ (0, 0, 0)
@[go_sem] theorem dN_inj {l l' : List Tri} : (l.map dN = l'.map dN) = (l = l') := map_inj fun x y h => by
  obtain ⟨a, b, c⟩ := x; obtain ⟨d, e, f⟩ := y
  simpa [dN] using h
@[go_sem] theorem dN_ok {l : List Tri} : okL (l.map dN) = ∀ x ∈ l, InK .i64 x.1 ∧ InK .i64 x.2.1 ∧ InK .i64 x.2.2 := by
  rw [okL_map]
  simp [dN, D.ok, okL]
@[go_sem] theorem dN_set' {l : List Tri} {i : Nat} {x y z : Int} : (l.map dN).set i (D.agg [.int .i64 x, .int .i64 y, .int .i64 z]) = (l.set i (x, y, z)).map dN := (List.map_set (f := dN) (a := (x, y, z))).symm
@[go_sem] theorem dN_rep {n : Nat} : List.replicate n (D.agg [.int .i64 0, .int .i64 0, .int .i64 0]) = (List.replicate n ((0, 0, 0) : Tri)).map dN := by simp [dN]
@[go_sem] theorem dN_push {l : List Tri} {x y z : Int} : l.map dN ++ [D.agg [.int .i64 x, .int .i64 y, .int .i64 z]] = (l ++ [(x, y, z)]).map dN := by simp
@[go_sem] theorem dN_push' {l : List Tri} {x : Tri} : l.map dN ++ [dN x] = (l ++ [x]).map dN := by simp
@[go_sem] theorem dN_app {l l' : List Tri} : l.map dN ++ l'.map dN = (l ++ l').map dN := by simp
@[go_sem] theorem dN_none {l : List Tri} : (([] : List D) = l.map dN) = (l = []) := propext ⟨fun h => by cases l with | nil => rfl | cons x r => simp at h, fun h => by rw [h]; rfl⟩
@[go_sem] theorem dN_drop {l : List Tri} {n : Nat} : (l.map dN).drop n = (l.drop n).map dN := by simp
@[go_sem] theorem dN_take {l : List Tri} {n : Nat} : (l.map dN).take n = (l.take n).map dN := by simp
end Go.VL

/- Part 40: slices that lie in owned rows are taken in at the ends of rounds and of contracts. Conditions: none; lemmas. -/
namespace Go.VL

variable {E : Env} {P : Program} {Q : Post} {S : Nat → Prop} {φ : List (List Nat)} {fr : Fr} {H : List R} {w : World} {n : Nat}

theorem shut_ghost (hvc : (shut H).1) : Ghost n fr H fr (shut H).2 := by
  intro S φ w a hn s hf
  obtain ⟨φ', s', t, e⟩ := shut_sound s hvc
  exact ⟨S, φ', s', hf.tr t, e, t.weaken hn⟩

/-- What stands behind the closing. -/
def shutQ (k : List R → Prop) (q : Prop × List R) : Prop := q.1 ∧ k q.2
def shutP (H : List R) (k : List R → Prop) : Prop := shutQ k (shut H)
@[go_sem] theorem shutP_eq {k : List R → Prop} : shutP H k = shutQ k (shut H) := rfl
@[go_sem] theorem shutQ_s {k : List R → Prop} {c : Prop} : shutQ k (c, H) = (c ∧ k H) := rfl

theorem endI_shut {Po : I → List R → Prop} {r : I} (h : shutP H (fun H' => endI n Po r H')) : endI n Po r H := by
  obtain ⟨fr', H', g, h1, h2⟩ := h.2
  exact ⟨fr', H', (shut_ghost h.1).trans g, h1, h2⟩
theorem iwp_shut {c : Code} (h : shutP H (fun H' => iwp P n c Q fr H')) : iwp P n c Q fr H := iwp_ghost (shut_ghost h.1) h.2

/-- The end of a round, or a way out of the loop. -/
def loopQ5 (E : Env) (ks : List Item) (Q : Post) (f : Nat) {σ : Type} (nt : Nat) (F : σ → List (Nat × I)) (Hp : σ → List R) (inv : σ → Prop) (mu : σ → Nat) (s : σ) : Post
  | .normal, fr, H => shutP H (fun H' => ∃ s', inv s' ∧ mu s' < mu s ∧ fit2 E.n nt fr H' (F s') (Hp s'))
  | .exit id, fr, H => execX E f (exK id ks) id ks Q fr H
  | e, fr, H => contQ E ks Q e fr H

theorem loop_of5 (hT : TOK E.P E.T) {σ : Type} (F : σ → List (Nat × I)) (Hp : σ → List R) (inv : σ → Prop) (mu : σ → Nat) (ob : List (Nat × Nat × Nat × Bool)) (own : List (Nat × Nat × Bool)) (f1 f2 : Nat) {ks : List Item} {c : Code}
    (hs : shutP H (fun H => ownBC ob H ∧ ownVC own fr (ownB ob H) ∧ ∃ s, inv s ∧ fit2 E.n fr.n (ownAll own fr (ownB ob H)).1 (ownAll own fr (ownB ob H)).2 (F s) (Hp s)))
    (hr : ∀ s, inv s → execC E f1 c [] (loopQ5 E ks Q f2 fr.n F Hp inv mu s) ⟨fr.n, F s⟩ (Hp s)) : iwp E.P E.n (.loop c) (contQ E ks Q) fr H := by
  obtain ⟨hsv, hbc, hvc, s0, hi0, hf0⟩ := hs
  refine iwp_loopG (fun m fr' H' => ∃ s, inv s ∧ mu s = m ∧ fr' = ⟨fr.n, F s⟩ ∧ H' = Hp s) (mu s0) ⟨_, _, (((shut_ghost hsv).trans (ownB_ghost ob hbc)).trans (ownAll_ghost own hvc)).trans (fit2_ghost hf0), s0, hi0, rfl, rfl, rfl⟩ ?_
  rintro m fr' H' ⟨s, hi, rfl, rfl, rfl⟩
  refine iwp_mono (run_code hT f1 (hr s hi)) ?_
  intro e fr' H' hq
  cases e with
  | normal =>
    obtain ⟨hsv, s', hi', hmu, hfit⟩ := hq
    exact ⟨_, _, (shut_ghost hsv).trans (fit2_ghost hfit), mu s', hmu, s', hi', rfl, rfl, rfl⟩
  | exit id =>
    simp only [loopQ5] at hq
    refine contQ_exit id ks ?_
    generalize exK id ks = o at hq
    match f2, o with
    | 0, _ => simp only [execX] at hq
    | f + 1, some ks' =>
      simp only [execX] at hq
      exact run_cont hT f hq
    | f + 1, none =>
      simp only [execX] at hq
      exact hq
  | goto l => exact hq
  | ret => exact hq
  | panic ch => exact hq
  | outgrown => exact hq

section rules
variable {σ : Type} {F : σ → List (Nat × I)} {Hp : σ → List R} {inv : σ → Prop} {mu : σ → Nat} {s : σ} {ks : List Item} {f nt : Nat}
@[go_sem] theorem loopQ5_normal : loopQ5 E ks Q f nt F Hp inv mu s .normal fr H = shutP H (fun H' => ∃ s', inv s' ∧ mu s' < mu s ∧ fit2 E.n nt fr H' (F s') (Hp s')) := rfl
@[go_sem] theorem loopQ5_exit {id : Nat} : loopQ5 E ks Q f nt F Hp inv mu s (.exit id) fr H = execX E f (exK id ks) id ks Q fr H := rfl
@[go_sem] theorem loopQ5_ret : loopQ5 E ks Q f nt F Hp inv mu s .ret fr H = contQ E ks Q .ret fr H := rfl
end rules

@[go_sem] theorem take_len_map {α β : Type} {f : α → β} {l : List α} : (l.map f).take l.length = l.map f := List.take_of_length_le (by simp)
/-! ### Cells that are put back -/
theorem putC1 {l : List D} {idx off : Nat} {c : D} : putC 1 l idx off c = l.set idx c := rfl
/-- The cell of a mapped row of slices. -/
theorem putC_map1 {α : Type} {f : α → D} {l : List α} {idx off : Nat} {y : α} : putC 1 (l.map f) idx off (f y) = (l.set idx y).map f := by
  rw [putC1, List.map_set]
theorem putC_map {α : Type} {f : α → D} {k : Nat} (hk : k ≠ 1) {l : List α} {z : α} {idx off : Nat} {c : D} {y : α} (hi : idx < l.length) (h : D.agg (setD (cellsFrom (f (l.getD idx z)) 0 k) off [c]) = f y) : putC k (l.map f) idx off c = (l.set idx y).map f := by
  unfold putC
  rw [show decide (k = 1) = false by simp [hk]]
  simp only
  have e : (l.map f).getD idx .nil = f (l.getD idx z) := by simp [List.getD, hi]
  rw [e, h, List.map_set]
theorem putC_length {k : Nat} {l : List D} {idx off : Nat} {c : D} : (putC k l idx off c).length = l.length := by
  unfold putC; split <;> simp
/-- The element with a new cell. -/
def putE (one : Bool) (k : Nat) (x : D) (off : Nat) (c : D) : D :=
  match one with
  | true => c
  | false => .agg (setD (cellsFrom x 0 k) off [c])
@[go_sem] theorem putE_t {k : Nat} {x c : D} {off : Nat} : putE true k x off c = c := rfl
@[go_sem] theorem putE_f {k : Nat} {x c : D} {off : Nat} : putE false k x off c = .agg (setD (cellsFrom x 0 k) off [c]) := rfl
/-- The cell of an element that was put at the end. -/
@[go_sem] theorem putC_end {k : Nat} {l : List D} {x c : D} {off : Nat} : putC k (l ++ [x]) l.length off c = l ++ [putE (decide (k = 1)) k x off c] := by
  unfold putC putE
  cases decide (k = 1) <;> simp [List.getD]
@[go_sem] theorem putC_endm {α : Type} {f : α → D} {k : Nat} {l : List α} {x c : D} {off : Nat} : putC k (l.map f ++ [x]) l.length off c = l.map f ++ [putE (decide (k = 1)) k x off c] := by
  have := putC_end (k := k) (l := l.map f) (x := x) (c := c) (off := off)
  rwa [List.length_map] at this
/-- The cell of an element that has been stored. -/
@[go_sem] theorem putC_set {k : Nat} {l : List D} {idx off : Nat} {x c : D} : putC k (l.set idx x) idx off c = l.set idx (putE (decide (k = 1)) k x off c) := by
  unfold putC putE
  cases decide (k = 1)
  · by_cases h : idx < l.length
    · simp [List.getD, h]
    · have e : ∀ y : D, l.set idx y = l := fun y => List.set_eq_of_length_le (by omega)
      simp only [e]
  · simp

/-- What marking leaves in a slice of truth values. -/
def markedB (k : Int) (n : Nat) : List Bool := (List.range n).map fun (j : Nat) => decide ((k + (j : Int)) % 3 = 0)

/-- A nil slice is an empty one. -/
theorem Pure.nilL {f : Nat} {ds : List D} {k : Nat} (hk : 0 < k) (h : Pure P f ds .nil) : Pure P f ds (.lst k []) :=
  ⟨h.1, fun S vs w Rr h1 h2 h3 => h.2 S vs w Rr h1 h2 fun v w' fp how => h3 v w' fp (by cases how; exact .lst0 hk)⟩

/-! ### Regions again: what is loaded out of boxes is not touched by appends -/
def LeftB (m : Nat) (S : Nat → Prop) (φ : List (List Nat)) (H : List R) (w : World) (K : Fr → List R → Prop) (a' : Act) (w' : World) : Prop :=
  ∃ S' φ' fr' H', Sim S' φ' H' w' ∧ FrR S' φ' H' w' fr' a' ∧ Ext S φ w S' φ' w' ∧ Tr m S φ H w S' φ' H' w' ∧ K fr' H'
theorem isApp_call {op : Op} {p : Operand × List Operand} (h : isCall op = some p) : isApp op = false := by
  unfold isCall at h
  unfold isApp
  split at h
  · rfl
  · cases h
/-- A load out of a box or frozen data, or nothing that reads. -/
def ptrLd (fr : Fr) (o : Oper) : Prop :=
  match o.op with
  | .load _ p => (∃ d, evx fr p = .d d) ∨ ∃ i o, evx fr p = .ptr i o
  | op => readsO op = false
def isPD : I → Prop
  | .d _ => True
  | .ptr _ _ => True
  | _ => False
def boxesIn : List R → List R → Prop
  | [], _ => True
  | .box _ :: r, .box _ :: q => boxesIn r q
  | .box _ :: _, _ => False
  | _ :: r, _ :: q => boxesIn r q
  | _ :: _, [] => False
theorem boxesIn_get : ∀ {H0 H : List R}, boxesIn H0 H → ∀ {j : Nat} {cs : List I}, H0[j]? = some (.box cs) → ∃ cs', H[j]? = some (.box cs')
  | [], H, _, j, cs, e => by simp at e
  | x :: r, [], h, j, cs, e => by cases x <;> exact h.elim
  | x :: r, y :: q, h, 0, cs, e => by
    simp only [List.getElem?_cons_zero, Option.some.injEq] at e
    subst e
    cases y <;> first | exact ⟨_, rfl⟩ | exact h.elim
  | x :: r, y :: q, h, j + 1, cs, e => by
    have h' : boxesIn r q := by
      cases x <;> cases y <;> first | exact h | exact h.elim
    simpa using boxesIn_get h' (j := j) (by simpa using e)
def keepB (E : Env) (H0 : List R) (fr : Fr) (H : List R) (o : Oper) : Prop := boxesIn H0 H ∧ (isApp o.op = true ∨ keepO E fr o)
theorem boxAg_step {E : Env} {S0 S : Nat → Prop} {φ0 φ : List (List Nat)} {H0 H : List R} {w0 w w' : World} {fr : Fr} {o : Oper} (s : Sim S φ H w) (hag : (keepO E fr o → Agree w w') ∧ (isApp o.op = true → BoxAg S φ H w w')) (hk : keepB E H0 fr H o)
    (h : BoxAg S0 φ0 H0 w0 w) (he : Ext S0 φ0 w0 S φ w) (ht : Tr H0.length S0 φ0 H0 w0 S φ H w) : BoxAg S0 φ0 H0 w0 w' := by
  have hb : BoxAg S φ H w w' := by
    rcases hk.2 with h1 | h1
    · exact hag.2 h1
    · exact boxAg_agree s (hag.1 h1)
  refine ⟨fun b hS => (hb.1 b (he.sub b hS)).trans (h.1 b hS), fun j cs b hj hm => ?_⟩
  obtain ⟨cs', hj'⟩ := boxesIn_get hk.1 hj
  obtain ⟨_, _, e⟩ := ht.box j cs' (List.getElem?_eq_some_iff.1 hj).1 hj'
  exact (hb.2 j cs' b hj' (by rw [e]; exact hm)).trans (h.2 j cs b hj hm)

section modeB
variable {a : Act}
set_option maxHeartbeats 1000000 in
theorem step_leftB (hT : TOK E.P E.T) {all : List Oper} {o : Oper} {K : Fr → List R → Prop} (m : Nat) (F : Nat) (hn : m ≤ H.length) (s : Sim S φ H w) (hf : FrR S φ H w fr a)
    (h : ops' E F all [o] [] (nQ K) fr H) {Kr : Act → World → Prop} {Qr : Exit → Act → World → Prop} (hK : ∀ a' w', ((keepO E fr o → Agree w w') ∧ (isApp o.op = true → BoxAg S φ H w w')) → LeftB m S φ H w K a' w' → Kr a' w') :
    if Region.wanted o (yielded all.toArray a.tmps) then o.wp E.P a w Kr Qr ∨ (o.asks E.P a w ∧ LetsOut Qr) else Kr (a.put o.dst undef) w := by
  have fin : ∀ (f : Nat) {fr' : Fr} {H' : List R}, ops' E f all [] [] (nQ K) fr' H' → K fr' H' := by
    intro f fr' H' h
    match f with
    | 0 => simp only [ops'] at h
    | 1 => simp only [ops', exec] at h
    | f + 2 => simpa only [ops', exec, nQ] using h
  have same : ∀ {fr' : Fr} {a' : Act}, FrR S φ H w fr' a' → K fr' H → Kr a' w := fun hf' hk => hK _ _ ⟨fun _ => Agree.refl w, fun _ => boxAg_agree s (Agree.refl w)⟩ ⟨S, φ, _, H, s, hf', Ext.refl .., Tr.refl hn, hk⟩
  match F with
  | 0 => simp only [ops'] at h
  | F + 1 =>
  simp only [ops'] at h
  split at h
  · rename_i hgd
    have hw : Region.wanted o (yielded all.toArray a.tmps) = true := by simp only [Region.wanted, hgd]
    simp only [hw, if_true]
    left
    split at h
    · rename_i g args ho
      refine callM_left ho s hf h fun S' φ' H' w' r v s' hf' hv he ht hag hk => hK _ _ ⟨fun hk => hag (by simpa only [keepO, ho] using hk), fun ha => by rw [isApp_call ho] at ha; cases ha⟩ ?_
      match F with
      | 0 => simp only [opsK] at hk
      | f + 1 =>
        simp only [opsK] at hk
        exact ⟨S', φ', _, H', s', hf'.put o.dst hv, he, ht.weaken hn, fin _ hk⟩
    · rename_i hnc
      split at h
      · rename_i vc x hp
        obtain ⟨hvc, hk⟩ := h
        obtain ⟨v, hv, hr⟩ := sopP_sound hT s hf hp hvc
        unfold Oper.wp
        rw [hr w (fun _ => Agree.refl w), Oper.upon_value]
        exact same (hf.put o.dst hv) (fin _ hk)
      · rename_i hnP
        split at h
        · rename_i vc x H' hp
          obtain ⟨hvc, hk⟩ := h
          obtain ⟨v, w', φ', hr, s', ht, he, hv⟩ := sopI_sound hT s hf hp hvc
          have hag : keepO E fr o → Agree w w' := sopI_keep hT s hf hnc hp hvc hr
          have hbx : isApp o.op = true → BoxAg S φ H w w' := fun ha => by
            obtain ⟨v2, w2, hr2, hb2⟩ := sopI_app hT s hf hp hvc ha
            have hww : w2 = w' := by
              rcases hr with h1 | ⟨h1, _⟩ <;> rw [h1] at hr2 <;> injection hr2 with _ h3 <;> exact h3.symm
            exact hww ▸ hb2
          have fin2 : Kr (a.put o.dst v) w' := hK _ _ ⟨hag, hbx⟩ ⟨S, φ', _, H', s', (hf.tr ht).put o.dst hv, he, ht.weaken hn, fin _ hk⟩
          unfold Oper.wp
          rcases hr with hr | ⟨hr, rfl⟩
          · rw [hr, Oper.upon_value]; exact fin2
          · rw [hr, Oper.upon_skip]; exact fin2
        · split at h
          · rename_i vc x H' hp
            obtain ⟨hvc, hk⟩ := h
            obtain ⟨v, w', φ', hr, hag, s', ht, he, hv, _⟩ := sopO_sound' hT s hf hp hvc
            have fin2 : Kr (a.put o.dst v) w' := hK _ _ ⟨fun _ => hag, fun _ => boxAg_agree s hag⟩ ⟨S, φ', _, H', s', (hf.tr ht).put o.dst hv, he, ht.weaken hn, fin _ hk⟩
            unfold Oper.wp
            rw [hr, Oper.upon_value]; exact fin2
          split at h
          · rename_i fc fr1 H1 hfz
            split at h
            · rename_i vc x H' hp
              obtain ⟨hfc, hvc, hk⟩ := h
              obtain ⟨S1, φ1, s1, hf1, e1, t1⟩ := frzOp_sound s hf hfz hfc
              obtain ⟨v, w', φ', hr, s', ht, he, hv⟩ := sopI_sound hT s1 hf1 hp hvc
              have hn1 := Nat.le_trans hn t1.len
              have hag : keepO E fr o → Agree w w' := fun _ => sopI_keep hT s1 hf1 hnc hp hvc hr (by
                obtain ⟨_, _, _, hop⟩ := frzOp_build hfz
                simp [keepO, hop, isCall, memO])
              have fin2 : Kr (a.put o.dst v) w' := hK _ _ ⟨hag, fun ha => by
                obtain ⟨_, _, _, hop⟩ := frzOp_build hfz
                rw [hop] at ha; cases ha⟩ ⟨S1, φ', _, H', s', (hf1.tr ht).put o.dst hv, e1.trans he, (t1.weaken hn).trans (ht.weaken hn1), fin _ hk⟩
              unfold Oper.wp
              rcases hr with hr | ⟨hr, rfl⟩
              · rw [hr, Oper.upon_value]; exact fin2
              · rw [hr, Oper.upon_skip]; exact fin2
            · exact h.elim
          · exact h.elim
  · rename_i j want hgd
    split at h
    · rename_i gc e hg
      have wanted : gc → Region.wanted o (yielded all.toArray a.tmps) = e := by
        intro hgc
        exact guardOf_sound hf hgd hg hgc
      split at h
      · rename_i g args ho
        obtain ⟨hgc, h⟩ := h
        rw [wanted hgc]
        unfold callN at h
        split at h
        · rename_i g' caps hfn
          split at h
          · rename_i hpf
            split at h
            · rename_i vc ds hv
              obtain ⟨hc, x, hp, hk⟩ := h
              match F with
              | 0 => simp only [opsG] at hk
              | F + 1 =>
              simp only [opsG] at hk
              cases e with
              | false =>
                simp only [Bool.false_eq_true, if_false]
                exact same (hf.skip o.dst rfl _) (fin _ hk)
              | true =>
                simp only [if_true]
                left
                obtain ⟨hc, hvc⟩ := hc rfl
                have hp := hp rfl
                refine callM_left (E := E) ho s hf (Kc := fun r H' => H' = H ∧ r = .d x) ?_ ?_
                · simp only [callM, hfn, hpf, hv]
                  exact ⟨hc, hvc, fun y => y = x, hp.toE, fun y hy => .inl ⟨rfl, by rw [hy]⟩⟩
                · rintro S' φ' H' w' r v s' hf' hv' he ht hag ⟨rfl, rfl⟩
                  exact hK _ _ ⟨fun hk => hag (by simpa only [keepO, ho] using hk), fun ha => by rw [isApp_call ho] at ha; cases ha⟩ ⟨S', φ', _, _, s', hf'.put o.dst (.cond (fun _ => hv') fun h => by cases h), he, ht.weaken hn, fin _ hk⟩
            · exact h.elim
          · rename_i hpf
            cases e with
            | false =>
              obtain ⟨x, hk⟩ := h.1 rfl
              match F with
              | 0 => simp only [opsG] at hk
              | F + 1 =>
              simp only [opsG] at hk
              simp only [Bool.false_eq_true, if_false]
              exact same (hf.skip o.dst rfl _) (fin _ hk)
            | true =>
              simp only [if_true]
              left
              obtain ⟨hc, hp⟩ := h.2 rfl
              refine callM_left (E := E) ho s hf (Kc := fun r H' => opsG E F all [] [] (nQ K) fr o.dst H' (.cond true r)) ?_ ?_
              · simp only [callM, hfn, hpf]
                exact ⟨hc, hp⟩
              · intro S' φ' H' w' r v s' hf' hv' he ht hag hk
                match F with
                | 0 => simp only [opsG] at hk
                | F + 1 =>
                simp only [opsG] at hk
                exact hK _ _ ⟨fun hk => hag (by simpa only [keepO, ho] using hk), fun ha => by rw [isApp_call ho] at ha; cases ha⟩ ⟨S', φ', _, _, s', hf'.put o.dst (.cond (fun _ => hv') fun h => by cases h), he, ht.weaken hn, fin _ hk⟩
          · exact h.elim
        · exact h.elim
      · split at h
        · rename_i vc x hp
          obtain ⟨hgc, hvc, hk⟩ := h
          rw [wanted hgc]
          cases e with
          | false =>
            simp only [Bool.false_eq_true, if_false]
            exact same (hf.skip o.dst rfl _) (fin _ hk)
          | true =>
            simp only [if_true]
            left
            obtain ⟨v, hv, hr⟩ := sopP_sound hT s hf hp (hvc rfl)
            unfold Oper.wp
            rw [hr w (fun _ => Agree.refl w), Oper.upon_value]
            exact same (hf.put o.dst (.cond (fun _ => hv) fun h => by cases h)) (fin _ hk)
        · rename_i hnP
          split at h
          · rename_i vc x H' hp
            obtain ⟨hgc, hk0, hk1⟩ := h
            rw [wanted hgc]
            cases e with
            | false =>
              obtain ⟨y, hk⟩ := hk0 rfl
              simp only [Bool.false_eq_true, if_false]
              exact same (hf.skip o.dst rfl _) (fin _ hk)
            | true =>
              obtain ⟨hvc, hk⟩ := hk1 rfl
              simp only [if_true]
              left
              obtain ⟨v, w', φ', hr, s', ht, he, hv⟩ := sopI_sound hT s hf hp hvc
              have fin2 : Kr (a.put o.dst v) w' := hK _ _ ⟨sopI_keep hT s hf (by assumption) hp hvc hr, fun ha => by
                obtain ⟨v2, w2, hr2, hb2⟩ := sopI_app hT s hf hp hvc ha
                have hww : w2 = w' := by
                  rcases hr with h1 | ⟨h1, _⟩ <;> rw [h1] at hr2 <;> injection hr2 with _ h3 <;> exact h3.symm
                exact hww ▸ hb2⟩ ⟨S, φ', _, H', s', (hf.tr ht).put o.dst (.cond (fun _ => hv) fun h => by cases h), he, ht.weaken hn, fin _ hk⟩
              unfold Oper.wp
              rcases hr with hr | ⟨hr, rfl⟩
              · rw [hr, Oper.upon_value]; exact fin2
              · rw [hr, Oper.upon_skip]; exact fin2
          · exact h.elim
    · exact h.elim

theorem fst_leftB (hT : TOK E.P E.T) {all : List Oper} {o : Oper} {K : Fr → List R → Prop} (F : Nat) (s : Sim S φ H w) (hf : FrR S φ H w fr a) (hq : plainO o = true) (hpt : ptrLd fr o)
    (h : ops' E F all [o] [] (nQ K) fr H) : ∃ v fr', FrR S φ H w fr' (a.put o.dst v) ∧ K fr' H ∧ YieldsIf E.P all.toArray (fun w' => readsO o.op = true → BoxAg S φ H w w') o v a := by
  have fin : ∀ (f : Nat) {fr' : Fr} {H' : List R}, ops' E f all [] [] (nQ K) fr' H' → K fr' H' := by
    intro f fr' H' h
    match f with
    | 0 => simp only [ops'] at h
    | 1 => simp only [ops', exec] at h
    | f + 2 => simpa only [ops', exec, nQ] using h
  simp only [plainO, Bool.and_eq_true, Option.isNone_iff_eq_none] at hq
  have noI : ∀ {vc : Prop} {x : I} {H' : List R}, sopI E.T fr H o.op = some (vc, x, H') → False := by
    intro vc x H' hp
    obtain ⟨dst, op, ty, pos, after, guard⟩ := o
    simp only at hp hq
    cases op with
    | call c =>
      obtain ⟨callee, cargs, tys⟩ := c
      cases callee with
      | builtin b => cases b <;> simp [quietO] at hq <;> simp [sopI] at hp
      | value g => simp [isCall] at hq
      | _ => simp [quietO] at hq
    | _ => first | (simp [quietO] at hq; done) | (simp [sopI] at hp; done)
  have noO : ∀ {vc : Prop} {x : I} {H' : List R}, sopO E.deep E.T fr H o.op = some (vc, x, H') → False := by
    intro vc x H' hp
    rcases sopO_kind hp with ⟨t, n, q, h⟩ | ⟨t, q, h⟩
    · rw [h] at hq; simp [quietO] at hq
    · rw [h] at hp
      simp only [ptrLd, h] at hpt
      simp only [sopO, sOpen] at hp
      rcases hpt with ⟨d, e⟩ | ⟨i, o, e⟩ <;> rw [e] at hp <;> cases E.T t <;> simp [andCI] at hp
  have plain : ∀ {vc : Prop} {x : I}, sopP E.T fr H o.op = some (vc, x) → vc → ∃ v, V S φ H w x v ∧ ∀ w', (readsO o.op = true → BoxAg S φ H w w') → (execOp a.eval o).run E.P w' = .ok (.value v) w' := by
    intro vc x hp hvc
    by_cases hl : ∃ t q, o.op = .load t q
    · obtain ⟨t, q, hl⟩ := hl
      simp only [ptrLd, hl] at hpt
      obtain ⟨dst, op, ty, pos, after, guard⟩ := o
      simp only at hl
      subst hl
      obtain ⟨hc, vc', hp, hvc⟩ := andC_inv hp hvc
      obtain ⟨v, hv, hr⟩ := loadB_sound hT s (hf.evx q hc) hpt hp hvc
      exact ⟨v, hv, fun w' hw' => by simp [execOp, hr w' (hw' rfl)]⟩
    · obtain ⟨v, hv, hr⟩ := sopP_sound hT s hf hp hvc
      refine ⟨v, hv, fun w' hw' => hr w' fun hrd => ?_⟩
      have : readsO o.op = false := by
        simp only [ptrLd] at hpt
        split at hpt
        · rename_i t q e; exact absurd ⟨t, q, e⟩ hl
        · exact hpt
      rw [this] at hrd; cases hrd
  match F with
  | 0 => simp only [ops'] at h
  | F + 1 =>
  simp only [ops', hq.2] at h
  split at h
  · rename_i hgd
    have hw : Region.wanted o (yielded all.toArray a.tmps) = true := by simp only [Region.wanted, hgd]
    split at h
    · rename_i vc x hp
      obtain ⟨hvc, hk⟩ := h
      obtain ⟨v, hv, hr⟩ := plain hp hvc
      exact ⟨v, _, hf.put o.dst hv, fin _ hk, .inl ⟨hw, fun w' hw' => hr w' hw'⟩⟩
    · split at h
      · rename_i vc x H' hp
        exact (noI hp).elim
      · split at h
        · rename_i vc x H' hp
          exact (noO hp).elim
        split at h
        · rename_i fc fr1 H1 hfz
          obtain ⟨_, _, _, hop⟩ := frzOp_build hfz
          rw [hop] at hq
          simp [quietO] at hq
        · exact h.elim
  · rename_i j want hgd
    split at h
    · rename_i gc e hg
      have wanted : gc → Region.wanted o (yielded all.toArray a.tmps) = e := by
        intro hgc
        exact guardOf_sound hf hgd hg hgc
      split at h
      · rename_i vc x hp
        obtain ⟨hgc, hvc, hk⟩ := h
        have hw := wanted hgc
        cases e with
        | false => exact ⟨undef, _, hf.skip o.dst rfl _, fin _ hk, .inr ⟨hw, rfl⟩⟩
        | true =>
          obtain ⟨v, hv, hr⟩ := plain hp (hvc rfl)
          exact ⟨v, _, hf.put o.dst (.cond (fun _ => hv) fun h => by cases h), fin _ hk, .inl ⟨hw, fun w' hw' => hr w' hw'⟩⟩
      · split at h
        · rename_i vc x H' hp
          exact (noI hp).elim
        · exact h.elim
    · exact h.elim

def runSB (E : Env) (F : Nat) (l : List Oper) (tails : List Nat) (H0 : List R) (K : Fr → List R → Prop) : Sch → Fr → List R → Prop
  | .done, fr, H => K fr H
  | .fst i t, fr, H => ptrLd fr (opAt l i) ∧ ops' E F l [opAt l i] [] (nQ (runSB E F l tails H0 K t)) fr H
  | .one i t, fr, H => (tails.contains i = false → keepB E H0 fr H (opAt l i)) ∧ ops' E F l [opAt l i] [] (nQ (runSB E F l tails H0 K t)) fr H
  | .two i t j u, fr, H => ((tails.contains i = false → keepB E H0 fr H (opAt l i)) ∧ ops' E F l [opAt l i] [] (nQ (runSB E F l tails H0 K t)) fr H) ∧
      ((tails.contains j = false → keepB E H0 fr H (opAt l j)) ∧ ops' E F l [opAt l j] [] (nQ (runSB E F l tails H0 K u)) fr H)
  | .three i t j u k v, fr, H => ((tails.contains i = false → keepB E H0 fr H (opAt l i)) ∧ ops' E F l [opAt l i] [] (nQ (runSB E F l tails H0 K t)) fr H) ∧
      ((tails.contains j = false → keepB E H0 fr H (opAt l j)) ∧ ops' E F l [opAt l j] [] (nQ (runSB E F l tails H0 K u)) fr H) ∧
      ((tails.contains k = false → keepB E H0 fr H (opAt l k)) ∧ ops' E F l [opAt l k] [] (nQ (runSB E F l tails H0 K v)) fr H)
  | .four i t j u k v m y, fr, H =>
      ((tails.contains i = false → keepB E H0 fr H (opAt l i)) ∧ ops' E F l [opAt l i] [] (nQ (runSB E F l tails H0 K t)) fr H) ∧
      ((tails.contains j = false → keepB E H0 fr H (opAt l j)) ∧ ops' E F l [opAt l j] [] (nQ (runSB E F l tails H0 K u)) fr H) ∧
      ((tails.contains k = false → keepB E H0 fr H (opAt l k)) ∧ ops' E F l [opAt l k] [] (nQ (runSB E F l tails H0 K v)) fr H) ∧
      ((tails.contains m = false → keepB E H0 fr H (opAt l m)) ∧ ops' E F l [opAt l m] [] (nQ (runSB E F l tails H0 K y)) fr H)

theorem runSB_sound (hT : TOK E.P E.T) {F : Nat} {l : List Oper} {tails : List Nat} {K : Fr → List R → Prop} {Qr : Act → World → Prop} {w0 : World} {S0 : Nat → Prop} {φ0 : List (List Nat)} {H0 : List R}
    (hs : Region.noSelect l.toArray = true) (hq : ∀ a' w', LeftB H0.length S0 φ0 H0 w0 K a' w' → Qr a' w') :
    ∀ (t : Sch) (fuel : Nat) (listed : Array Bool) (ph : Bool) (S : Nat → Prop) (φ : List (List Nat)) (H : List R) (w : World) (fr : Fr) (a : Act),
      Sim S φ H w → FrR S φ H w fr a → Ext S0 φ0 w0 S φ w → Tr H0.length S0 φ0 H0 w0 S φ H w → (ph = true → S = S0 ∧ φ = φ0 ∧ H = H0 ∧ w = w0) → Closed l.toArray listed → chkS l.toArray tails listed ph t = true → t.depth ≤ fuel → runSB E F l tails H0 K t fr H →
      wpAnyT E.P l.toArray (fun e a w => match e with | .normal => Qr a w | _ => False) (BoxAg S0 φ0 H0 w0) (fun i => !tails.contains i) fuel listed a w := by
  intro t
  induction t with
  | done =>
    intro fuel listed ph S φ H w fr a s hf he ht hph hcl hc hd h
    simp only [chkS, List.isEmpty_iff] at hc
    have hQ : Qr a w := hq _ _ ⟨S, φ, fr, H, s, hf, he, ht, h⟩
    cases fuel with
    | zero => exact ⟨hc, hQ⟩
    | succ f => exact ⟨fun _ => hQ, by rw [hc]; simp⟩
  | fst i t ih =>
    intro fuel listed ph S φ H w fr a s hf he ht hph hcl hc hd h
    match fuel with
    | 0 => simp [Sch.depth] at hd
    | fuel + 1 =>
    simp only [chkS, Bool.and_eq_true, List.contains_iff_mem] at hc
    obtain ⟨⟨⟨hr, hfree⟩, hop⟩, hc⟩ := hc
    split at hop
    case h_2 => simp at hop
    rename_i o ho
    simp only [Bool.and_eq_true, Bool.or_eq_true, Bool.not_eq_true'] at hop
    obtain ⟨hpl, hrd⟩ := hop
    simp only [runSB, opAt_get ho] at h
    obtain ⟨v, fr', hf', hk, hy⟩ := fst_leftB hT F s hf hpl h.1 h.2
    have next := ih fuel (listed.setIfInBounds i true) ph S φ H w fr' (a.put o.dst v) s hf' he ht hph (hcl.set hr) hc (by simpa [Sch.depth] using hd) hk
    have hfr := Region.free_spec ho hfree
    cases hro : readsO o.op with
    | false =>
      refine wpAnyT_first (S1 := fun _ => True) ho (Region.noSelect_spec hs) (fun _ _ _ h => h) (.inl fun _ => trivial) fuel listed a w hfr (.inl fun _ => trivial) hcl hr ?_ trivial next
      exact hy.imp (fun ⟨h1, h2⟩ => ⟨h1, fun w' _ => h2 w' (by simp [hro])⟩) id
    | true =>
      rcases hrd with h0 | ⟨h1, h2⟩
      · rw [hro] at h0; cases h0
      · obtain ⟨rfl, rfl, rfl, rfl⟩ := hph h1
        refine wpAnyT_first (S1 := BoxAg S φ H w) ho (Region.noSelect_spec hs) (fun _ _ _ h => h) (.inr rfl) fuel listed a w hfr (.inr fun j hj => ?_) hcl hr ?_ (boxAg_agree s (Agree.refl w)) next
        · simp only [Bool.not_eq_false', List.contains_iff_mem] at hj
          have := List.all_eq_true.1 h2 j hj
          simp only [Bool.or_eq_true] at this
          exact this.imp id fun h => ⟨_, h⟩
        · exact hy.imp (fun ⟨h1, h2⟩ => ⟨h1, fun w' hw' => h2 w' fun _ => hw'⟩) id
  | one i t ih =>
    intro fuel listed ph S φ H w fr a s hf he ht hph hcl hc hd h
    match fuel with
    | 0 => simp [Sch.depth] at hd
    | fuel + 1 =>
    simp only [chkS, Bool.and_eq_true, beq_iff_eq] at hc
    obtain ⟨⟨hr, hop⟩, hc⟩ := hc
    obtain ⟨o, ho⟩ := Option.isSome_iff_exists.1 hop
    simp only [runSB, opAt_get ho] at h
    have hmem : i ∈ Region.ready .any l.toArray listed := by rw [hr]; simp
    refine ⟨fun h0 => (by rw [hr] at h0; cases h0), fun k hk => ?_⟩
    rw [hr, List.mem_singleton] at hk
    subst hk
    have := step_leftB hT (Qr := fun e a w => match e with | .normal => Qr a w | _ => False) (Kr := fun a' w' => ((!tails.contains k) = true → BoxAg S0 φ0 H0 w0 w → BoxAg S0 φ0 H0 w0 w') ∧ wpAnyT E.P l.toArray (fun e a w => match e with | .normal => Qr a w | _ => False) (BoxAg S0 φ0 H0 w0) (fun i => !tails.contains i) fuel (listed.setIfInBounds k true) a' w') H0.length F ht.len s hf h.2 (fun a' w' hag hl => ?_)
    · unfold wpOp
      simp only [ho]
      exact this
    · obtain ⟨S', φ', fr', H', b1, b2, b3, b4, b5⟩ := hl
      refine ⟨fun h1 h2 => boxAg_step s hag (h.1 (by simpa using h1)) h2 he ht, ?_⟩
      exact ih fuel _ false S' φ' H' w' fr' a' b1 b2 (he.trans b3) (ht.trans b4) (by simp) (hcl.set hmem) hc (by simpa [Sch.depth] using hd) b5
  | two i t j u ih1 ih2 =>
    intro fuel listed ph S φ H w fr a s hf he ht hph hcl hc hd h
    match fuel with
    | 0 => simp [Sch.depth] at hd
    | fuel + 1 =>
    simp only [chkS, Bool.and_eq_true, beq_iff_eq] at hc
    obtain ⟨⟨⟨⟨hr, hop1⟩, hop2⟩, hc1⟩, hc2⟩ := hc
    obtain ⟨o1, ho1⟩ := Option.isSome_iff_exists.1 hop1
    obtain ⟨o2, ho2⟩ := Option.isSome_iff_exists.1 hop2
    simp only [runSB, opAt_get ho1, opAt_get ho2] at h
    have hd' : t.depth ≤ fuel ∧ u.depth ≤ fuel := by simp [Sch.depth] at hd; omega
    refine ⟨fun h0 => (by rw [hr] at h0; cases h0), fun k hk => ?_⟩
    have hmem := hk
    rw [hr, List.mem_cons, List.mem_singleton] at hk
    rcases hk with rfl | rfl
    · have := step_leftB hT (Qr := fun e a w => match e with | .normal => Qr a w | _ => False) (Kr := fun a' w' => ((!tails.contains k) = true → BoxAg S0 φ0 H0 w0 w → BoxAg S0 φ0 H0 w0 w') ∧ wpAnyT E.P l.toArray (fun e a w => match e with | .normal => Qr a w | _ => False) (BoxAg S0 φ0 H0 w0) (fun i => !tails.contains i) fuel (listed.setIfInBounds k true) a' w') H0.length F ht.len s hf h.1.2 (fun a' w' hag hl => ?_)
      · unfold wpOp
        simp only [ho1]
        exact this
      · obtain ⟨S', φ', fr', H', b1, b2, b3, b4, b5⟩ := hl
        refine ⟨fun h1 h2 => boxAg_step s hag (h.1.1 (by simpa using h1)) h2 he ht, ?_⟩
        exact ih1 fuel _ false S' φ' H' w' fr' a' b1 b2 (he.trans b3) (ht.trans b4) (by simp) (hcl.set hmem) hc1 hd'.1 b5
    · have := step_leftB hT (Qr := fun e a w => match e with | .normal => Qr a w | _ => False) (Kr := fun a' w' => ((!tails.contains k) = true → BoxAg S0 φ0 H0 w0 w → BoxAg S0 φ0 H0 w0 w') ∧ wpAnyT E.P l.toArray (fun e a w => match e with | .normal => Qr a w | _ => False) (BoxAg S0 φ0 H0 w0) (fun i => !tails.contains i) fuel (listed.setIfInBounds k true) a' w') H0.length F ht.len s hf h.2.2 (fun a' w' hag hl => ?_)
      · unfold wpOp
        simp only [ho2]
        exact this
      · obtain ⟨S', φ', fr', H', b1, b2, b3, b4, b5⟩ := hl
        refine ⟨fun h1 h2 => boxAg_step s hag (h.2.1 (by simpa using h1)) h2 he ht, ?_⟩
        exact ih2 fuel _ false S' φ' H' w' fr' a' b1 b2 (he.trans b3) (ht.trans b4) (by simp) (hcl.set hmem) hc2 hd'.2 b5
  | three i t j u m v ih1 ih2 ih3 =>
    intro fuel listed ph S φ H w fr a s hf he ht hph hcl hc hd h
    match fuel with
    | 0 => simp [Sch.depth] at hd
    | fuel + 1 =>
    simp only [chkS, Bool.and_eq_true, beq_iff_eq] at hc
    obtain ⟨⟨⟨⟨⟨⟨hr, hop1⟩, hop2⟩, hop3⟩, hc1⟩, hc2⟩, hc3⟩ := hc
    obtain ⟨o1, ho1⟩ := Option.isSome_iff_exists.1 hop1
    obtain ⟨o2, ho2⟩ := Option.isSome_iff_exists.1 hop2
    obtain ⟨o3, ho3⟩ := Option.isSome_iff_exists.1 hop3
    simp only [runSB, opAt_get ho1, opAt_get ho2, opAt_get ho3] at h
    have hd' : t.depth ≤ fuel ∧ u.depth ≤ fuel ∧ v.depth ≤ fuel := by simp [Sch.depth] at hd; omega
    refine ⟨fun h0 => (by rw [hr] at h0; cases h0), fun k hk => ?_⟩
    have hmem := hk
    rw [hr, List.mem_cons, List.mem_cons, List.mem_singleton] at hk
    rcases hk with rfl | rfl | rfl
    · have := step_leftB hT (Qr := fun e a w => match e with | .normal => Qr a w | _ => False) (Kr := fun a' w' => ((!tails.contains k) = true → BoxAg S0 φ0 H0 w0 w → BoxAg S0 φ0 H0 w0 w') ∧ wpAnyT E.P l.toArray (fun e a w => match e with | .normal => Qr a w | _ => False) (BoxAg S0 φ0 H0 w0) (fun i => !tails.contains i) fuel (listed.setIfInBounds k true) a' w') H0.length F ht.len s hf h.1.2 (fun a' w' hag hl => ?_)
      · unfold wpOp
        simp only [ho1]
        exact this
      · obtain ⟨S', φ', fr', H', b1, b2, b3, b4, b5⟩ := hl
        refine ⟨fun h1 h2 => boxAg_step s hag (h.1.1 (by simpa using h1)) h2 he ht, ?_⟩
        exact ih1 fuel _ false S' φ' H' w' fr' a' b1 b2 (he.trans b3) (ht.trans b4) (by simp) (hcl.set hmem) hc1 hd'.1 b5
    · have := step_leftB hT (Qr := fun e a w => match e with | .normal => Qr a w | _ => False) (Kr := fun a' w' => ((!tails.contains k) = true → BoxAg S0 φ0 H0 w0 w → BoxAg S0 φ0 H0 w0 w') ∧ wpAnyT E.P l.toArray (fun e a w => match e with | .normal => Qr a w | _ => False) (BoxAg S0 φ0 H0 w0) (fun i => !tails.contains i) fuel (listed.setIfInBounds k true) a' w') H0.length F ht.len s hf h.2.1.2 (fun a' w' hag hl => ?_)
      · unfold wpOp
        simp only [ho2]
        exact this
      · obtain ⟨S', φ', fr', H', b1, b2, b3, b4, b5⟩ := hl
        refine ⟨fun h1 h2 => boxAg_step s hag (h.2.1.1 (by simpa using h1)) h2 he ht, ?_⟩
        exact ih2 fuel _ false S' φ' H' w' fr' a' b1 b2 (he.trans b3) (ht.trans b4) (by simp) (hcl.set hmem) hc2 hd'.2.1 b5
    · have := step_leftB hT (Qr := fun e a w => match e with | .normal => Qr a w | _ => False) (Kr := fun a' w' => ((!tails.contains k) = true → BoxAg S0 φ0 H0 w0 w → BoxAg S0 φ0 H0 w0 w') ∧ wpAnyT E.P l.toArray (fun e a w => match e with | .normal => Qr a w | _ => False) (BoxAg S0 φ0 H0 w0) (fun i => !tails.contains i) fuel (listed.setIfInBounds k true) a' w') H0.length F ht.len s hf h.2.2.2 (fun a' w' hag hl => ?_)
      · unfold wpOp
        simp only [ho3]
        exact this
      · obtain ⟨S', φ', fr', H', b1, b2, b3, b4, b5⟩ := hl
        refine ⟨fun h1 h2 => boxAg_step s hag (h.2.2.1 (by simpa using h1)) h2 he ht, ?_⟩
        exact ih3 fuel _ false S' φ' H' w' fr' a' b1 b2 (he.trans b3) (ht.trans b4) (by simp) (hcl.set hmem) hc3 hd'.2.2 b5
  | four i t j u m v q y ih1 ih2 ih3 ih4 =>
    intro fuel listed ph S φ H w fr a s hf he ht hph hcl hc hd h
    match fuel with
    | 0 => simp [Sch.depth] at hd
    | fuel + 1 =>
    simp only [chkS, Bool.and_eq_true, beq_iff_eq] at hc
    obtain ⟨⟨⟨⟨⟨⟨⟨⟨hr, hop1⟩, hop2⟩, hop3⟩, hop4⟩, hc1⟩, hc2⟩, hc3⟩, hc4⟩ := hc
    obtain ⟨o1, ho1⟩ := Option.isSome_iff_exists.1 hop1
    obtain ⟨o2, ho2⟩ := Option.isSome_iff_exists.1 hop2
    obtain ⟨o3, ho3⟩ := Option.isSome_iff_exists.1 hop3
    obtain ⟨o4, ho4⟩ := Option.isSome_iff_exists.1 hop4
    simp only [runSB, opAt_get ho1, opAt_get ho2, opAt_get ho3, opAt_get ho4] at h
    have hd' : t.depth ≤ fuel ∧ u.depth ≤ fuel ∧ v.depth ≤ fuel ∧ y.depth ≤ fuel := by simp [Sch.depth] at hd; omega
    refine ⟨fun h0 => (by rw [hr] at h0; cases h0), fun k hk => ?_⟩
    have hmem := hk
    rw [hr, List.mem_cons, List.mem_cons, List.mem_cons, List.mem_singleton] at hk
    rcases hk with rfl | rfl | rfl | rfl
    · have := step_leftB hT (Qr := fun e a w => match e with | .normal => Qr a w | _ => False) (Kr := fun a' w' => ((!tails.contains k) = true → BoxAg S0 φ0 H0 w0 w → BoxAg S0 φ0 H0 w0 w') ∧ wpAnyT E.P l.toArray (fun e a w => match e with | .normal => Qr a w | _ => False) (BoxAg S0 φ0 H0 w0) (fun i => !tails.contains i) fuel (listed.setIfInBounds k true) a' w') H0.length F ht.len s hf h.1.2 (fun a' w' hag hl => ?_)
      · unfold wpOp
        simp only [ho1]
        exact this
      · obtain ⟨S', φ', fr', H', b1, b2, b3, b4, b5⟩ := hl
        refine ⟨fun h1 h2 => boxAg_step s hag (h.1.1 (by simpa using h1)) h2 he ht, ?_⟩
        exact ih1 fuel _ false S' φ' H' w' fr' a' b1 b2 (he.trans b3) (ht.trans b4) (by simp) (hcl.set hmem) hc1 hd'.1 b5
    · have := step_leftB hT (Qr := fun e a w => match e with | .normal => Qr a w | _ => False) (Kr := fun a' w' => ((!tails.contains k) = true → BoxAg S0 φ0 H0 w0 w → BoxAg S0 φ0 H0 w0 w') ∧ wpAnyT E.P l.toArray (fun e a w => match e with | .normal => Qr a w | _ => False) (BoxAg S0 φ0 H0 w0) (fun i => !tails.contains i) fuel (listed.setIfInBounds k true) a' w') H0.length F ht.len s hf h.2.1.2 (fun a' w' hag hl => ?_)
      · unfold wpOp
        simp only [ho2]
        exact this
      · obtain ⟨S', φ', fr', H', b1, b2, b3, b4, b5⟩ := hl
        refine ⟨fun h1 h2 => boxAg_step s hag (h.2.1.1 (by simpa using h1)) h2 he ht, ?_⟩
        exact ih2 fuel _ false S' φ' H' w' fr' a' b1 b2 (he.trans b3) (ht.trans b4) (by simp) (hcl.set hmem) hc2 hd'.2.1 b5
    · have := step_leftB hT (Qr := fun e a w => match e with | .normal => Qr a w | _ => False) (Kr := fun a' w' => ((!tails.contains k) = true → BoxAg S0 φ0 H0 w0 w → BoxAg S0 φ0 H0 w0 w') ∧ wpAnyT E.P l.toArray (fun e a w => match e with | .normal => Qr a w | _ => False) (BoxAg S0 φ0 H0 w0) (fun i => !tails.contains i) fuel (listed.setIfInBounds k true) a' w') H0.length F ht.len s hf h.2.2.1.2 (fun a' w' hag hl => ?_)
      · unfold wpOp
        simp only [ho3]
        exact this
      · obtain ⟨S', φ', fr', H', b1, b2, b3, b4, b5⟩ := hl
        refine ⟨fun h1 h2 => boxAg_step s hag (h.2.2.1.1 (by simpa using h1)) h2 he ht, ?_⟩
        exact ih3 fuel _ false S' φ' H' w' fr' a' b1 b2 (he.trans b3) (ht.trans b4) (by simp) (hcl.set hmem) hc3 hd'.2.2.1 b5
    · have := step_leftB hT (Qr := fun e a w => match e with | .normal => Qr a w | _ => False) (Kr := fun a' w' => ((!tails.contains k) = true → BoxAg S0 φ0 H0 w0 w → BoxAg S0 φ0 H0 w0 w') ∧ wpAnyT E.P l.toArray (fun e a w => match e with | .normal => Qr a w | _ => False) (BoxAg S0 φ0 H0 w0) (fun i => !tails.contains i) fuel (listed.setIfInBounds k true) a' w') H0.length F ht.len s hf h.2.2.2.2 (fun a' w' hag hl => ?_)
      · unfold wpOp
        simp only [ho4]
        exact this
      · obtain ⟨S', φ', fr', H', b1, b2, b3, b4, b5⟩ := hl
        refine ⟨fun h1 h2 => boxAg_step s hag (h.2.2.2.1 (by simpa using h1)) h2 he ht, ?_⟩
        exact ih4 fuel _ false S' φ' H' w' fr' a' b1 b2 (he.trans b3) (ht.trans b4) (by simp) (hcl.set hmem) hc4 hd'.2.2.2 b5

theorem drawn_ofB (hT : TOK E.P E.T) (hm : E.P.follows .mixedOrders = true) (F F2 : Nat) {id : Nat} {l : List Oper} {ks : List Item} {Q : Post} (tails : List Nat) (t : Sch) (hc : chkT l.toArray tails t = true)
    (h : runSB E F l tails H (endK E F2 ks Q) t fr H) : iwp E.P E.n (.region id l.toArray true) (contQ E ks Q) fr H := by
  intro S φ a w Qr hn s hf hq
  simp only [chkT, Bool.and_eq_true, decide_eq_true_eq] at hc
  obtain ⟨⟨h1, h2⟩, h3⟩ := hc
  obtain ⟨s1, s2, s3⟩ := grow_ext s (Grow.draw w) S (fun b h => h) (fun b h => .inl h) (fun b h => s.slt b h)
  have main := runSB_sound (E := E) hT (F := F) (l := l) (tails := tails) (K := endK E F2 ks Q) (Qr := fun a' w' => Qr .normal a' w') (w0 := { w with drawn := w.drawn + 1 }) (S0 := S) (φ0 := φ) (H0 := H) h1
    (fun a' w' hl => by
      obtain ⟨S', φ', fr', H', b1, b2, b3, b4, b5⟩ := hl
      exact hq _ a' w' S' φ' fr' H' b1 b2 (s3.trans b3) ((s2.trans b4).weaken hn) (run_cont hT F2 b5))
    t l.toArray.size (Array.replicate l.toArray.size false) true S φ H _ fr a s1 (hf.tr s2) (Ext.refl ..) (Tr.refl (Nat.le_refl _)) (fun _ => ⟨rfl, rfl, rfl, rfl⟩) (fun j o ho hj => ?_) h2 h3 h
  · refine wp_mono (wp_region_any hm (wpAny_of_T _ _ _ _ main)) ?_
    intro e a' w' he
    cases e with
    | normal => exact he
    | _ => exact he.elim
  · have hlt : j < l.toArray.size := (Array.getElem?_eq_some_iff.1 ho).1
    simp only [Array.getD_eq_getD_getElem?, Array.getElem?_replicate] at hj
    split at hj <;> simp at hj
end modeB

section rules
variable {F : Nat} {l : List Oper} {tails : List Nat} {H0 : List R} {K : Fr → List R → Prop} {i j k m : Nat} {t u v y : Sch}
@[go_sem] theorem runSB_done : runSB E F l tails H0 K .done fr H = K fr H := rfl
@[go_sem] theorem runSB_fst : runSB E F l tails H0 K (.fst i t) fr H = (ptrLd fr (opAt l i) ∧ ops' E F l [opAt l i] [] (nQ (runSB E F l tails H0 K t)) fr H) := rfl
@[go_sem] theorem runSB_one : runSB E F l tails H0 K (.one i t) fr H = ((tails.contains i = false → keepB E H0 fr H (opAt l i)) ∧ ops' E F l [opAt l i] [] (nQ (runSB E F l tails H0 K t)) fr H) := rfl
@[go_sem] theorem runSB_two : runSB E F l tails H0 K (.two i t j u) fr H = (((tails.contains i = false → keepB E H0 fr H (opAt l i)) ∧ ops' E F l [opAt l i] [] (nQ (runSB E F l tails H0 K t)) fr H) ∧
      ((tails.contains j = false → keepB E H0 fr H (opAt l j)) ∧ ops' E F l [opAt l j] [] (nQ (runSB E F l tails H0 K u)) fr H)) := rfl
@[go_sem] theorem runSB_three : runSB E F l tails H0 K (.three i t j u k v) fr H = (((tails.contains i = false → keepB E H0 fr H (opAt l i)) ∧ ops' E F l [opAt l i] [] (nQ (runSB E F l tails H0 K t)) fr H) ∧
      ((tails.contains j = false → keepB E H0 fr H (opAt l j)) ∧ ops' E F l [opAt l j] [] (nQ (runSB E F l tails H0 K u)) fr H) ∧
      ((tails.contains k = false → keepB E H0 fr H (opAt l k)) ∧ ops' E F l [opAt l k] [] (nQ (runSB E F l tails H0 K v)) fr H)) := rfl
@[go_sem] theorem boxesIn_nil : boxesIn [] H = True := rfl
@[go_sem] theorem boxesIn_box {cs cs' : List I} {r q : List R} : boxesIn (.box cs :: r) (.box cs' :: q) = boxesIn r q := rfl
@[go_sem] theorem boxesIn_row {g k' : Nat} {dp : DP} {x : List D} {r q : List R} {z : R} : boxesIn (.row g k' dp x :: r) (z :: q) = boxesIn r q := by cases z <;> rfl
@[go_sem] theorem boxesIn_dead {g : Nat} {r q : List R} {z : R} : boxesIn (.dead g :: r) (z :: q) = boxesIn r q := by cases z <;> rfl
variable {dst : Option Tmp} {ty : TypeId} {pos : String} {af : Array Edge} {gd : Option (Nat × Bool)}
def orP (b : Bool) (p : Prop) : Prop := match b with | true => True | false => p
@[go_sem] theorem orP_t {p : Prop} : orP true p = True := rfl
@[go_sem] theorem orP_f {p : Prop} : orP false p = p := rfl
@[go_sem] theorem keepB_eq {op : Op} : keepB E H0 fr H ⟨dst, op, ty, pos, af, gd⟩ = (boxesIn H0 H ∧ orP (isApp op) (keepO E fr ⟨dst, op, ty, pos, af, gd⟩)) := by
  unfold keepB orP
  cases isApp op <;> simp
@[go_sem] theorem isApp_append {x : Array Operand} {ts : Array TypeId} : isApp (.call ⟨.builtin .append, x, ts⟩) = true := rfl
@[go_sem] theorem isApp_value {g : Operand} {x : Array Operand} {ts : Array TypeId} : isApp (.call ⟨.value g, x, ts⟩) = false := rfl
@[go_sem] theorem isApp_buildSlice {t' n : Nat} {p : Array (Nat × Operand)} : isApp (.buildSlice t' n p) = false := rfl
@[go_sem] theorem isApp_makeSlice {t' : Nat} {x y : Operand} : isApp (.makeSlice t' x y) = false := rfl
@[go_sem] theorem isApp_alloc {t' : Nat} : isApp (.alloc t') = false := rfl
@[go_sem] theorem isApp_load {t' : Nat} {x : Operand} : isApp (.load t' x) = false := rfl
@[go_sem] theorem isApp_store {t' : Nat} {x y : Operand} : isApp (.store t' x y) = false := rfl
@[go_sem] theorem ptrLd_load {t' : Nat} {x : Operand} : ptrLd fr ⟨dst, .load t' x, ty, pos, af, gd⟩ = isPD (evx fr x) := by
  show ((∃ d, evx fr x = .d d) ∨ ∃ i o, evx fr x = .ptr i o) = isPD (evx fr x)
  generalize evx fr x = y
  cases y <;> simp [isPD]
@[go_sem] theorem isPD_d {x : D} : isPD (.d x) = True := rfl
@[go_sem] theorem isPD_ptr {a b : Nat} : isPD (.ptr a b) = True := rfl
@[go_sem] theorem ptrLd_move {x : Operand} : ptrLd fr ⟨dst, .move x, ty, pos, af, gd⟩ = True := by simp [ptrLd, readsO]
@[go_sem] theorem ptrLd_assign {x : Operand} : ptrLd fr ⟨dst, .assign x, ty, pos, af, gd⟩ = True := by simp [ptrLd, readsO]
@[go_sem] theorem ptrLd_build {t' : Nat} {p : Array (Nat × Operand)} : ptrLd fr ⟨dst, .build t' p, ty, pos, af, gd⟩ = True := by simp [ptrLd, readsO]
@[go_sem] theorem ptrLd_fieldAddr {t' : Nat} {x : Operand} {i : Nat} : ptrLd fr ⟨dst, .fieldAddr t' x i, ty, pos, af, gd⟩ = True := by simp [ptrLd, readsO]
@[go_sem] theorem ptrLd_field {t' : Nat} {x : Operand} {i : Nat} : ptrLd fr ⟨dst, .field t' x i, ty, pos, af, gd⟩ = True := by simp [ptrLd, readsO]
@[go_sem] theorem ptrLd_indexAddr {t' : Nat} {x y : Operand} : ptrLd fr ⟨dst, .indexAddr t' x y, ty, pos, af, gd⟩ = True := by simp [ptrLd, readsO]
@[go_sem] theorem ptrLd_binOp {op : BinOp} {t' yt : TypeId} {x y : Operand} : ptrLd fr ⟨dst, .binOp op t' x y yt, ty, pos, af, gd⟩ = True := by simp [ptrLd, readsO]
@[go_sem] theorem ptrLd_unOp {op : UnOp} {t' : TypeId} {x : Operand} : ptrLd fr ⟨dst, .unOp op t' x, ty, pos, af, gd⟩ = True := by simp [ptrLd, readsO]
@[go_sem] theorem ptrLd_nilCheck {x : Operand} : ptrLd fr ⟨dst, .nilCheck x, ty, pos, af, gd⟩ = True := by simp [ptrLd, readsO]
@[go_sem] theorem ptrLd_len {x : Array Operand} {ts : Array TypeId} : ptrLd fr ⟨dst, .call ⟨.builtin .len, x, ts⟩, ty, pos, af, gd⟩ = True := by simp [ptrLd, readsO]
end rules

end Go.VL

/- Part 41: a row that owned what its cells hold goes on as a row of frozen data. Conditions: none; lemmas. -/
namespace Go.VL

variable {E : Env} {P : Program} {Q : Post} {S : Nat → Prop} {φ : List (List Nat)} {fr : Fr} {H : List R} {w : World} {n : Nat}

theorem soft_ghost {i g k : Nat} {dp : DP} {l : List D} (hi : H[i]? = some (.row g k dp l)) (hd : dp.shut = true) :
    Ghost n fr H fr (H.set i (.row g k .fz l)) := by
  intro S φ w a hn s hf
  have hlt : i < H.length := (List.getElem?_eq_some_iff.1 hi).1
  have hiφ : i < φ.length := by rw [s.len]; exact hlt
  have hne : ∀ j, j ≠ i → (φ.set i ((φ.getD i []).take 1)).getD j [] = φ.getD j [] := fun j h => by simp [List.getD, List.getElem?_set, Ne.symm h]
  have heq : (φ.set i ((φ.getD i []).take 1)).getD i [] = (φ.getD i []).take 1 := by simp [List.getD, hiφ]
  have hsubm : ∀ j b, b ∈ (φ.set i ((φ.getD i []).take 1)).getD j [] → b ∈ φ.getD j [] := by
    intro j b hb
    by_cases h : j = i
    · subst h; rw [heq] at hb; exact List.mem_of_mem_take hb
    · rwa [hne j h] at hb
  have hfoot : ∀ b, Foot (φ.set i ((φ.getD i []).take 1)) b → Foot φ b := fun b ⟨j, hj⟩ => ⟨j, hsubm j b hj⟩
  have hsome : ∀ j r, (H.set i (.row g k .fz l))[j]? = some r → (j = i ∧ r = .row g k .fz l) ∨ (j ≠ i ∧ H[j]? = some r) := by
    intro j r hr
    rw [List.getElem?_set] at hr
    split at hr
    · rename_i h
      simp at hr
      exact .inl ⟨h.symm, hr.symm⟩
    · rename_i h
      exact .inr ⟨fun h2 => h h2.symm, hr⟩
  have htail : ∀ b, b ∈ (φ.getD i []).tail → b ∈ φ.getD i [] := fun b hb => List.mem_of_mem_tail hb
  have htr : Tr H.length S φ H w (fun b => S b ∨ b ∈ (φ.getD i []).tail) (φ.set i ((φ.getD i []).take 1)) (H.set i (.row g k .fz l)) w := by
    refine ⟨fun _ h => .inl h, fun _ _ => rfl, Nat.le_refl _, by simp, ?_, ?_, ?_, ?_, ?_⟩
    · intro j hj
      by_cases h : j = i
      · subst h
        have e1 : H.getD j (.dead 0) = .row g k dp l := by simp only [List.getD, hi, Option.getD_some]
        have e2 : (H.set j (.row g k .fz l)).getD j (.dead 0) = .row g k .fz l := by simp [List.getD, hlt]
        rw [e1, e2]
        exact Nat.le_refl _
      · have e1 : (H.set i (.row g k .fz l)).getD j (.dead 0) = H.getD j (.dead 0) := by simp [List.getD, List.getElem?_set, Ne.symm h]
        rw [e1]
        exact Nat.le_refl _
    · intro j g2 k2 dp' l' hj hl'
      rcases hsome j _ hl' with ⟨rfl, h⟩ | ⟨h, h2⟩
      · cases h
        refine .inr ⟨dp, l, hi, ?_, Nat.le_refl _, fun b rest arr ty e1 e2 => ⟨arr, ty, e2, Nat.le_refl _⟩⟩
        rw [heq]
        cases φ.getD j [] <;> rfl
      · exact .inr ⟨dp', l', h2, by rw [hne j h], Nat.le_refl _, fun b rest arr ty e1 e2 => ⟨arr, ty, e2, Nat.le_refl _⟩⟩
    · intro j cs hj hl'
      rcases hsome j _ hl' with ⟨_, h⟩ | ⟨h, h2⟩
      · cases h
      · exact ⟨cs, h2, hne j h⟩
    · intro j cs hj hl'
      rcases hsome j _ hl' with ⟨_, h⟩ | ⟨h, h2⟩
      · cases h
      · exact ⟨cs, h2, hne j h⟩
    · intro j x hj hl'
      rcases hsome j _ hl' with ⟨_, h⟩ | ⟨h, h2⟩
      · cases h
      · exact ⟨h2, hne j h, fun _ _ => rfl⟩
  have hsim : Sim (fun b => S b ∨ b ∈ (φ.getD i []).tail) (φ.set i ((φ.getD i []).take 1)) (H.set i (.row g k .fz l)) w := by
    refine ⟨by simp [s.len], ?_, fun j m b hb hb' => s.dj j m b (hsubm j b hb) (hsubm m b hb'), fun b hb => s.lt b (hfoot b hb), ?_, ?_, ?_⟩
    · intro j
      by_cases h : j = i
      · subst h; rw [heq]; exact (List.take_sublist _ _).nodup (s.nd j)
      · rw [hne j h]; exact s.nd j
    · rintro b ⟨j, hj⟩ (h | h)
      · exact s.off b ⟨j, hsubm j b hj⟩ h
      · have hji := s.dj j i b (hsubm j b hj) (htail b h)
        subst hji
        rw [heq] at hj
        have hnd := s.nd j
        cases hc : φ.getD j [] with
        | nil => rw [hc] at h; simp at h
        | cons x r =>
          rw [hc] at hj h hnd
          simp at hj h
          subst hj
          exact (List.nodup_cons.1 hnd).1 h
    · rintro b (h | h)
      · exact s.slt b h
      · exact s.lt b ⟨i, htail b h⟩
    · intro j r hr
      rcases hsome j r hr with ⟨rfl, rfl⟩ | ⟨h, h2⟩
      · rw [heq]
        obtain ⟨hk, he, ho, hlim, hr⟩ := s.rel j _ hi
        refine ⟨hk, he, ho, hlim, ?_⟩
        rcases hr with ⟨e, e2⟩ | ⟨b, rest, arr, ty, e, hb, hsz, hrr⟩
        · exact .inl ⟨by rw [e]; rfl, e2⟩
        · refine .inr ⟨b, [], arr, ty, by rw [e]; rfl, hb, hsz, rfl, fun j' hj' => ?_⟩
          match dp, hd with
          | .fz, _ => exact (hrr.2 j' hj').mono (fun b hb => .inl hb) (fun _ _ => rfl)
          | .own [], _ =>
            obtain ⟨F, hF0, _, hF⟩ := hrr
            exact OW.fz (hF j' hj') fun b2 hb2 => .inr (by rw [e]; show b2 ∈ rest; rw [hF0]; exact mem_flatMap_range hj' hb2)
          | .own (_ :: _), hd => simp [DP.shut] at hd
      · rw [hne j h]
        exact (s.rel j r h2).tr htr fun _ _ => rfl
  exact ⟨_, _, hsim, hf.tr htr, ⟨rfl, rfl, rfl, Nat.le_refl _, fun _ _ _ => rfl, fun b hb => .inl (hfoot b hb), fun _ h => .inl h, fun b h => h.elim .inl fun h => .inr (.inl ⟨i, htail b h⟩)⟩, htr.weaken hn⟩

/-- The row with number i holds frozen data from here on. -/
theorem iwp_soft {c : Code} (i : Nat) {g k : Nat} {dp : DP} {l : List D} (hi : H[i]? = some (.row g k dp l)) (hd : dp.shut = true := by rfl) (h : iwp P n c Q fr (H.set i (.row g k .fz l))) : iwp P n c Q fr H := iwp_ghost (soft_ghost hi hd) h

/-! ### Closing at the end of a region -/
def endS (E : Env) (F2 : Nat) (ks : List Item) (Q : Post) (fr : Fr) (H : List R) : Prop := shutP H (fun H' => exec E F2 ks Q fr H')
@[go_sem] theorem endS_eq {F2 : Nat} {ks : List Item} {Q : Post} : endS E F2 ks Q fr H = shutP H (fun H' => exec E F2 ks Q fr H') := rfl
theorem cont_ghost {c0 : Code} {ks : List Item} {fr' : Fr} {H' : List R} (g : Ghost E.n fr H fr' H') (h : contQ E (.code c0 :: ks) Q .normal fr' H') : contQ E (.code c0 :: ks) Q .normal fr H :=
  iwp_ghost g h
theorem endS_cont (hT : TOK E.P E.T) {F2 : Nat} {c0 : Code} {ks : List Item} (h : endS E F2 (.code c0 :: ks) Q fr H) : contQ E (.code c0 :: ks) Q .normal fr H :=
  cont_ghost (shut_ghost h.1) (run_cont hT F2 h.2)
theorem drawn_ofS (hT : TOK E.P E.T) (hm : E.P.follows .mixedOrders = true) (F F2 : Nat) {id : Nat} {l : List Oper} {c0 : Code} {ks : List Item} {Q : Post} (tails : List Nat) (t : Sch) (hc : chkT l.toArray tails t = true)
    (h : runS E F l tails (endS E F2 (.code c0 :: ks) Q) t fr H) : iwp E.P E.n (.region id l.toArray true) (contQ E (.code c0 :: ks) Q) fr H := by
  intro S φ a w Qr hn s hf hq
  simp only [chkT, Bool.and_eq_true, decide_eq_true_eq] at hc
  obtain ⟨⟨h1, h2⟩, h3⟩ := hc
  obtain ⟨s1, s2, s3⟩ := grow_ext s (Grow.draw w) S (fun b h => h) (fun b h => .inl h) (fun b h => s.slt b h)
  have main := runS_sound (E := E) hT (F := F) (l := l) (tails := tails) (K := endS E F2 (.code c0 :: ks) Q) (Qr := fun a' w' => Qr .normal a' w') (w0 := { w with drawn := w.drawn + 1 }) (S0 := S) (φ0 := φ) (H0 := H) h1
    (fun a' w' hl => by
      obtain ⟨S', φ', fr', H', b1, b2, b3, b4, b5⟩ := hl
      exact hq _ a' w' S' φ' fr' H' b1 b2 (s3.trans b3) ((s2.weaken hn).trans b4) (endS_cont hT b5))
    t l.toArray.size (Array.replicate l.toArray.size false) true S φ H _ fr a s1 (hf.tr s2) (Ext.refl ..) (Tr.refl hn) (fun _ => rfl) (fun j o ho hj => ?_) h2 h3 h
  · refine wp_mono (wp_region_any hm (wpAny_of_T _ _ _ _ main)) ?_
    intro e a' w' he
    cases e with
    | normal => exact he
    | _ => exact he.elim
  · have hlt : j < l.toArray.size := (Array.getElem?_eq_some_iff.1 ho).1
    simp only [Array.getD_eq_getD_getElem?, Array.getElem?_replicate] at hj
    split at hj <;> simp at hj
theorem drawn_ofBS (hT : TOK E.P E.T) (hm : E.P.follows .mixedOrders = true) (F F2 : Nat) {id : Nat} {l : List Oper} {c0 : Code} {ks : List Item} {Q : Post} (tails : List Nat) (t : Sch) (hc : chkT l.toArray tails t = true)
    (h : runSB E F l tails H (endS E F2 (.code c0 :: ks) Q) t fr H) : iwp E.P E.n (.region id l.toArray true) (contQ E (.code c0 :: ks) Q) fr H := by
  intro S φ a w Qr hn s hf hq
  simp only [chkT, Bool.and_eq_true, decide_eq_true_eq] at hc
  obtain ⟨⟨h1, h2⟩, h3⟩ := hc
  obtain ⟨s1, s2, s3⟩ := grow_ext s (Grow.draw w) S (fun b h => h) (fun b h => .inl h) (fun b h => s.slt b h)
  have main := runSB_sound (E := E) hT (F := F) (l := l) (tails := tails) (K := endS E F2 (.code c0 :: ks) Q) (Qr := fun a' w' => Qr .normal a' w') (w0 := { w with drawn := w.drawn + 1 }) (S0 := S) (φ0 := φ) (H0 := H) h1
    (fun a' w' hl => by
      obtain ⟨S', φ', fr', H', b1, b2, b3, b4, b5⟩ := hl
      exact hq _ a' w' S' φ' fr' H' b1 b2 (s3.trans b3) ((s2.trans b4).weaken hn) (endS_cont hT b5))
    t l.toArray.size (Array.replicate l.toArray.size false) true S φ H _ fr a s1 (hf.tr s2) (Ext.refl ..) (Tr.refl (Nat.le_refl _)) (fun _ => ⟨rfl, rfl, rfl, rfl⟩) (fun j o ho hj => ?_) h2 h3 h
  · refine wp_mono (wp_region_any hm (wpAny_of_T _ _ _ _ main)) ?_
    intro e a' w' he
    cases e with
    | normal => exact he
    | _ => exact he.elim
  · have hlt : j < l.toArray.size := (Array.getElem?_eq_some_iff.1 ho).1
    simp only [Array.getD_eq_getD_getElem?, Array.getElem?_replicate] at hj
    split at hj <;> simp at hj

/-! ### Contracts at whose end slices in owned rows are taken in -/
theorem pure_introS {T : Nat → Option TI} (hT : TOK P T) {f : Nat} {fn : Func} {c : Code} {ds : List D} {x : D} (hf : P.funcs[f]? = some fn) (hb : fn.body = some c) (hnm : (fn.name == "runtime.NumGoroutine") = false) (hn : ds.length ≤ fn.ntmps)
    (h : iwp P 0 c (endsWith T fn (fun fr r H' => shutP H' (fun H'' => pkR x (pk H'' 3 r)))) ⟨fn.ntmps, initM 0 (ds.map .d)⟩ []) : Pure P f ds x := by
  refine ⟨ent_of hf hb hnm, fun S vs w Rr hS ha hr => calls_of_wp hf hb ?_⟩
  have s := sim_nil hS
  refine h S [] _ w _ (Nat.le_refl _) s (enter_frame (by simpa using ha.1) (fun j hj => ?_) (by simpa using hn)) ?_
  · simp only [List.length_map] at hj
    have e : (ds.map I.d).getD j .junk = .d (ds.getD j .nil) := by simp [List.getD, hj]
    rw [e]
    exact .d (ha.2 j hj)
  intro e a' w' S' φ' fr' H' s' hf' he ht hq
  have fin : ∀ vc r, resI T H' fr' fn.results.toList = some (vc, r) → vc ∧ shutP H' (fun H'' => pkR x (pk H'' 3 r)) → a'.defers = [] ∧ ∃ v, (results fn a'.tmps).run P w' = .ok v w' ∧ Rr (.returned v) w' := by
    rintro vc0 r hres ⟨hvc0, hsv, hp⟩
    obtain ⟨v, hrun, hv⟩ := resI_sound hT s' hf' hres hvc0
    obtain ⟨φ2, s2, t2, e2⟩ := shut_sound s' hsv
    have hv2 := hv.tr t2
    have he2 := he.trans e2
    refine ⟨hf'.defers, v, hrun, ?_⟩
    unfold pkR at hp
    split at hp
    · rename_i vc x' ids hpk
      obtain ⟨hvc, hnd, hw⟩ := hp
      have how := ow_wk hw (pk_sound s2 3 hv2 hpk hvc)
      refine hr v w' _ how (fps_nodup s2 hnd) ?_ (grow_of_ext he2)
      intro b hb
      obtain ⟨i, _, hb⟩ := List.mem_flatMap.1 hb
      rcases he2.fp b ⟨i, hb⟩ with ⟨j, hj⟩ | h
      · simp [List.getD] at hj
      · exact h
    · exact hp.elim
  cases e <;> simp only [endsWith] at hq
  · split at hq
    · exact fin _ _ (by assumption) hq
    · exact hq.elim
  all_goals first
    | exact hq.elim
    | (split at hq
       · exact fin _ _ (by assumption) hq
       · exact hq.elim)
theorem pureS_of' {E : Env} (hT : TOK E.P E.T) (hn : E.n = 0) {f : Nat} {fn : Func} {c : Code} {nt : Nat} {ds : List D} {x : D} (fuel : Nat) (hf : E.P.funcs[f]? = some fn) (hb : fn.body = some c) (hnm : (fn.name == "runtime.NumGoroutine") = false) (hnt : fn.ntmps = nt) (hl : ds.length ≤ nt)
    (h : okL ds → execC E fuel c [] (endsWith E.T fn (fun fr r H' => shutP H' (fun H'' => pkR x (pk H'' 3 r)))) ⟨nt, initM 0 (ds.map .d)⟩ []) : Pure E.P f ds x := by
  subst hnt
  refine pure_ok (ent_of hf hb hnm) fun ho => pure_introS hT hf hb hnm hl ?_
  have := run_code hT fuel (h ho)
  rw [hn] at this
  exact this

/-! ### Closing at a call -/
theorem unp_shut (x : D) (H : List R) (hvc : (shut H).1) : Unp x H (unpI x (shut H).2.length).1 ((shut H).2 ++ (unpI x (shut H).2.length).2) := by
  intro S φ w w' v fp s how hnd hfp hg
  obtain ⟨φ2, s2, t2, e2⟩ := shut_sound s hvc
  obtain ⟨S', φ', s3, t3, e3, hv⟩ := unp_of x (shut H).2 S φ2 w w' v fp s2 how hnd hfp hg
  exact ⟨S', φ', s3, t2.trans (t3.weaken t2.len), e2.trans e3, hv⟩
/-- A call whose result is taken as roots of one's own; slices in owned rows are taken in. -/
theorem pcall_ownS {f : Nat} {ds : List D} {k : I → List R → Prop} {x : D} (h : Pure E.P f ds x) (hk : shutP H (fun H' => k (unpI x H'.length).1 (H' ++ (unpI x H'.length).2))) : pcall E f ds H k :=
  ⟨_, h.toE, fun y hy => by rw [hy]; exact .inr ⟨_, _, unp_shut x H hk.1, hk.2⟩⟩

/-! ### Loops whose ends may begin with ghost steps -/
def outQ (E : Env) (ks : List Item) (Q : Post) (id : Nat) (fr : Fr) (H : List R) : Prop := contQ E ks Q (.exit id) fr H
theorem out_run (hT : TOK E.P E.T) (F2 : Nat) {id : Nat} {ks ks' : List Item} (hk : exK id ks = some ks') (h : exec E F2 ks' Q fr H) : outQ E ks Q id fr H := run_exit hT F2 hk h
theorem out_ghost {id : Nat} {c0 : Code} {ks ks' : List Item} {fr' : Fr} {H' : List R} (hk : exK id ks = some (.code c0 :: ks')) (g : Ghost E.n fr H fr' H') (h : outQ E ks Q id fr' H') : outQ E ks Q id fr H := by
  have key : ∀ (ks : List Item), exK id ks = some (.code c0 :: ks') → ∀ fr H, contQ E ks Q (.exit id) fr H ↔ contQ E (.code c0 :: ks') Q .normal fr H := by
    intro ks
    induction ks with
    | nil => intro h; simp [exK] at h
    | cons x r ih =>
      intro h fr H
      cases x with
      | code c => exact ih (by simpa only [exK] using h) fr H
      | blk id' =>
        simp only [exK] at h
        by_cases hid : id = id'
        · rw [if_pos hid] at h
          cases h
          simp only [contQ, inBlockQ, if_pos hid]
        · rw [if_neg hid] at h
          have := ih h fr H
          simpa only [contQ, inBlockQ, if_neg hid] using this
  exact (key ks hk fr H).2 (cont_ghost g ((key ks hk fr' H').1 h))
def loopQ6 (E : Env) (ks : List Item) (Q : Post) {σ : Type} (nt : Nat) (F : σ → List (Nat × I)) (Hp : σ → List R) (inv : σ → Prop) (mu : σ → Nat) (s : σ) : Post
  | .normal, fr, H => shutP H (fun H' => ∃ s', inv s' ∧ mu s' < mu s ∧ fit2 E.n nt fr H' (F s') (Hp s'))
  | .exit id, fr, H => outQ E ks Q id fr H
  | e, fr, H => contQ E ks Q e fr H
theorem loop_of6 (hT : TOK E.P E.T) {σ : Type} (F : σ → List (Nat × I)) (Hp : σ → List R) (inv : σ → Prop) (mu : σ → Nat) (ob : List (Nat × Nat × Nat × Bool)) (own : List (Nat × Nat × Bool)) (f1 : Nat) {ks : List Item} {c : Code}
    (hs : shutP H (fun H => ownBC ob H ∧ ownVC own fr (ownB ob H) ∧ ∃ s, inv s ∧ fit2 E.n fr.n (ownAll own fr (ownB ob H)).1 (ownAll own fr (ownB ob H)).2 (F s) (Hp s)))
    (hr : ∀ s, inv s → execC E f1 c [] (loopQ6 E ks Q fr.n F Hp inv mu s) ⟨fr.n, F s⟩ (Hp s)) : iwp E.P E.n (.loop c) (contQ E ks Q) fr H := by
  obtain ⟨hsv, hbc, hvc, s0, hi0, hf0⟩ := hs
  refine iwp_loopG (fun m fr' H' => ∃ s, inv s ∧ mu s = m ∧ fr' = ⟨fr.n, F s⟩ ∧ H' = Hp s) (mu s0) ⟨_, _, (((shut_ghost hsv).trans (ownB_ghost ob hbc)).trans (ownAll_ghost own hvc)).trans (fit2_ghost hf0), s0, hi0, rfl, rfl, rfl⟩ ?_
  rintro m fr' H' ⟨s, hi, rfl, rfl, rfl⟩
  refine iwp_mono (run_code hT f1 (hr s hi)) ?_
  intro e fr' H' hq
  cases e with
  | normal =>
    obtain ⟨hsv, s', hi', hmu, hfit⟩ := hq
    exact ⟨_, _, (shut_ghost hsv).trans (fit2_ghost hfit), mu s', hmu, s', hi', rfl, rfl, rfl⟩
  | exit id => exact hq
  | goto l => exact hq
  | ret => exact hq
  | panic ch => exact hq
  | outgrown => exact hq
section rules6
variable {σ : Type} {F : σ → List (Nat × I)} {Hp : σ → List R} {inv : σ → Prop} {mu : σ → Nat} {s : σ} {ks : List Item} {nt : Nat}
@[go_sem] theorem loopQ6_normal : loopQ6 E ks Q nt F Hp inv mu s .normal fr H = shutP H (fun H' => ∃ s', inv s' ∧ mu s' < mu s ∧ fit2 E.n nt fr H' (F s') (Hp s')) := rfl
@[go_sem] theorem loopQ6_exit {id : Nat} : loopQ6 E ks Q nt F Hp inv mu s (.exit id) fr H = outQ E ks Q id fr H := rfl
@[go_sem] theorem loopQ6_ret : loopQ6 E ks Q nt F Hp inv mu s .ret fr H = contQ E ks Q .ret fr H := rfl
end rules6

end Go.VL
