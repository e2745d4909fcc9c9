/- Part 3: the logic itself: weakest preconditions over symbolic states, contracts of functions. Conditions: none; lemmas. -/
import Derived.Test.YtfinoodiofghkaaVL2
set_option linter.unusedVariables false
set_option linter.unusedSimpArgs false
namespace Go.VL

variable {P : Program}

abbrev Post := Exit → Fr → List R → Prop

/-- 'c', begun in any state that the symbolic one describes, ends in a state that 'Q' describes; of the first 'n' roots it keeps what symbolic values lean on. -/
def iwp (P : Program) (n : Nat) (c : Code) (Q : Post) (fr : Fr) (H : List R) : Prop :=
  ∀ S φ a w (Qr : Exit → Act → World → Prop), n ≤ H.length → Sim S φ H w → FrR S φ H w fr a →
    (∀ e a' w' S' φ' fr' H', Sim S' φ' H' w' → FrR S' φ' H' w' fr' a' → Ext S φ w S' φ' w' → Tr n S φ H w S' φ' H' w' → Q e fr' H' → Qr e a' w') → c.wp P Qr a w

def iops (P : Program) (n : Nat) (ops : Array Oper) (l : List Oper) (K : Fr → List R → Prop) (fr : Fr) (H : List R) : Prop :=
  ∀ S φ a w (Qr : Exit → Act → World → Prop), n ≤ H.length → Sim S φ H w → FrR S φ H w fr a →
    (∀ a' w' S' φ' fr' H', Sim S' φ' H' w' → FrR S' φ' H' w' fr' a' → Ext S φ w S' φ' w' → Tr n S φ H w S' φ' H' w' → K fr' H' → Qr .normal a' w') → wpList P ops Qr l a w

/-- A call of 'f' enters its body. -/
def Ent (P : Program) (f : Nat) : Prop := ∀ (args : Array Value) (w : World), (callFunc f args).run P w = .ok (.enter f args) w

/-- A contract: called with these in this heap, the function returns, and what it returns and leaves is as 'Po' says. -/
def ICall (P : Program) (f : Nat) (args : List I) (H : List R) (Po : I → List R → Prop) : Prop :=
  Ent P f ∧ ∀ S φ (vs : Array Value) w (Rr : Ending → World → Prop), Sim S φ H w → vs.size = args.length → (∀ j, j < args.length → V S φ H w (args.getD j .junk) (vs.getD j undef)) →
    (∀ v w' S' φ' r H', Sim S' φ' H' w' → V S' φ' H' w' r v → Ext S φ w S' φ' w' → Tr H.length S φ H w S' φ' H' w' → Po r H' → Rr (.returned v) w') → Calls P f vs w Rr

theorem ICall.mono {f : Nat} {args : List I} {H : List R} {Po Po' : I → List R → Prop} (h : ICall P f args H Po) (hp : ∀ r H', Po r H' → Po' r H') : ICall P f args H Po' :=
  ⟨h.1, fun S φ vs w Rr hs hl hv hr => h.2 S φ vs w Rr hs hl hv fun v w' S' φ' r H' a b c d e => hr v w' S' φ' r H' a b c d (hp _ _ e)⟩

section
variable {n : Nat} {Q : Post} {fr : Fr} {H : List R}

def thenQ (next : Fr → List R → Prop) (Q : Post) : Post
  | .normal, fr, H => next fr H
  | e, fr, H => Q e fr H
def inBlockQ (id : Nat) (Q : Post) : Post
  | .exit id', fr, H => if id' = id then Q .normal fr H else Q (.exit id') fr H
  | e, fr, H => Q e fr H

theorem iwp_mono {c : Code} {Q' : Post} (h : iwp P n c Q fr H) (hq : ∀ e fr H, Q e fr H → Q' e fr H) : iwp P n c Q' fr H :=
  fun S φ a w Qr hn hs hf hr => h S φ a w Qr hn hs hf fun e a' w' S' φ' fr' H' a b c d q => hr e a' w' S' φ' fr' H' a b c d (hq _ _ _ q)

theorem iwp_skip (h : Q .normal fr H) : iwp P n .skip Q fr H :=
  fun S φ a w Qr hn hs hf hr => wp_skip (hr _ a w S φ fr H hs hf (Ext.refl ..) (Tr.refl hn) h)
theorem iwp_label {l : Nat} (h : Q .normal fr H) : iwp P n (.label l) Q fr H :=
  fun S φ a w Qr hn hs hf hr => wp_label (hr _ a w S φ fr H hs hf (Ext.refl ..) (Tr.refl hn) h)
theorem iwp_exit {id : Nat} (h : Q (.exit id) fr H) : iwp P n (.exit id) Q fr H :=
  fun S φ a w Qr hn hs hf hr => wp_exit (hr _ a w S φ fr H hs hf (Ext.refl ..) (Tr.refl hn) h)
theorem iwp_ret (h : Q .ret fr H) : iwp P n .ret Q fr H :=
  fun S φ a w Qr hn hs hf hr => wp_ret (hr _ a w S φ fr H hs hf (Ext.refl ..) (Tr.refl hn) h)


theorem iwp_seq {x y : Code} (h : iwp P n x (thenQ (fun fr H => iwp P n y Q fr H) Q) fr H) : iwp P n (.seq x y) Q fr H := by
  intro S φ a w Qr hn hs hf hr
  refine wp_seq (h S φ a w _ hn hs hf ?_)
  intro e a' w' S' φ' fr' H' hs' hf' he ht hq
  cases e with
  | normal =>
    exact hq S' φ' a' w' Qr ht.len hs' hf' fun e2 a2 w2 S2 φ2 fr2 H2 hs2 hf2 he2 ht2 hq2 => hr e2 a2 w2 S2 φ2 fr2 H2 hs2 hf2 (he.trans he2) (ht.trans ht2) hq2
  | exit id => exact hr _ a' w' S' φ' fr' H' hs' hf' he ht hq
  | goto l => exact hr _ a' w' S' φ' fr' H' hs' hf' he ht hq
  | ret => exact hr _ a' w' S' φ' fr' H' hs' hf' he ht hq
  | panic ch => exact hr _ a' w' S' φ' fr' H' hs' hf' he ht hq
  | outgrown => exact hr _ a' w' S' φ' fr' H' hs' hf' he ht hq

theorem iwp_block {id : Nat} {c : Code} (h : iwp P n c (inBlockQ id Q) fr H) : iwp P n (.block id c) Q fr H := by
  intro S φ a w Qr hn hs hf hr
  refine wp_block (h S φ a w _ hn hs hf ?_)
  intro e a' w' S' φ' fr' H' hs' hf' he ht hq
  cases e with
  | exit id' =>
    simp only [Exit.inBlock, inBlockQ] at hq ⊢
    split at hq
    · rw [if_pos ‹_›]; exact hr _ a' w' S' φ' fr' H' hs' hf' he ht hq
    · rw [if_neg ‹_›]; exact hr _ a' w' S' φ' fr' H' hs' hf' he ht hq
  | normal => exact hr _ a' w' S' φ' fr' H' hs' hf' he ht hq
  | goto l => exact hr _ a' w' S' φ' fr' H' hs' hf' he ht hq
  | ret => exact hr _ a' w' S' φ' fr' H' hs' hf' he ht hq
  | panic ch => exact hr _ a' w' S' φ' fr' H' hs' hf' he ht hq
  | outgrown => exact hr _ a' w' S' φ' fr' H' hs' hf' he ht hq

/-- The value of an operand. -/
def constI : Value → I
  | .int k n => if k.min ≤ n ∧ n ≤ k.max then .d (.int k n) else .junk
  | .bool b => .d (.bool b)
  | .slice none 0 0 => .d .nil
  | .pointer none => .d (.raw (.pointer none))
  | .map none => .d (.raw (.map none))
  | .nilFunc => .d (.raw .nilFunc)
  | _ => .junk
def ev (fr : Fr) : Operand → I
  | .tmp t => fr.get t
  | .const v => constI v
  | .func f => .d (.fn f [])
  | .global _ => .junk

theorem FrR.put {S : Nat → Prop} {φ : List (List Nat)} {w : World} {a : Act} (h : FrR S φ H w fr a) (dst : Option Tmp) {x : I} {v : Value} (hv : V S φ H w x v) :
    FrR S φ H w (fr.put dst x) (a.put dst v) := by
  cases dst with
  | none => exact h
  | some t =>
    unfold Fr.put Act.put
    by_cases ht : t < fr.n
    · simp only [ht, if_true]
      refine ⟨h.defers, by simp [h.size], ?_⟩
      intro s
      simp only [Fr.get, look]
      by_cases hst : t = s
      · subst hst
        simp only [if_true]
        have : t < a.tmps.size := by rw [h.size]; exact ht
        simpa [Array.getD, this] using hv
      · simp only [hst, if_false]
        have := h.val s
        simp only [Fr.get] at this
        have e : (a.tmps.setIfInBounds t v).getD s undef = a.tmps.getD s undef := by
          simp only [Array.getD_eq_getD_getElem?, Array.getElem?_setIfInBounds, hst, if_false]
        rw [e]
        exact this
    · simp only [ht, if_false]
      have : a.tmps.setIfInBounds t v = a.tmps := Array.setIfInBounds_eq_of_size_le (by rw [h.size]; exact Nat.le_of_not_lt ht)
      rw [this]
      exact h

theorem FrR.ev {S : Nat → Prop} {φ : List (List Nat)} {w : World} {a : Act} (h : FrR S φ H w fr a) (o : Operand) : V S φ H w (ev fr o) (a.eval o) := by
  cases o with
  | tmp t =>
    exact h.val t
  | const v =>
    simp only [VL.ev, Act.eval, constI]
    split
    · split
      · rename_i hk; exact .d (.int hk)
      · exact .junk
    · exact .d .bool
    · exact .d .nil
    · exact .d (.raw rfl)
    · exact .d (.raw rfl)
    · exact .d (.raw rfl)
    · exact .junk
  | func f => exact .d (.fn rfl (fun j hj => by simp at hj))
  | global g => exact .junk


theorem iwp_cond {c : Operand} {x y : Code} {d : D} (hc : ev fr c = .d d) (hb : d.isBool) (hx : d.toBool = true → iwp P n x Q fr H) (hy : d.toBool = false → iwp P n y Q fr H) :
    iwp P n (.cond c x y) Q fr H := by
  intro S φ a w Qr hn hs hf hr
  have h := hf.ev c
  rw [hc] at h
  cases d with
  | bool b =>
    cases h with
    | d h =>
      generalize ha : a.eval c = v at h
      cases h
      cases b with
      | true => exact wp_cond_true ha (hx rfl S φ a w Qr hn hs hf hr)
      | false => exact wp_cond_false ha (hy rfl S φ a w Qr hn hs hf hr)
  | _ => exact hb.elim

theorem iwp_region {id : Nat} {ops : Array Oper} (h : iops P n ops ops.toList (fun fr H => Q .normal fr H) fr H) : iwp P n (.region id ops false) Q fr H :=
  fun S φ a w Qr hn hs hf hr => wp_region_list (h S φ a w Qr hn hs hf fun a' w' S' φ' fr' H' hs' hf' he ht hq => hr _ a' w' S' φ' fr' H' hs' hf' he ht hq)

/-- A loop by a relation 'I', whose number goes down. -/
theorem iwp_loop {c : Code} (J : Nat → Fr → List R → Prop) (m : Nat) (h0 : J m fr H)
    (hr : ∀ m fr H, J m fr H → iwp P n c (thenQ (fun fr' H' => ∃ m', m' < m ∧ J m' fr' H') Q) fr H) : iwp P n (.loop c) Q fr H := by
  intro S φ a w Qr hn hs hf hq b k cs
  have key : ∀ m, ∀ a w S' φ' fr' H', J m fr' H' → Sim S' φ' H' w → FrR S' φ' H' w fr' a → n ≤ H'.length → (∀ e a'' w'' S'' φ'' fr'' H'', Sim S'' φ'' H'' w'' → FrR S'' φ'' H'' w'' fr'' a'' → Ext S' φ' w S'' φ'' w'' →
      Tr n S' φ' H' w S'' φ'' H'' w'' → Q e fr'' H'' → Qr e a'' w'') → ∃ e a' w', Qr e a' w' ∧ Arrives P (lone (b.at a (.code c :: .inLoop c :: k)) cs w) b k cs e a' w' := by
    intro m
    induction m using Nat.strongRecOn with
    | _ m ih =>
      intro a w S' φ' fr' H' hJ hs hf hn hq
      obtain ⟨e, a₁, w₁, hq1, harr⟩ := hr m fr' H' hJ S' φ' a w (Exit.then (fun a1 w1 => ∃ e a' w', Qr e a' w' ∧ Arrives P (lone (b.at a1 (.code c :: .inLoop c :: k)) cs w1) b k cs e a' w') Qr) hn hs hf (by
        intro e a1 w1 S1 φ1 fr1 H1 hs1 hf1 he1 ht1 hQ
        cases e with
        | normal =>
          obtain ⟨m', hm', hJ'⟩ := hQ
          exact ih m' hm' a1 w1 S1 φ1 fr1 H1 hJ' hs1 hf1 ht1.len fun e2 a2 w2 S2 φ2 fr2 H2 hs2 hf2 he2 ht2 hq2 => hq e2 a2 w2 S2 φ2 fr2 H2 hs2 hf2 (he1.trans he2) (ht1.trans ht2) hq2
        | exit id => exact hq _ a1 w1 S1 φ1 fr1 H1 hs1 hf1 he1 ht1 hQ
        | goto l => exact hq _ a1 w1 S1 φ1 fr1 H1 hs1 hf1 he1 ht1 hQ
        | ret => exact hq _ a1 w1 S1 φ1 fr1 H1 hs1 hf1 he1 ht1 hQ
        | panic ch => exact hq _ a1 w1 S1 φ1 fr1 H1 hs1 hf1 he1 ht1 hQ
        | outgrown => exact hq _ a1 w1 S1 φ1 fr1 H1 hs1 hf1 he1 ht1 hQ) b (.inLoop c :: k) cs
      cases e with
      | normal =>
        obtain ⟨e₂, a₂, w₂, hq₂, harr₂⟩ := hq1
        exact ⟨e₂, a₂, w₂, hq₂, .of_steps (Steps.trans harr (.one step_inLoop)) harr₂⟩
      | exit id => exact ⟨_, a₁, w₁, hq1, .pass (x := .inLoop c) rfl (fun _ _ => .inl (by simp)) harr⟩
      | goto l => exact ⟨_, a₁, w₁, hq1, .pass (x := .inLoop c) rfl (fun _ _ => .inl (by simp)) harr⟩
      | ret => exact ⟨_, a₁, w₁, hq1, .pass (x := .inLoop c) rfl (fun _ _ => .inl (by simp)) harr⟩
      | panic ch => exact ⟨_, a₁, w₁, hq1, .pass (x := .inLoop c) rfl (fun _ _ => .inl (by simp)) harr⟩
      | outgrown => exact ⟨_, a₁, w₁, hq1, .pass (x := .inLoop c) rfl (fun _ _ => .inl (by simp)) harr⟩
  obtain ⟨e, a', w', hq', harr⟩ := key m a w S φ fr H h0 hs hf hn hq
  exact ⟨e, a', w', hq', .of_steps (.one step_loop) harr⟩

end
end Go.VL
