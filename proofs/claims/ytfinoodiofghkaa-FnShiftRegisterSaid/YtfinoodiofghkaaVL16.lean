/- Part 16: lists of operations, with calls; code. Conditions: none; lemmas. -/
import Derived.Test.YtfinoodiofghkaaVL15
set_option linter.unusedVariables false
set_option linter.unusedSimpArgs false
namespace Go.VL

variable {P : Program} {S : Nat → Prop} {φ : List (List Nat)} {H : List R} {w : World} {T : Nat → Option TI} {fr : Fr} {a : Act} {n : Nat}

/-- How a function's contract is used: by data in new memory, by data that may share, or by symbolic values. -/
inductive Kind where
  | own
  | fz
  | proc

def fnOf : I → Option (Nat × List I)
  | .d (.fn f caps) => some (f, caps.map .d)
  | .fn f caps => some (f, caps)
  | _ => none

def isCall : Op → Option (Operand × List Operand)
  | .call { callee := .value f, args, .. } => some (f, args.toList)
  | _ => none

def views (H : List R) : List I → Option (Prop × List D) := viewF (view H 3)
def datas : List I → Option (Prop × List D) := viewF (view [] 0)

/-- A call. -/
def callK (P : Program) (pf : Nat → Kind) (c : Prop) (fn : I) (args : List I) (H : List R) (K : I → List R → Prop) : Prop :=
  match fnOf fn with
  | some (f, caps) =>
    match pf f with
    | .own =>
      match views H (args ++ caps) with
      | some (vc, ds) => c ∧ vc ∧ ∃ x, Pure P f ds x ∧ K (.d x) H
      | none => False
    | .fz =>
      match datas (args ++ caps) with
      | some (vc, ds) => c ∧ vc ∧ ∃ x, PureF P f ds x ∧ K (.d x) H
      | none => False
    | .proc => c ∧ ICall P f (args ++ caps) H K
  | none => False

/-- A call under a guard. -/
def callG (P : Program) (pf : Nat → Kind) (c : Prop) (e : Bool) (fn : I) (args : List I) (H : List R) (K : I → Prop) : Prop :=
  match fnOf fn with
  | some (f, caps) =>
    match pf f with
    | .own =>
      match views H (args ++ caps) with
      | some (vc, ds) => (e = true → c ∧ vc) ∧ ∃ x, (e = true → Pure P f ds x) ∧ K (.cond e (.d x))
      | none => False
    | _ => False
  | none => False

def guardOf (ops : List Oper) (fr : Fr) (j : Nat) (want : Bool) : Option (Prop × Bool) :=
  match (ops[j]?).bind (·.dst) with
  | some t =>
    if t < fr.n then
    match fr.get t with
    | .d x => some (x.isBool, if want then x.toBool else !x.toBool)
    | .cond e (.d x) => some ((e = true → x.isBool), e && (if want then x.toBool else !x.toBool))
    | _ => none
    else none
  | none => none

def sopL (P : Program) (T : Nat → Option TI) (pf : Nat → Kind) (ops : List Oper) : List Oper → Fr → List R → (Fr → List R → Prop) → Prop
  | [], fr, H, K => K fr H
  | o :: rest, fr, H, K =>
    match o.guard with
    | none =>
      match isCall o.op with
      | some (f, args) => callK P pf (evc fr f ∧ evcs fr args) (evx fr f) (evs fr args) H (fun r H' => sopL P T pf ops rest (fr.put o.dst r) H' K)
      | none =>
        match sopP T fr H o.op with
        | some (vc, x) => vc ∧ sopL P T pf ops rest (fr.put o.dst x) H K
        | none =>
          match sopI T fr H o.op with
          | some (vc, x, H') => vc ∧ sopL P T pf ops rest (fr.put o.dst x) H' K
          | none => False
    | some (j, want) =>
      match guardOf ops fr j want with
      | some (gc, e) =>
        match isCall o.op with
        | some (f, args) => gc ∧ callG P pf (evc fr f ∧ evcs fr args) e (evx fr f) (evs fr args) H (fun r => sopL P T pf ops rest (fr.put o.dst r) H K)
        | none =>
          match sopP T fr H o.op with
          | some (vc, x) => gc ∧ (e = true → vc) ∧ sopL P T pf ops rest (fr.put o.dst (.cond e x)) H K
          | none => False
      | none => False

theorem grow_ext (s : Sim S φ H w) {w' : World} (g : Grow w w') (S' : Nat → Prop) (h1 : ∀ b, S b → S' b) (h2 : ∀ b, S' b → S b ∨ w.heap.size ≤ b) (h3 : ∀ b, S' b → b < w'.heap.size) :
    Sim S' φ H w' ∧ Tr H.length S φ H w S' φ H w' ∧ Ext S φ w S' φ w' := by
  have hk : ∀ b, Foot φ b → w'.heap[b]? = w.heap[b]? := fun b hb => g.keep b (s.lt b hb)
  have htr : Tr H.length S φ H w S' φ H w' := by
    refine ⟨h1, fun b hb => g.keep b (s.slt b hb), Nat.le_refl _, Nat.le_refl _, fun _ _ => Nat.le_refl _, ?_, fun j cs' hj hl' => ⟨cs', hl', rfl⟩, fun j cs' hj hl' => ⟨cs', hl', rfl⟩, fun j x hj hl' => ⟨hl', rfl, fun b hb => hk b ⟨j, hb⟩⟩⟩
    intro j g' k dp' l' hj hl'
    exact .inr ⟨dp', l', hl', rfl, Nat.le_refl _, fun b rest arr ty e1 e2 => ⟨arr, ty, by rw [hk b ⟨j, by rw [e1]; simp⟩]; exact e2, Nat.le_refl _⟩⟩
  refine ⟨⟨s.len, s.nd, s.dj, fun b hb => Nat.lt_of_lt_of_le (s.lt b hb) g.size, ?_, h3, fun i r hr => (s.rel i r hr).tr htr fun b hb => hk b ⟨i, hb⟩⟩, htr, ?_⟩
  · intro b hb hS
    rcases h2 b hS with h | h
    · exact s.off b hb h
    · have := s.lt b hb; omega
  · exact ⟨g.os, g.tape, g.output, g.size, fun b hb _ => g.keep b hb, fun _ h => .inl h, h1, fun b hb => (h2 b hb).imp id .inr⟩

theorem fnOf_sound {x : I} {v : Value} (hv : V S φ H w x v) {f : Nat} {caps : List I} (h : fnOf x = some (f, caps)) :
    ∃ vs : Array Value, v = .func (.func f) #[] vs ∧ caps.length = vs.size ∧ ∀ j, j < caps.length → V S φ H w (caps.getD j .junk) (vs.getD j undef) := by
  unfold fnOf at h
  split at h
  · rename_i g ds
    simp only [Option.some.injEq, Prod.mk.injEq] at h
    obtain ⟨rfl, rfl⟩ := h
    have hz := hv.fz
    cases hz with
    | @fn _ _ vs hl hj =>
      refine ⟨vs, rfl, by simpa using hl, fun j hj' => ?_⟩
      simp only [List.length_map] at hj'
      have e : (ds.map I.d).getD j .junk = .d (ds.getD j .nil) := by simp [List.getD, hj']
      rw [e]
      exact .d (hj j hj')
  · simp only [Option.some.injEq, Prod.mk.injEq] at h
    obtain ⟨rfl, rfl⟩ := h
    cases hv with
    | @fn _ _ vs hl hj => exact ⟨vs, rfl, hl, hj⟩
  · simp at h

/-- The arguments of a call, with what a closure has caught. -/
theorem args_sound {args caps : List I} {va vcs : Array Value} (h1 : args.length = va.size) (h2 : ∀ j, j < args.length → V S φ H w (args.getD j .junk) (va.getD j undef))
    (h3 : caps.length = vcs.size) (h4 : ∀ j, j < caps.length → V S φ H w (caps.getD j .junk) (vcs.getD j undef)) :
    (va ++ vcs).size = (args ++ caps).length ∧ ∀ j, j < (args ++ caps).length → V S φ H w ((args ++ caps).getD j .junk) ((va ++ vcs).getD j undef) := by
  refine ⟨by simp [h1, h3], fun j hj => ?_⟩
  simp only [List.getD, Array.getD_eq_getD_getElem?] at h2 h4 ⊢
  by_cases h : j < args.length
  · rw [List.getElem?_append_left h, Array.getElem?_append_left (by omega)]
    exact h2 j h
  · simp only [List.length_append] at hj
    rw [List.getElem?_append_right (by omega), Array.getElem?_append_right (by omega), ← h1]
    exact h4 _ (by omega)

theorem viewF_args {f : I → Option (Prop × D)} {S' : Nat → Prop} (hf : ∀ x v vc d, V S φ H w x v → f x = some (vc, d) → vc → FZ S' w d v) {args : List I} {vs : Array Value} (hl : vs.size = args.length)
    (hv : ∀ j, j < args.length → V S φ H w (args.getD j .junk) (vs.getD j undef)) {vc : Prop} {ds : List D} (h : viewF f args = some (vc, ds)) (hvc : vc) : ArgsFZ S' w ds vs := by
  obtain ⟨l1, l2⟩ := viewF_sound (ok := V S φ H w) hf args h hvc
  exact ⟨by omega, fun j hj => l2 j (by omega) _ (hv j (by omega))⟩

theorem datas_fz : ∀ (x : I) (v : Value) (vc : Prop) (d : D), V S φ H w x v → view [] 0 x = some (vc, d) → vc → FZ S w d v := by
  intro x v vc d hv h hvc
  cases x <;> simp only [view, Option.some.injEq, Prod.mk.injEq, reduceCtorEq] at h
  obtain ⟨_, rfl⟩ := h
  exact hv.fz

theorem run_call {o : Oper} {f : Operand} {args : List Operand} (ho : isCall o.op = some (f, args)) {g : Nat} {vs : Array Value} (hg : a.eval f = .func (.func g) #[] vs) (he : Ent P g) (w : World) :
    (execOp a.eval o).run P w = .ok (.enter g ((args.map a.eval).toArray ++ vs)) w := by
  obtain ⟨dst, op, ty, pos, after, guard⟩ := o
  cases op with
  | call c =>
    obtain ⟨callee, as, tys⟩ := c
    cases callee with
    | value f' =>
      simp only [isCall, Option.some.injEq, Prod.mk.injEq] at ho
      obtain ⟨rfl, rfl⟩ := ho
      have e : as.map a.eval = (as.toList.map a.eval).toArray := by rw [← Array.toList_map, Array.toArray_toList]
      simp only [execOp, resolve, hg, Deferred.ofValue, invoke, Sem.run_bind, Sem.run_pure, Result.andThen_ok, e, Array.empty_append]
      exact he _ _
    | _ => simp [isCall] at ho
  | _ => simp [isCall] at ho

theorem oper_wp_enter {o : Oper} {Qr : Exit → Act → World → Prop} {K : Act → World → Prop} {g : Nat} {vs : Array Value} (hr : (execOp a.eval o).run P w = .ok (.enter g vs) w)
    (h : Calls P g vs w fun | .returned v, w' => K (a.put o.dst v) w' | .panicked _, _ => False | .outgrown, _ => False) : o.wp P a w K Qr := by
  unfold Oper.wp
  rw [hr, Oper.upon_enter]
  refine h.mono ?_
  intro e w' he
  cases e with
  | returned v => exact he
  | panicked c => exact he.elim
  | outgrown => exact he.elim

theorem callK_sound {pf : Nat → Kind} {f : Operand} {args : List Operand} {o : Oper} (ho : isCall o.op = some (f, args)) (s : Sim S φ H w) (hf : FrR S φ H w fr a)
    {Kc : I → List R → Prop} (h : callK P pf (evc fr f ∧ evcs fr args) (evx fr f) (evs fr args) H Kc) {Qr : Exit → Act → World → Prop} {Kr : Act → World → Prop}
    (hK : ∀ S' φ' H' w' r v, Sim S' φ' H' w' → FrR S' φ' H' w' fr a → V S' φ' H' w' r v → Ext S φ w S' φ' w' → Tr H.length S φ H w S' φ' H' w' → Kc r H' → Kr (a.put o.dst v) w') : o.wp P a w Kr Qr := by
  unfold callK at h
  split at h
  · rename_i g caps hfn
    have common : (evc fr f ∧ evcs fr args) → ∃ vs, a.eval f = .func (.func g) #[] vs ∧ ((args.map a.eval).toArray ++ vs).size = (evs fr args ++ caps).length ∧
        ∀ j, j < (evs fr args ++ caps).length → V S φ H w ((evs fr args ++ caps).getD j .junk) (((args.map a.eval).toArray ++ vs).getD j undef) := by
      rintro ⟨hc1, hc2⟩
      obtain ⟨vs, e1, e2, e3⟩ := fnOf_sound (hf.evx f hc1) hfn
      obtain ⟨l1, l2⟩ := evs_sound hf args hc2
      obtain ⟨m1, m2⟩ := args_sound (va := (args.map a.eval).toArray) (by simp [l1]) (fun j hj => l2 j (by omega)) e2 e3
      exact ⟨vs, e1, m1, m2⟩
    split at h
    · split at h
      · rename_i vc ds hv
        obtain ⟨hc, hvc, x, hp, hk⟩ := h
        obtain ⟨vs, e1, e2, e3⟩ := common hc
        refine oper_wp_enter (run_call ho e1 hp.1 w) (hp.2 (Lent S φ) _ w _ (fun b hb => hb.elim (s.slt b) (s.lt b)) (viewF_args (fun x v vc d h1 h2 h3 => view_sound s 3 h1 h2 h3) e2 e3 hv hvc) ?_)
        intro v w' fp how hnd hfp hg
        obtain ⟨s1, s2, s3⟩ := grow_ext s hg (fun b => S b ∨ b ∈ fp) (fun b h => .inl h) (fun b h => h.imp id (hfp b)) (fun b h => h.elim (fun h => Nat.lt_of_lt_of_le (s.slt b h) hg.size) (how.lt b))
        exact hK _ _ _ _ _ _ s1 (hf.tr s2) (.d (how.fz fun b hb => .inr hb)) s3 s2 hk
      · exact h.elim
    · split at h
      · rename_i vc ds hv
        obtain ⟨hc, hvc, x, hp, hk⟩ := h
        obtain ⟨vs, e1, e2, e3⟩ := common hc
        refine oper_wp_enter (run_call ho e1 hp.1 w) (hp.2 S _ w _ s.slt (viewF_args datas_fz e2 e3 hv hvc) ?_)
        intro v w' S' h1 h2 h3 hz hg
        obtain ⟨s1, s2, s3⟩ := grow_ext s hg S' h1 h2 h3
        exact hK _ _ _ _ _ _ s1 (hf.tr s2) (.d hz) s3 s2 hk
      · exact h.elim
    · obtain ⟨hc, hp⟩ := h
      obtain ⟨vs, e1, e2, e3⟩ := common hc
      refine oper_wp_enter (run_call ho e1 hp.1 w) (hp.2 S φ _ w _ s e2 e3 ?_)
      intro v w' S' φ' r H' s1 hv s3 s2 hk
      exact hK _ _ _ _ _ _ s1 (hf.tr s2) hv s3 s2 hk
  · exact h.elim

theorem guardOf_sound (hf : FrR S φ H w fr a) {ops : List Oper} {o : Oper} {j : Nat} {want : Bool} (hgd : o.guard = some (j, want)) {gc : Prop} {e : Bool} (h : guardOf ops fr j want = some (gc, e)) (hgc : gc) :
    Region.wanted o (yielded ops.toArray a.tmps) = e := by
  have bool : ∀ {t : Nat} {x : D}, (ops[j]?).bind (·.dst) = some t → t < fr.n → V S φ H w (.d x) (a.tmps.getD t undef) → x.isBool → yielded ops.toArray a.tmps j = some x.toBool := by
    intro t x ht hlt hv hb
    obtain ⟨_, hb⟩ := hv.fz.bool_inv hb
    have hsz : t < a.tmps.size := by rw [hf.size]; exact hlt
    have hget : a.tmps[t]? = some (.bool x.toBool) := by
      rw [← hb]
      simp [Array.getD, hsz]
    have ht' : (ops.toArray[j]?).bind (·.dst) = some t := by simpa using ht
    unfold yielded
    rw [ht']
    simp only [Option.bind_some, hget]
  unfold guardOf at h
  split at h
  · rename_i t ht
    split at h
    · rename_i hlt
      split at h
      · rename_i x hx
        simp only [Option.some.injEq, Prod.mk.injEq] at h
        obtain ⟨rfl, rfl⟩ := h
        have hv := hf.val t
        rw [hx] at hv
        simp only [Region.wanted, hgd, bool ht hlt hv hgc]
        cases want <;> cases x.toBool <;> rfl
      · rename_i e' x hx
        simp only [Option.some.injEq, Prod.mk.injEq] at h
        obtain ⟨rfl, rfl⟩ := h
        have hv := hf.val t
        rw [hx] at hv
        cases hv with
        | cond hv h0 =>
          cases e' with
          | true =>
            simp only [Region.wanted, hgd, bool ht hlt (hv rfl) (hgc rfl)]
            cases want <;> cases x.toBool <;> rfl
          | false =>
            have hsz : t < a.tmps.size := by rw [hf.size]; exact hlt
            have hget : a.tmps[t]? = some undef := by
              rw [← h0 rfl]
              simp [Array.getD, hsz]
            have ht' : (ops.toArray[j]?).bind (·.dst) = some t := by simpa using ht
            have hy : yielded ops.toArray a.tmps j = none := by
              unfold yielded
              rw [ht']
              simp only [Option.bind_some, hget]
              rfl
            simp only [Region.wanted, hgd, hy]
            cases want <;> rfl
      · simp at h
    · simp at h
  · simp at h

theorem FrR.skip (hf : FrR S φ H w fr a) (dst : Option Tmp) {e : Bool} (he : e = false) (x : I) : FrR S φ H w (fr.put dst (.cond e x)) (a.put dst undef) :=
  hf.put dst (.cond (by simp [he]) fun _ => rfl)

set_option maxHeartbeats 1000000 in
theorem sopL_sound (hT : TOK P T) (pf : Nat → Kind) {ops : List Oper} {K : Fr → List R → Prop} : ∀ (l : List Oper) {fr : Fr} {H : List R}, sopL P T pf ops l fr H K → iops P n ops.toArray l K fr H := by
  intro l
  induction l with
  | nil =>
    intro fr H h S φ a w Qr hn s hf hq
    exact hq a w S φ fr H s hf (Ext.refl ..) (Tr.refl hn) h
  | cons o rest ih =>
    intro fr H h S φ a w Qr hn s hf hq
    simp only [sopL] at h
    split at h
    · rename_i hgd
      refine wpList_plain hgd fun Kr hKr => ?_
      split at h
      · rename_i f args ho
        refine callK_sound ho s hf h fun S' φ' H' w' r v s' hf' hv he ht hk => hKr _ _ ?_
        exact ih hk S' φ' _ w' Qr (Nat.le_trans hn ht.len) s' (hf'.put o.dst hv) fun a2 w2 S2 φ2 fr2 H2 a3 a4 a5 a6 a7 => hq a2 w2 S2 φ2 fr2 H2 a3 a4 (he.trans a5) ((ht.weaken hn).trans a6) a7
      · split at h
        · rename_i vc x hp
          obtain ⟨hvc, hk⟩ := h
          obtain ⟨v, hv, hr⟩ := sopP_sound hT s hf hp hvc
          unfold Oper.wp
          rw [hr w (fun _ => Agree.refl w), Oper.upon_value]
          exact hKr _ _ (ih hk S φ _ w Qr hn s (hf.put o.dst hv) hq)
        · split at h
          · rename_i vc x H' hp
            obtain ⟨hvc, hk⟩ := h
            obtain ⟨v, w', φ', hr, s', ht, he, hv⟩ := sopI_sound hT s hf hp hvc
            have fin : Kr (a.put o.dst v) w' := hKr _ _ (ih hk S φ' _ w' Qr (Nat.le_trans hn ht.len) s' ((hf.tr ht).put o.dst hv) fun a2 w2 S2 φ2 fr2 H2 a3 a4 a5 a6 a7 =>
              hq a2 w2 S2 φ2 fr2 H2 a3 a4 (he.trans a5) ((ht.weaken hn).trans a6) a7)
            unfold Oper.wp
            rcases hr with hr | ⟨hr, rfl⟩
            · rw [hr, Oper.upon_value]; exact fin
            · rw [hr, Oper.upon_skip]; exact fin
          · exact h.elim
    · rename_i j want hgd
      split at h
      · rename_i gc e hg
        have wanted : gc → Region.wanted o (yielded ops.toArray a.tmps) = e := by
          intro hgc
          exact guardOf_sound hf hgd hg hgc
        split at h
        · rename_i f args ho
          obtain ⟨hgc, h⟩ := h
          have hw := wanted hgc
          unfold wpList
          rw [hw]
          unfold callG at h
          split at h
          · rename_i g caps hfn
            split at h
            · split at h
              · rename_i vc ds hv
                obtain ⟨hc, x, hp, hk⟩ := h
                cases e with
                | false =>
                  simp only [Bool.false_eq_true, if_false]
                  exact ih hk S φ _ w Qr hn s (hf.skip o.dst rfl _) hq
                | true =>
                  simp only [if_true]
                  left
                  obtain ⟨hc, hvc⟩ := hc rfl
                  have hp := hp rfl
                  refine callK_sound (P := P) (pf := fun _ => .own) ho s hf (Kc := fun r H' => H' = H ∧ r = .d x) ?_ ?_
                  · simp only [callK, hfn, hv]
                    exact ⟨hc, hvc, x, hp, by simp⟩
                  · rintro S' φ' H' w' r v s' hf' hv' he ht ⟨rfl, rfl⟩
                    exact ih hk S' φ' _ w' Qr (Nat.le_trans hn ht.len) s' (hf'.put o.dst (.cond (fun _ => hv') fun h => by cases h)) fun a2 w2 S2 φ2 fr2 H2 a3 a4 a5 a6 a7 => hq a2 w2 S2 φ2 fr2 H2 a3 a4 (he.trans a5) ((ht.weaken hn).trans a6) a7
              · exact h.elim
            · exact h.elim
          · exact h.elim
        · split at h
          · rename_i vc x hp
            obtain ⟨hgc, hvc, hk⟩ := h
            have hw := wanted hgc
            unfold wpList
            rw [hw]
            cases e with
            | false =>
              simp only [Bool.false_eq_true, if_false]
              exact ih hk S φ _ w Qr hn s (hf.skip o.dst rfl _) hq
            | true =>
              simp only [if_true]
              left
              obtain ⟨v, hv, hr⟩ := sopP_sound hT s hf hp (hvc rfl)
              unfold Oper.wp
              rw [hr w (fun _ => Agree.refl w), Oper.upon_value]
              exact ih hk S φ _ w Qr hn s (hf.put o.dst (.cond (fun _ => hv) fun h => by cases h)) hq
          · exact h.elim
      · exact h.elim

end Go.VL
