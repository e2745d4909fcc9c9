/- Part 9: reading operations dispatched; regions of operations. Conditions: none; lemmas. -/
import Derived.Test.YtfinoodiofghkaaVL8
set_option linter.unusedVariables false
set_option linter.unusedSimpArgs false
namespace Go.VL

variable {P : Program} {S : Nat → Prop} {φ : List (List Nat)} {H : List R} {w : World} {T : Nat → Option TI} {fr : Fr} {a : Act}

def andC (c : Prop) : Option (Prop × I) → Option (Prop × I)
  | some (vc, x) => some (c ∧ vc, x)
  | none => none

def optE (fr : Fr) : Option Operand → Option I
  | some o => some (evx fr o)
  | none => none
def optEc (fr : Fr) : Option Operand → Prop
  | some o => evc fr o
  | none => True
def evs (fr : Fr) : List Operand → List I
  | [] => []
  | o :: r => evx fr o :: evs fr r
def evcs (fr : Fr) : List Operand → Prop
  | [] => True
  | o :: r => evc fr o ∧ evcs fr r

def mkFn (f : Nat) (caps : List I) : I :=
  match allD caps with
  | some ds => .d (.fn f ds)
  | none => .fn f caps

def sBuiltinP (T : Nat → Option TI) (fr : Fr) (H : List R) (b : Builtin) (args : List Operand) (tys : List TypeId) : Option (Prop × I) :=
  match b, args, tys with
  | .len, [x], [t] => andC (evc fr x) (sLen T H t (evx fr x))
  | .min, [x, y], _ => andC (evc fr x ∧ evc fr y) (sMM .min (evx fr x) (evx fr y))
  | .max, [x, y], _ => andC (evc fr x ∧ evc fr y) (sMM .max (evx fr x) (evx fr y))
  | _, _, _ => none

/-- What an operation that leaves memory alone yields. -/
def sopP (T : Nat → Option TI) (fr : Fr) (H : List R) : Op → Option (Prop × I)
  | .move x => some (evc fr x, evx fr x)
  | .assign x => some (evc fr x, evx fr x)
  | .pick c x y => andC (evc fr c) (sPick (evx fr c) (evx fr x) (evx fr y) (evc fr x) (evc fr y))
  | .build t parts => andC (evcParts fr parts.toList) (sBuild T t (evParts fr parts.toList))
  | .load t p => andC (evc fr p) (sLoad T H t (evx fr p))
  | .nilCheck x => andC (evc fr x) (sNil H (evx fr x))
  | .binOp op t x y _ => andC (evc fr x ∧ evc fr y) (sBin T H op t (evx fr x) (evx fr y))
  | .unOp op _ x => andC (evc fr x) (sUn op (evx fr x))
  | .convert s d x => andC (evc fr x) (sConv T s d (evx fr x))
  | .makeFunc (.func f) first caps =>
    match first.toList with
    | [] => some (evcs fr caps.toList, mkFn f (evs fr caps.toList))
    | _ => none
  | .slice t x lo hi mx => andC (evc fr x ∧ optEc fr lo ∧ optEc fr hi) (sSlice T H t (evx fr x) (optE fr lo) (optE fr hi) (optE fr mx))
  | .fieldAddr s x f => andC (evc fr x) (sFieldAddr T H s (evx fr x) f)
  | .field s x f => andC (evc fr x) (sField T s (evx fr x) f)
  | .indexAddr t x ix => andC (evc fr x ∧ evc fr ix) (sIndexAddr T H t (evx fr x) (evx fr ix))
  | .index t x ix => andC (evc fr x ∧ evc fr ix) (sIndex T t (evx fr x) (evx fr ix))
  | .extract x j => andC (evc fr x) (sExtract (evx fr x) j)
  | .call { callee := .builtin b, args, argTypes } => sBuiltinP T fr H b args.toList argTypes.toList
  | _ => none

theorem andC_inv {c : Prop} {o : Option (Prop × I)} {vc : Prop} {x : I} (h : andC c o = some (vc, x)) (hvc : vc) : c ∧ ∃ vc', o = some (vc', x) ∧ vc' := by
  cases o with
  | none => simp [andC] at h
  | some p =>
    obtain ⟨vc', x'⟩ := p
    simp only [andC, Option.some.injEq, Prod.mk.injEq] at h
    obtain ⟨rfl, rfl⟩ := h
    exact ⟨hvc.1, vc', rfl, hvc.2⟩

theorem FrR.evx (h : FrR S φ H w fr a) (o : Operand) (hc : evc fr o) : V S φ H w (evx fr o) (a.eval o) := by
  have hv := h.ev o
  unfold VL.evx
  unfold evc at hc
  generalize VL.ev fr o = y at *
  cases y with
  | cond e x =>
    cases hv with
    | cond hv _ => exact hv hc
  | _ => exact hv

theorem evs_sound (h : FrR S φ H w fr a) : ∀ (l : List Operand), evcs fr l → (evs fr l).length = l.length ∧ ∀ j, j < l.length → V S φ H w ((evs fr l).getD j .junk) ((l.map a.eval).toArray.getD j undef)
  | [], _ => ⟨rfl, fun j hj => by simp at hj⟩
  | o :: r, hc => by
    obtain ⟨h1, h2⟩ := evs_sound h r hc.2
    refine ⟨by simp [evs, h1], fun j hj => ?_⟩
    cases j with
    | zero => simpa [evs, List.getD, Array.getD] using h.evx o hc.1
    | succ j =>
      have := h2 j (by simpa using hj)
      simpa [evs, List.getD, Array.getD_eq_getD_getElem?] using this

theorem V.mkFn {f : Nat} {cs : List I} {vs : Array Value} (hl : cs.length = vs.size) (h : ∀ j, j < cs.length → V S φ H w (cs.getD j .junk) (vs.getD j undef)) : V S φ H w (mkFn f cs) (.func (.func f) #[] vs) := by
  unfold VL.mkFn
  split
  · rename_i ds hds
    obtain ⟨hl', hd⟩ := allD_getD hds
    refine .d (.fn (by omega) fun j hj => ?_)
    have := h j (by omega)
    rw [hd j (by omega)] at this
    exact this.fz
  · exact .fn hl h

theorem evParts_sound (h : FrR S φ H w fr a) : ∀ (l : List (Nat × Operand)), evcParts fr l → (evParts fr l).length = (l.map fun (i, x) => (i, a.eval x)).length ∧
    ∀ (j i : Nat) (x : I), (evParts fr l)[j]? = some (i, x) → ∃ v : Value, (l.map fun (i, x) => (i, a.eval x))[j]? = some (i, v) ∧ V S φ H w x v
  | [], _ => ⟨rfl, fun j i x hj => by simp [evParts] at hj⟩
  | (i0, o) :: r, hc => by
    obtain ⟨h1, h2⟩ := evParts_sound h r hc.2
    refine ⟨by simp [evParts, h1], fun j i x hj => ?_⟩
    cases j with
    | zero =>
      simp only [evParts, List.getElem?_cons_zero, Option.some.injEq, Prod.mk.injEq] at hj
      obtain ⟨rfl, rfl⟩ := hj
      exact ⟨_, rfl, h.evx o hc.1⟩
    | succ j =>
      simp only [evParts, List.getElem?_cons_succ] at hj
      obtain ⟨v, hv, hx⟩ := h2 j i x hj
      exact ⟨v, by simpa using hv, hx⟩

theorem optE_sound (h : FrR S φ H w fr a) {o : Option Operand} (hc : optEc fr o) : (∀ x, optE fr o = some x → ∃ v, o.map a.eval = some v ∧ V S φ H w x v) ∧ (optE fr o = none → o.map a.eval = none) := by
  cases o with
  | none => exact ⟨fun x hx => by simp [optE] at hx, fun _ => rfl⟩
  | some o => exact ⟨fun x hx => by simp only [optE, Option.some.injEq] at hx; subst hx; exact ⟨_, rfl, h.evx o hc⟩, fun hx => by simp [optE] at hx⟩

theorem arr1 {α : Type} {xs : Array α} {x : α} (h : xs.toList = [x]) : xs = #[x] := by rw [← Array.toArray_toList (xs := xs), h]
theorem arr2 {α : Type} {xs : Array α} {x y : α} (h : xs.toList = [x, y]) : xs = #[x, y] := by rw [← Array.toArray_toList (xs := xs), h]

/-- Operations that look at memory. -/
def readsO : Op → Bool
  | .load _ _ => true
  | _ => false


set_option maxHeartbeats 1000000 in
theorem sopP_sound (hT : TOK P T) (s : Sim S φ H w) (hf : FrR S φ H w fr a) {o : Oper} {vc : Prop} {x : I} (h : sopP T fr H o.op = some (vc, x)) (hvc : vc) :
    ∃ v, V S φ H w x v ∧ ∀ w2, (readsO o.op = true → Agree w w2) → (execOp a.eval o).run P w2 = .ok (.value v) w2 := by
  obtain ⟨dst, op, ty, pos, after, guard⟩ := o
  simp only at h
  cases op with
  | move y =>
    simp only [sopP, Option.some.injEq, Prod.mk.injEq] at h
    obtain ⟨rfl, rfl⟩ := h
    exact ⟨_, hf.evx y hvc, fun w2 _ => by simp [execOp]⟩
  | assign y =>
    simp only [sopP, Option.some.injEq, Prod.mk.injEq] at h
    obtain ⟨rfl, rfl⟩ := h
    exact ⟨_, hf.evx y hvc, fun w2 _ => by simp [execOp]⟩
  | pick c y z =>
    obtain ⟨hc, vc', h, hvc⟩ := andC_inv h hvc
    unfold sPick at h
    split at h
    · rename_i xc xa xb ec ea eb
      simp only [Option.some.injEq, Prod.mk.injEq] at h
      obtain ⟨rfl, rfl⟩ := h
      have hcv := hf.evx c hc
      rw [ec] at hcv
      obtain ⟨_, hcv⟩ := hcv.fz.bool_inv hvc.1
      cases hb : xc.toBool with
      | true =>
        rw [hb] at hcv
        have hav := hf.evx y (hvc.2.1 hb).1
        rw [ea] at hav
        obtain ⟨_, hav⟩ := hav.fz.bool_inv (hvc.2.1 hb).2
        exact ⟨.bool xa.toBool, .d (by simp only [if_true]; exact .bool), fun w2 _ => by simp [execOp, hcv, asBool, hav]⟩
      | false =>
        rw [hb] at hcv
        have hav := hf.evx z (hvc.2.2 hb).1
        rw [eb] at hav
        obtain ⟨_, hav⟩ := hav.fz.bool_inv (hvc.2.2 hb).2
        exact ⟨.bool xb.toBool, .d (by simp only [Bool.false_eq_true, if_false]; exact .bool), fun w2 _ => by simp [execOp, hcv, asBool, hav]⟩
    · simp at h
  | build t parts =>
    obtain ⟨hc, vc', h, hvc⟩ := andC_inv h hvc
    obtain ⟨h1, h2⟩ := evParts_sound hf parts.toList hc
    obtain ⟨v, hv, hr⟩ := sBuild_sound hT h1 h2 h hvc
    refine ⟨v, hv, fun w2 hw2 => ?_⟩
    have e : (parts.map fun (i, x) => (i, a.eval x)) = (parts.toList.map fun (i, x) => (i, a.eval x)).toArray := by
      rw [← Array.toList_map, Array.toArray_toList]
    have := hr w2
    rw [← e] at this
    simp [execOp, this]
  | load t p =>
    obtain ⟨hc, vc', h, hvc⟩ := andC_inv h hvc
    obtain ⟨v, hv, hr⟩ := sLoad_sound hT s (hf.evx p hc) h hvc
    exact ⟨v, hv, fun w2 hw2 => by simp [execOp, hr w2 (hw2 rfl)]⟩
  | nilCheck y =>
    obtain ⟨hc, vc', h, hvc⟩ := andC_inv h hvc
    obtain ⟨hv, ad, hr⟩ := sNil_sound (hf.evx y hc) h hvc
    exact ⟨_, hv, fun w2 hw2 => by simp [execOp, hr]⟩
  | binOp op t y z yt =>
    obtain ⟨hc, vc', h, hvc⟩ := andC_inv h hvc
    obtain ⟨v, hv, hr⟩ := sBin_sound hT (xo := y) (yo := z) (hf.evx y hc.1) (hf.evx z hc.2) h hvc
    refine ⟨v, hv, fun w2 hw2 => ?_⟩
    have := hr w2
    simp only [Sem.run_bind] at this
    simp only [execOp, Sem.run_bind, this, Result.andThen_ok, Sem.run_pure]
  | unOp op t y =>
    obtain ⟨hc, vc', h, hvc⟩ := andC_inv h hvc
    obtain ⟨v, hv, hr⟩ := sUn_sound (P := P) (hf.evx y hc) h hvc
    exact ⟨v, hv, fun w2 hw2 => by simp [execOp, hr w2]⟩
  | convert s d y =>
    obtain ⟨hc, vc', h, hvc⟩ := andC_inv h hvc
    obtain ⟨v, hv, hr⟩ := sConv_sound hT (hf.evx y hc) h hvc
    exact ⟨v, hv, fun w2 hw2 => by simp [execOp, hr w2]⟩
  | makeFunc fn first caps =>
    cases fn with
    | func f =>
      simp only [sopP] at h
      split at h
      · rename_i hfirst
        simp only [Option.some.injEq, Prod.mk.injEq] at h
        obtain ⟨rfl, rfl⟩ := h
        obtain ⟨h1, h2⟩ := evs_sound hf caps.toList hvc
        have e : caps.map a.eval = (caps.toList.map a.eval).toArray := by rw [← Array.toList_map, Array.toArray_toList]
        have ef : first = #[] := by rw [← Array.toArray_toList (xs := first), hfirst]
        refine ⟨_, V.mkFn (vs := caps.map a.eval) (by rw [h1]; simp) (fun j hj => ?_), fun w2 _ => by simp [execOp, Instr.makeFunc, ef]⟩
        rw [e]
        exact h2 j (by rw [h1] at hj; exact hj)
      · simp at h
    | _ => simp [sopP] at h
  | slice t y lo hi mx =>
    obtain ⟨⟨hc, hc1, hc2⟩, vc', h, hvc⟩ := andC_inv h hvc
    obtain ⟨l1, l2⟩ := optE_sound hf hc1
    obtain ⟨m1, m2⟩ := optE_sound hf hc2
    have hm : optE fr mx = none → mx.map a.eval = none := by cases mx <;> simp [optE]
    obtain ⟨v, hv, hr⟩ := sSlice_sound hT (hf.evx y hc) l1 l2 m1 m2 hm h hvc
    exact ⟨v, hv, fun w2 hw2 => by simp [execOp, hr w2]⟩
  | fieldAddr t y f =>
    obtain ⟨hc, vc', h, hvc⟩ := andC_inv h hvc
    obtain ⟨v, hv, hr⟩ := sFieldAddr_sound hT (hf.evx y hc) h hvc
    exact ⟨v, hv, fun w2 hw2 => by simp [execOp, hr w2]⟩
  | field t y f =>
    obtain ⟨hc, vc', h, hvc⟩ := andC_inv h hvc
    obtain ⟨v, hv, hr⟩ := sField_sound hT (hf.evx y hc) h hvc
    exact ⟨v, hv, fun w2 hw2 => by simp [execOp, hr w2]⟩
  | indexAddr t y z =>
    obtain ⟨hc, vc', h, hvc⟩ := andC_inv h hvc
    obtain ⟨v, hv, hr⟩ := sIndexAddr_sound hT (hf.evx y hc.1) (hf.evx z hc.2) h hvc
    exact ⟨v, hv, fun w2 hw2 => by simp [execOp, hr w2]⟩
  | index t y z =>
    obtain ⟨hc, vc', h, hvc⟩ := andC_inv h hvc
    obtain ⟨v, hv, hr⟩ := sIndex_sound hT (hf.evx y hc.1) (hf.evx z hc.2) h hvc
    exact ⟨v, hv, fun w2 hw2 => by simp [execOp, hr w2]⟩
  | extract y j =>
    obtain ⟨hc, vc', h, hvc⟩ := andC_inv h hvc
    obtain ⟨v, hv, hr⟩ := sExtract_sound (P := P) (hf.evx y hc) h hvc
    exact ⟨v, hv, fun w2 hw2 => by simp [execOp, hr w2]⟩
  | call c =>
    obtain ⟨callee, args, tys⟩ := c
    cases callee with
    | builtin b =>
      simp only [sopP, sBuiltinP] at h
      split at h
      · rename_i y t ha hta
        obtain ⟨hc, vc', h, hvc⟩ := andC_inv h hvc
        obtain ⟨v, hv, hr⟩ := sLen_sound (ty := ty) hT (hf.evx y hc) h hvc
        rw [arr1 ha, arr1 hta]
        exact ⟨v, hv, fun w2 hw2 => by simp [execOp, resolve, invoke, builtin, hr w2]⟩
      · rename_i y z ha
        obtain ⟨hc, vc', h, hvc⟩ := andC_inv h hvc
        obtain ⟨v, hv, hr⟩ := sMM_sound (P := P) (hf.evx y hc.1) (hf.evx z hc.2) h hvc tys ty
        refine ⟨v, hv, fun w2 hw2 => ?_⟩
        rw [arr2 ha]
        simp only [execOp, resolve, invoke, Sem.run_bind, Sem.run_pure, Result.andThen_ok, List.map_toArray, List.map_cons, List.map_nil]
        exact hr _ w2
      · rename_i y z ha
        obtain ⟨hc, vc', h, hvc⟩ := andC_inv h hvc
        obtain ⟨v, hv, hr⟩ := sMM_sound (P := P) (hf.evx y hc.1) (hf.evx z hc.2) h hvc tys ty
        refine ⟨v, hv, fun w2 hw2 => ?_⟩
        rw [arr2 ha]
        simp only [execOp, resolve, invoke, Sem.run_bind, Sem.run_pure, Result.andThen_ok, List.map_toArray, List.map_cons, List.map_nil]
        exact hr _ w2
      · simp at h
    | _ => simp [sopP] at h
  | _ => simp [sopP] at h

end Go.VL
