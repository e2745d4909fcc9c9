/- Part 14: copy; operations that touch memory, dispatched. Conditions: none; lemmas. -/
import Derived.Test.YtfinoodiofghkaaVL13
set_option linter.unusedVariables false
set_option linter.unusedSimpArgs false
namespace Go.VL

variable {P : Program} {S : Nat → Prop} {φ : List (List Nat)} {H : List R} {w : World} {T : Nat → Option TI} {fr : Fr} {a : Act}

def spliceD (l : List D) (lo : Nat) (xs : List D) : List D := l.take lo ++ xs ++ l.drop (lo + xs.length)

def sCopy (T : Nat → Option TI) (H : List R) (t t' : Nat) (d x : I) : Option (Prop × I × List R) :=
  match T t with
  | some ti =>
    match ti.ty with
    | .slice e =>
      match T e with
      | some ei =>
        match srcD H ei.size x, d with
        | some (vc, xs), .sl i g k lo n =>
          match H[i]? with
          | some (.row g' k' dp l) => some (vc ∧ g = g' ∧ k = k' ∧ k = ei.size ∧ ei.size = 1 ∧ xs.length ≤ n ∧ lo + n ≤ l.length ∧ xs.all D.scalar = true ∧ l.all D.scalar = true,
              .d (.int .i64 (xs.length : Nat)), H.set i (.row g' k' dp (spliceD l lo xs)))
          | _ => none
        | _, _ => none
      | none => none
    | _ => none
  | none => none

theorem scalar_cells {x : D} (h : x.scalar = true) : x.cells = [x] := by cases x <;> first | rfl | simp [D.scalar] at h

theorem flat1 {l : List D} (h : l.all D.scalar = true) : flat l = l ∧ (∀ x ∈ l, x.cells.length = 1) ∧ scalars l = true := by
  induction l with
  | nil => exact ⟨rfl, by simp, rfl⟩
  | cons x r ih =>
    simp only [List.all_cons, Bool.and_eq_true] at h
    obtain ⟨i1, i2, i3⟩ := ih h.2
    have hx := scalar_cells h.1
    refine ⟨?_, ?_, ?_⟩
    · simp only [flat, List.flatMap_cons, hx] at i1 ⊢
      rw [i1]; rfl
    · intro y hy
      rcases List.mem_cons.1 hy with rfl | hy
      · rw [hx]; rfl
      · exact i2 y hy
    · simp [scalars, hx, h.1, i3]

theorem run_copy0 (t t' ty e : TypeId) {ti ei : TI} (ht : TIOK P t ti) (he : TIOK P e ei) (hy : ti.ty = .slice e) (base : Option Addr) (n cap : Nat) (a : Option Addr) (c : Nat) (w : World) :
    (Builtin.copy_ #[t, t'] ty #[.slice base n cap, .slice a 0 c]).run P w = .ok (goInt 0) w := by
  have hu := ht.und_slice hy
  have hf : (Builtin.firstCells ei.size 0 (.slice a 0 c)).run P w = .ok #[] w := by
    cases a <;> simp [Builtin.firstCells, loadCells, loadCellsFrom]
  simp [Builtin.copy_, Sem.run_bind, run_underlying hu, Result.andThen_ok, he.run_sizeOf, Builtin.lenOf, hf]
  cases base <;> simp [storeCells]

theorem getD_splice (l : List D) (lo : Nat) (xs : List D) (h : lo + xs.length ≤ l.length) (j : Nat) : (spliceD l lo xs).getD j .nil = if lo ≤ j ∧ j < lo + xs.length then xs.getD (j - lo) .nil else l.getD j .nil := by
  have hm : min lo l.length = lo := by omega
  simp only [spliceD, List.getD]
  by_cases h1 : j < lo
  · rw [if_neg (by omega), List.append_assoc, List.getElem?_append_left (by simp; omega)]
    simp [h1]
  · by_cases h2 : j < lo + xs.length
    · rw [if_pos (by omega), List.getElem?_append_left (by simp; omega), List.getElem?_append_right (by simp; omega)]
      simp [hm]
    · rw [if_neg (by omega), List.getElem?_append_right (by simp; omega)]
      simp only [List.length_append, List.length_take, hm, List.getElem?_drop]
      congr 2
      omega

theorem sCopy_sound (hT : TOK P T) (s : Sim S φ H w) {t t' ty : Nat} {d x : I} {vd vx : Value} (hd : V S φ H w d vd) (hx : V S φ H w x vx) {vc : Prop} {y : I} {H' : List R}
    (h : sCopy T H t t' d x = some (vc, y, H')) (hvc : vc) :
    StepOK S φ H w ((do pure (.value (← Builtin.copy_ #[t, t'] ty #[vd, vx])) : Sem Next).run P w) y H' := by
  unfold sCopy at h
  split at h
  · rename_i ti hti
    have ht := hT _ _ hti
    split at h
    · rename_i e hy
      split at h
      · rename_i ei hei
        have he := hT _ _ hei
        have hu := ht.und_slice hy
        split at h
        · rename_i vcs xs i g k lo n hsrc
          split at h
          · rename_i g' k' dp l hi
            simp only [Option.some.injEq, Prod.mk.injEq] at h
            obtain ⟨rfl, rfl, rfl⟩ := h
            obtain ⟨hvcs, rfl, rfl, hke, hk1, hxn, hlo, hsx, hsl⟩ := hvc
            have hs := srcD_sound s hx hsrc hvcs
            obtain ⟨a, cap, rfl, hne⟩ := hs.ex
            obtain ⟨fx1, fx2, fx3⟩ := flat1 hsx
            obtain ⟨fl1, fl2, fl3⟩ := flat1 hsl
            have hk1' : k = 1 := by omega
            have hlim : InK .i64 (xs.length : Int) := inK_len hs.lim
            have hlen' : (spliceD l lo xs).length = l.length := by simp [spliceD]; omega
            have hall : (spliceD l lo xs).all D.scalar = true := by
              simp only [List.all_eq_true] at hsx hsl ⊢
              intro z hz
              simp only [spliceD, List.mem_append] at hz
              rcases hz with (hz | hz) | hz
              · exact hsl z (List.mem_of_mem_take hz)
              · exact hsx z hz
              · exact hsl z (List.mem_of_mem_drop hz)
            obtain ⟨fs1, fs2, fs3⟩ := flat1 hall
            cases hd with
            | sl hlt hg hdr hone =>
              obtain ⟨hslr, hle⟩ := hdr dp l hi
              by_cases hx0 : xs = []
              · subst hx0
                have hself : H.set i (.row g k dp (spliceD l lo [])) = H := by
                  have : spliceD l lo [] = l := by simp [spliceD]
                  rw [this]
                  apply List.ext_getElem?
                  intro j
                  rw [List.getElem?_set]
                  split
                  · subst_vars; simp [hlt, ← hi]
                  · rfl
                have hvd : ∃ base n cap', vd = .slice base n cap' := by
                  rcases hslr with ⟨_, _, _, rfl⟩ | ⟨b, rest, cap', arr, ty', a', hfp, rfl, _⟩
                  · exact ⟨_, _, _, rfl⟩
                  · exact ⟨_, _, _, rfl⟩
                obtain ⟨base, n', cap', rfl⟩ := hvd
                rw [hself]
                refine ⟨_, w, φ, .inl ?_, s, Tr.refl (Nat.le_refl _), Ext.refl .., .d (.int hlim)⟩
                simp [run_copy0 t t' ty e ht he hy, goInt]
              · obtain ⟨b, off, rfl, news, hl, hnews, hz⟩ := hne hx0
                have hpos := List.length_pos_iff.2 hx0
                rw [← hke, hk1', Nat.mul_one] at hl
                rw [← hke, hk1', Nat.mul_one, fx1] at hz
                rcases hslr with ⟨_, _, hn0, _⟩ | ⟨b', rest, cap', arr, ty', a', hfp, rfl, hn, hcm, hlim2, hb, hfit⟩
                · omega
                · obtain ⟨rfl, hfit'⟩ := hfit (.inl (by omega))
                  obtain ⟨hk, hel, ho1, hlim', hrel⟩ := s.rel i _ hi
                  have hrow : RowRel S w dp (flat l) arr rest ∧ l.length * k ≤ arr.size := by
                    rcases hrel with ⟨e1, _⟩ | ⟨b2, rest2, arr2, ty2, e1, e2, e3, e4⟩
                    · rw [hfp] at e1; simp at e1
                    · rw [hfp] at e1
                      simp at e1
                      obtain ⟨rfl, rfl⟩ := e1
                      rw [hb] at e2
                      simp at e2
                      obtain ⟨rfl, rfl⟩ := e2
                      exact ⟨e4, e3⟩
                  subst hk1'
                  simp only [Nat.mul_one] at *
                  have hone' : ∀ u ∈ news, u.oneCell' = true := by
                    intro u hu
                    obtain ⟨j, hj, rfl⟩ := List.getElem_of_mem hu
                    rw [getElem_eq_getD _ _ _ undef]
                    refine (hz j (by omega)).one (hs.one _ ?_)
                    rw [fx1]
                    exact getD_mem (by omega)
                  obtain ⟨i0, d0, i1, i2, i3, i4, i5, i6⟩ := he.ex
                  have hr := run_copy_row (P := P) w t t' ty e b' lo n cap' ⟨b, off, none⟩ xs.length cap arr ty' news hu (by simp [i1, i2, hk1]) hb (by rw [hl]; exact (Nat.min_eq_left hxn).symm) hnews (by omega) hone'
                  have hst : (arr.toList.take lo ++ news ++ arr.toList.drop (lo + news.length)).toArray = stored' arr lo news := rfl
                  rw [hst] at hr
                  obtain ⟨φ', a1, a2, a3⟩ := set_row s hi hfp hb (arr' := stored' arr lo news) (l' := spliceD l lo xs) (stored'_size _ _ _ (by omega)) fs2 (by
                    intro c hc
                    rw [fs1] at hc
                    simp only [List.all_eq_true] at hall
                    have := hall c hc
                    cases c <;> first | rfl | simp [D.scalar] at this) hlen' (by
                    rw [fs1]
                    refine rowRel_set (l := l) (by have := hrow.1; rw [fl1] at this; exact this) hlen' ?_
                    intro j hj
                    rw [getD_splice l lo xs (by omega), stored'_getD _ _ _ (by omega), hl]
                    by_cases hin : lo ≤ j ∧ j < lo + xs.length
                    · rw [if_pos hin, if_pos hin]
                      simp only [List.all_eq_true] at hsx hsl
                      exact .inr ⟨fun _ => ⟨hsl _ (getD_mem hj), hsx _ (getD_mem (by omega))⟩, hz _ (by omega)⟩
                    · rw [if_neg hin, if_neg hin]
                      exact .inl ⟨rfl, rfl⟩)
                  refine ⟨_, _, φ', .inl ?_, a1, a2, a3, .d (.int hlim)⟩
                  simp [hr, goInt, hl]
          · simp at h
        · simp at h
      · simp at h
    · simp at h
  · simp at h

/-! ### Dispatch -/
def andCI (c : Prop) : Option (Prop × I × List R) → Option (Prop × I × List R)
  | some (vc, x, H') => some (c ∧ vc, x, H')
  | none => none

def sopI (T : Nat → Option TI) (fr : Fr) (H : List R) : Op → Option (Prop × I × List R)
  | .box e x => andCI (evc fr x) (sBox T H e (evx fr x))
  | .alloc e => sAlloc T H e
  | .buildSlice t len parts => andCI (evcParts fr parts.toList) (sLit T H t len (evParts fr parts.toList))
  | .makeSlice t l c => andCI (evc fr l ∧ evc fr c) (sMake T H t (evx fr l) (evx fr c))
  | .store t p x =>
    match sStore T H t (evx fr p) (evx fr x) with
    | some (vc, H') => some ((evc fr p ∧ evc fr x) ∧ vc, .junk, H')
    | none => none
  | .call { callee := .builtin .append, args, argTypes } =>
    match args.toList, argTypes.toList with
    | [d, x], [t, t'] => andCI (evc fr d ∧ evc fr x) (sAppend T H t t' (evx fr d) (evx fr x))
    | _, _ => none
  | .call { callee := .builtin .copy, args, argTypes } =>
    match args.toList, argTypes.toList with
    | [d, x], [t, t'] => andCI (evc fr d ∧ evc fr x) (sCopy T H t t' (evx fr d) (evx fr x))
    | _, _ => none
  | _ => none

theorem andCI_inv {c : Prop} {o : Option (Prop × I × List R)} {vc : Prop} {x : I} {H' : List R} (h : andCI c o = some (vc, x, H')) (hvc : vc) : c ∧ ∃ vc', o = some (vc', x, H') ∧ vc' := by
  cases o with
  | none => simp [andCI] at h
  | some p =>
    obtain ⟨vc', x', H''⟩ := p
    simp only [andCI, Option.some.injEq, Prod.mk.injEq] at h
    obtain ⟨rfl, rfl, rfl⟩ := h
    exact ⟨hvc.1, vc', rfl, hvc.2⟩

set_option maxHeartbeats 1000000 in
theorem sopI_sound (hT : TOK P T) (s : Sim S φ H w) (hf : FrR S φ H w fr a) {o : Oper} {vc : Prop} {x : I} {H' : List R} (h : sopI T fr H o.op = some (vc, x, H')) (hvc : vc) :
    StepOK S φ H w ((execOp a.eval o).run P w) x H' := by
  obtain ⟨dst, op, ty, pos, after, guard⟩ := o
  simp only at h
  cases op with
  | box e y =>
    obtain ⟨hc, vc', h, hvc⟩ := andCI_inv h hvc
    exact sBox_sound s (hf.evx y hc) h hvc
  | alloc e => exact sAlloc_sound hT s h hvc
  | buildSlice t len parts =>
    obtain ⟨hc, vc', h, hvc⟩ := andCI_inv h hvc
    obtain ⟨h1, h2⟩ := evParts_sound hf parts.toList hc
    have := sLit_sound hT s h1 h2 h hvc
    have e : (parts.map fun (i, x) => (i, a.eval x)) = (parts.toList.map fun (i, x) => (i, a.eval x)).toArray := by
      rw [← Array.toList_map, Array.toArray_toList]
    rw [← e] at this
    exact this
  | makeSlice t l c =>
    obtain ⟨hc, vc', h, hvc⟩ := andCI_inv h hvc
    exact sMake_sound hT s (hf.evx l hc.1) (hf.evx c hc.2) h hvc
  | store t p y =>
    simp only [sopI] at h
    split at h
    · rename_i vc' H'' hst
      simp only [Option.some.injEq, Prod.mk.injEq] at h
      obtain ⟨rfl, rfl, rfl⟩ := h
      exact sStore_sound hT s (hf.evx p hvc.1.1) (hf.evx y hvc.1.2) hst hvc.2
    · simp at h
  | call c =>
    obtain ⟨callee, args, tys⟩ := c
    cases callee with
    | builtin b =>
      cases b with
      | append =>
        simp only [sopI] at h
        split at h
        · rename_i d y t t' ha hta
          obtain ⟨hc, vc', h, hvc⟩ := andCI_inv h hvc
          have := sAppend_sound (ty := ty) hT s (hf.evx d hc.1) (hf.evx y hc.2) h hvc
          rw [arr2 ha, arr2 hta]
          simpa [execOp, resolve, invoke, builtin] using this
        · simp at h
      | copy =>
        simp only [sopI] at h
        split at h
        · rename_i d y t t' ha hta
          obtain ⟨hc, vc', h, hvc⟩ := andCI_inv h hvc
          have := sCopy_sound (ty := ty) hT s (hf.evx d hc.1) (hf.evx y hc.2) h hvc
          rw [arr2 ha, arr2 hta]
          simpa [execOp, resolve, invoke, builtin] using this
        · simp at h
      | _ => simp [sopI] at h
    | _ => simp [sopI] at h
  | _ => simp [sopI] at h

end Go.VL
