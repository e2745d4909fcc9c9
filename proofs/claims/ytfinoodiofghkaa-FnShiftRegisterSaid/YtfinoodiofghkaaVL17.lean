/- Part 17: code; steps that change only the description (ghost steps); loops; functions. Conditions: none; lemmas. -/
import Derived.Test.YtfinoodiofghkaaVL16
set_option linter.unusedVariables false
set_option linter.unusedSimpArgs false
namespace Go.VL

variable {P : Program} {S : Nat → Prop} {φ : List (List Nat)} {H : List R} {w : World} {T : Nat → Option TI} {fr : Fr} {a : Act} {n : Nat}

/-- The verification condition of code: it stops at loops and at regions that draw. -/
def sc (P : Program) (T : Nat → Option TI) (pf : Nat → Kind) (n : Nat) : Code → Post → Fr → List R → Prop
  | .skip, Q, fr, H => Q .normal fr H
  | .label _, Q, fr, H => Q .normal fr H
  | .exit id, Q, fr, H => Q (.exit id) fr H
  | .ret, Q, fr, H => Q .ret fr H
  | .seq x y, Q, fr, H => sc P T pf n x (thenQ (fun fr H => sc P T pf n y Q fr H) Q) fr H
  | .block id c, Q, fr, H => sc P T pf n c (inBlockQ id Q) fr H
  | .cond c x y, Q, fr, H =>
    match ev fr c with
    | .d d => d.isBool ∧ (d.toBool = true → sc P T pf n x Q fr H) ∧ (d.toBool = false → sc P T pf n y Q fr H)
    | _ => False
  | .region _ ops false, Q, fr, H => sopL P T pf ops.toList ops.toList fr H (fun fr H => Q .normal fr H)
  | .region id ops true, Q, fr, H => iwp P n (.region id ops true) Q fr H
  | .loop c, Q, fr, H => iwp P n (.loop c) Q fr H
  | .scope c, Q, fr, H => iwp P n (.scope c) Q fr H
  | .goto l, Q, fr, H => iwp P n (.goto l) Q fr H
  | .refuse s, Q, fr, H => iwp P n (.refuse s) Q fr H
  | .rangeFunc f ps c1 c2, Q, fr, H => iwp P n (.rangeFunc f ps c1 c2) Q fr H

theorem sc_sound (hT : TOK P T) (pf : Nat → Kind) : ∀ (c : Code) {Q : Post} {fr : Fr} {H : List R}, sc P T pf n c Q fr H → iwp P n c Q fr H := by
  intro c
  induction c with
  | skip => exact fun h => iwp_skip h
  | label l => exact fun h => iwp_label h
  | exit id => exact fun h => iwp_exit h
  | ret => exact fun h => iwp_ret h
  | seq x y ihx ihy =>
    intro Q fr H h
    refine iwp_seq (iwp_mono (ihx h) ?_)
    intro e fr H h
    cases e <;> first | exact ihy h | exact h
  | block id c ih => exact fun h => iwp_block (ih h)
  | cond c x y ihx ihy =>
    intro Q fr H h
    simp only [sc] at h
    split at h
    · rename_i d hd
      exact iwp_cond hd h.1 (fun e => ihx (h.2.1 e)) (fun e => ihy (h.2.2 e))
    · exact h.elim
  | region id ops draw =>
    intro Q fr H h
    cases draw with
    | false => exact iwp_region (sopL_sound hT pf _ h)
    | true => exact h
  | loop c ih => exact fun h => h
  | scope c ih => exact fun h => h
  | goto l => exact fun h => h
  | refuse s => exact fun h => h
  | rangeFunc f ps c1 c2 => exact fun h => h

/-! ### Ghost steps -/
def Ghost (n : Nat) (fr : Fr) (H : List R) (fr' : Fr) (H' : List R) : Prop :=
  ∀ S φ w a, n ≤ H.length → Sim S φ H w → FrR S φ H w fr a → ∃ S' φ', Sim S' φ' H' w ∧ FrR S' φ' H' w fr' a ∧ Ext S φ w S' φ' w ∧ Tr n S φ H w S' φ' H' w

theorem Ghost.refl (n : Nat) (fr : Fr) (H : List R) : Ghost n fr H fr H := fun S φ w a hn s hf => ⟨S, φ, s, hf, Ext.refl .., Tr.refl hn⟩
theorem Ghost.trans {fr fr' fr'' : Fr} {H H' H'' : List R} (g : Ghost n fr H fr' H') (g' : Ghost n fr' H' fr'' H'') : Ghost n fr H fr'' H'' := by
  intro S φ w a hn s hf
  obtain ⟨S', φ', s', hf', he, ht⟩ := g S φ w a hn s hf
  obtain ⟨S'', φ'', s'', hf'', he', ht'⟩ := g' S' φ' w a ht.len s' hf'
  exact ⟨S'', φ'', s'', hf'', he.trans he', ht.trans ht'⟩

theorem iwp_ghost {c : Code} {Q : Post} {fr fr' : Fr} {H H' : List R} (g : Ghost n fr H fr' H') (h : iwp P n c Q fr' H') : iwp P n c Q fr H := by
  intro S φ a w Qr hn s hf hq
  obtain ⟨S', φ', s', hf', he, ht⟩ := g S φ w a hn s hf
  exact h S' φ' a w Qr ht.len s' hf' fun e a2 w2 S2 φ2 fr2 H2 b1 b2 b3 b4 b5 => hq e a2 w2 S2 φ2 fr2 H2 b1 b2 (he.trans b3) (ht.trans b4) b5

/-- Ghost steps at the end. -/
def afterG (n : Nat) (Q : Fr → List R → Prop) (fr : Fr) (H : List R) : Prop := ∃ fr' H', Ghost n fr H fr' H' ∧ Q fr' H'

theorem iwp_postG {c : Code} {Q : Post} {N : Fr → List R → Prop} (h : iwp P n c (thenQ (afterG n N) Q) fr H) : iwp P n c (thenQ N Q) fr H := by
  intro S φ a w Qr hn s hf hq
  refine h S φ a w Qr hn s hf ?_
  intro e a2 w2 S2 φ2 fr2 H2 b1 b2 b3 b4 b5
  cases e with
  | normal =>
    obtain ⟨fr', H', g, hN⟩ := b5
    obtain ⟨S', φ', s', hf', he, ht⟩ := g S2 φ2 w2 a2 b4.len b1 b2
    exact hq _ a2 w2 S' φ' fr' H' s' hf' (b3.trans he) (b4.trans ht) hN
  | exit id => exact hq _ a2 w2 S2 φ2 fr2 H2 b1 b2 b3 b4 b5
  | goto l => exact hq _ a2 w2 S2 φ2 fr2 H2 b1 b2 b3 b4 b5
  | ret => exact hq _ a2 w2 S2 φ2 fr2 H2 b1 b2 b3 b4 b5
  | panic ch => exact hq _ a2 w2 S2 φ2 fr2 H2 b1 b2 b3 b4 b5
  | outgrown => exact hq _ a2 w2 S2 φ2 fr2 H2 b1 b2 b3 b4 b5

/-- A loop: 'J' holds at the head of each round, its number goes down. -/
theorem iwp_loopG {c : Code} {Q : Post} (J : Nat → Fr → List R → Prop) (m : Nat) (h0 : afterG n (J m) fr H)
    (hr : ∀ m fr H, J m fr H → iwp P n c (thenQ (afterG n (fun fr' H' => ∃ m', m' < m ∧ J m' fr' H')) Q) fr H) : iwp P n (.loop c) Q fr H := by
  obtain ⟨fr', H', g, hJ⟩ := h0
  exact iwp_ghost g (iwp_loop J m hJ fun m fr H h => iwp_postG (hr m fr H h))

/-- Forget all but these slots. -/
def keepL (l : List Nat) (fr : Fr) : Fr := { fr with m := l.map fun t => (t, fr.get t) }

theorem look_keep (l : List Nat) (f : Nat → I) (t : Nat) : look t (l.map fun t => (t, f t)) = if t ∈ l then f t else .junk := by
  induction l with
  | nil => rfl
  | cons s r ih =>
    simp only [List.map_cons, look, ih, List.mem_cons]
    by_cases h : s = t
    · subst h; simp
    · rw [if_neg h]
      by_cases h2 : t ∈ r
      · simp [h2]
      · have : ¬ (t = s ∨ t ∈ r) := by rintro (h3 | h3); exact h h3.symm; exact h2 h3
        simp [h2, Ne.symm h]

theorem Ghost.keep (l : List Nat) (fr : Fr) (H : List R) : Ghost n fr H (keepL l fr) H := by
  intro S φ w a hn s hf
  refine ⟨S, φ, s, ⟨hf.defers, hf.size, fun t => ?_⟩, Ext.refl .., Tr.refl hn⟩
  show V S φ H w (look t (l.map fun t => (t, fr.get t))) _
  rw [look_keep]
  split
  · exact hf.val t
  · exact .junk

/-! ### Dropping roots at the end -/
mutual
def I.idlt (m : Nat) : I → Prop
  | .d _ => True
  | .agg cs => idltL m cs
  | .sl i _ _ _ _ => i < m
  | .ptr i _ => i < m
  | .eptr i _ _ _ _ _ => i < m
  | .bor i _ _ _ _ _ _ => i < m
  | .bptr i _ _ _ _ _ _ _ => i < m
  | .map i => i < m
  | .fn _ caps => idltL m caps
  | .tup vs => idltL m vs
  | .own i => i < m
  | .cond _ x => x.idlt m
  | .junk => True
def idltL (m : Nat) : List I → Prop
  | [] => True
  | x :: r => x.idlt m ∧ idltL m r
end
def idltM (m : Nat) : List (Nat × I) → Prop
  | [] => True
  | (_, x) :: r => x.idlt m ∧ idltM m r
def R.idlt (m : Nat) : R → Prop
  | .box cs => idltL m cs
  | _ => True
def idltH (m : Nat) : List R → Prop
  | [] => True
  | x :: r => x.idlt m ∧ idltH m r

theorem idltL_getD {m : Nat} : ∀ {cs : List I}, idltL m cs → ∀ j, j < cs.length → (cs.getD j .junk).idlt m
  | [], _, j, hj => by simp at hj
  | x :: r, h, 0, _ => by simpa [List.getD] using h.1
  | x :: r, h, j + 1, hj => by simpa [List.getD] using idltL_getD h.2 j (by simpa using hj)

theorem idltH_get {m : Nat} : ∀ {H : List R}, idltH m H → ∀ (i : Nat) (r : R), H[i]? = some r → r.idlt m
  | [], _, i, r, h => by simp at h
  | x :: l, hb, 0, r, h => by simp at h; subst h; exact hb.1
  | x :: l, hb, i + 1, r, h => idltH_get hb.2 i r (by simpa using h)

theorem idltM_get {m : Nat} : ∀ {l : List (Nat × I)}, idltM m l → ∀ t, (look t l).idlt m
  | [], _, t => trivial
  | (s, x) :: r, h, t => by
    simp only [look]
    split
    · exact h.1
    · exact idltM_get h.2 t

theorem take_get {α : Type} (l : List α) (m i : Nat) (hi : i < m) : (l.take m)[i]? = l[i]? := by simp [List.getElem?_take, hi]

theorem V.take {m : Nat} (hm : m ≤ H.length) (hφ : φ.length = H.length) {x : I} {v : Value} (h : V S φ H w x v) (hb : x.idlt m) : V S (φ.take m) (H.take m) w x v := by
  have hl : (H.take m).length = m := by simp; omega
  have hf : ∀ i, i < m → (φ.take m).getD i [] = φ.getD i [] := fun i hi => getD_take _ _ _ _ hi
  have hg : ∀ i, i < m → (H.take m).getD i (.dead 0) = H.getD i (.dead 0) := fun i hi => getD_take _ _ _ _ hi
  induction h with
  | d h => exact .d h
  | agg hl' h1 h ih => exact .agg hl' h1 fun j hj => ih j hj (idltL_getD hb j hj)
  | sl hi hgen h h1 =>
    simp only [I.idlt] at hb
    exact .sl (by omega) (by rw [hg _ hb]; exact hgen) (fun dp l hl' => by rw [hf _ hb]; exact h dp l (by rw [take_get _ _ _ hb] at hl'; exact hl')) h1
  | ptr hi h h1 =>
    simp only [I.idlt] at hb
    exact .ptr (by omega) (fun cs hl' => by rw [hf _ hb]; exact h cs (by rw [take_get _ _ _ hb] at hl'; exact hl')) h1
  | eptr hi hgen h h1 =>
    simp only [I.idlt] at hb
    exact .eptr (by omega) (by rw [hg _ hb]; exact hgen) (fun dp l hl' => by rw [hf _ hb]; exact h dp l (by rw [take_get _ _ _ hb] at hl'; exact hl')) h1
  | map hi h h1 =>
    simp only [I.idlt] at hb
    exact .map (by omega) (fun cs hl' => by rw [hf _ hb]; exact h cs (by rw [take_get _ _ _ hb] at hl'; exact hl')) h1
  | fn hl' h ih => exact .fn hl' fun j hj => ih j hj (idltL_getD hb j hj)
  | tup hl' h ih => exact .tup hl' fun j hj => ih j hj (idltL_getD hb j hj)
  | own hi h =>
    simp only [I.idlt] at hb
    exact .own (by omega) (fun x hl' => by rw [hf _ hb]; exact h x (by rw [take_get _ _ _ hb] at hl'; exact hl'))
  | cond h h0 ih => exact .cond (fun e => ih e hb) h0
  | junk => exact .junk

theorem RRel.take {m : Nat} (hm : m ≤ H.length) (hφ : φ.length = H.length) {fp : List Nat} {r : R} (h : RRel S φ H w fp r) (hb : r.idlt m) : RRel S (φ.take m) (H.take m) w fp r := by
  cases r with
  | box cs =>
    obtain ⟨b, arr, ty, h1, h2, h3, h4⟩ := h
    exact ⟨b, arr, ty, h1, h2, h3, fun j hj => ⟨(h4 j hj).1, (h4 j hj).2.take hm hφ (idltL_getD hb j hj)⟩⟩
  | row g k dp l => exact h
  | map es => exact h
  | val x => trivial
  | dead g => trivial

theorem Ghost.drop (m : Nat) {fr : Fr} {H : List R} (hn : n ≤ m) (hm : m ≤ H.length) (hf : idltM m fr.m) (hH : idltH m (H.take m)) : Ghost n fr H fr (H.take m) := by
  intro S φ w a hn' s hfr
  have hφ := s.len
  have hget : ∀ i, (φ.take m).getD i [] = if i < m then φ.getD i [] else [] := by
    intro i
    by_cases h : i < m
    · rw [if_pos h, getD_take _ _ _ _ h]
    · rw [if_neg h]
      simp [List.getD, List.getElem?_take, h]
  have hfoot : ∀ b, Foot (φ.take m) b → Foot φ b := by
    rintro b ⟨i, hi⟩
    rw [hget] at hi
    split at hi
    · exact ⟨i, hi⟩
    · simp at hi
  refine ⟨S, φ.take m, ⟨by simp [hφ], ?_, ?_, fun b hb => s.lt b (hfoot b hb), fun b hb => s.off b (hfoot b hb), s.slt, ?_⟩, ⟨hfr.defers, hfr.size, fun t => (hfr.val t).take hm hφ (idltM_get hf t)⟩,
    ⟨rfl, rfl, rfl, Nat.le_refl _, fun _ _ _ => rfl, fun b hb => .inl (hfoot b hb), fun _ h => h, fun _ h => .inl h⟩, ?_⟩
  · intro i
    rw [hget]
    split
    · exact s.nd i
    · simp
  · intro i j b hb hb'
    rw [hget] at hb hb'
    split at hb
    · split at hb'
      · exact s.dj i j b hb hb'
      · simp at hb'
    · simp at hb
  · intro i r hr
    have hlt : i < m := by
      have := (List.getElem?_eq_some_iff.1 hr).1
      simp at this
      omega
    rw [hget, if_pos hlt]
    have hb := idltH_get hH i r hr
    rw [take_get _ _ _ hlt] at hr
    exact (s.rel i r hr).take hm hφ hb
  · refine ⟨fun _ h => h, fun _ _ => rfl, hn', by simp; omega, fun i hi => by rw [getD_take _ _ _ _ (by omega)]; exact Nat.le_refl _, ?_, ?_, ?_, ?_⟩
    · intro i g k dp' l' hi hl'
      rw [take_get _ _ _ (by omega)] at hl'
      exact .inr ⟨dp', l', hl', getD_take _ _ _ _ (by omega), Nat.le_refl _, fun b rest arr ty e1 e2 => ⟨arr, ty, e2, Nat.le_refl _⟩⟩
    · intro i cs hi hl'
      rw [take_get _ _ _ (by omega)] at hl'
      exact ⟨cs, hl', getD_take _ _ _ _ (by omega)⟩
    · intro i cs hi hl'
      rw [take_get _ _ _ (by omega)] at hl'
      exact ⟨cs, hl', getD_take _ _ _ _ (by omega)⟩
    · intro i x hi hl'
      rw [take_get _ _ _ (by omega)] at hl'
      exact ⟨hl', getD_take _ _ _ _ (by omega), fun _ _ => rfl⟩

/-! ### A nil slice as a row of one's own -/
theorem Ghost.own (t k : Nat) (dp : Bool) {fr : Fr} {H : List R} (ht : fr.get t = .d .nil) (hlt : t < fr.n) (hk : 0 < k) : Ghost n fr H (fr.put (some t) (.sl H.length 0 k 0 0)) (H ++ [.row 0 k dp []]) := by
  intro S φ w a hn s hf
  obtain ⟨φ', a1, a2, a3, a4⟩ := new_row0 s (k := k) dp hk
  refine ⟨S, φ', a1, ?_, a3, a2.weaken hn⟩
  have hv := hf.val t
  rw [ht] at hv
  have hz := hv.fz
  have e : a.tmps.getD t undef = .slice none 0 0 := by
    generalize a.tmps.getD t undef = v at hz
    cases hz
    rfl
  have := (hf.tr a2).put (some t) a4
  have e2 : a.put (some t) (.slice none 0 0) = a := by
    simp only [Act.put]
    congr 1
    apply Array.ext_getElem?
    intro j
    rw [Array.getElem?_setIfInBounds]
    split
    · subst_vars
      have hsz := hf.size
      simp only [Array.getD_eq_getD_getElem?] at e
      split
      · rename_i h
        simp [h] at e
        simp [h, e]
      · rename_i h; simp [h]
    · rfl
  rw [e2] at this
  exact this

theorem Ghost.ownBox (i j k : Nat) (dp : Bool) {fr : Fr} {H : List R} {cs : List I} (hi : H[i]? = some (.box cs)) (hj : cs.getD j .junk = .d .nil) (hlt : j < cs.length) (hk : 0 < k) :
    Ghost n fr H fr ((H ++ [R.row 0 k dp []]).set i (.box (cs.set j (.sl H.length 0 k 0 0)))) := by
  intro S φ w a hn s hf
  obtain ⟨φ', a1, a2, a3, a4⟩ := new_row0 s (k := k) dp hk
  have hi' : (H ++ [R.row 0 k dp []])[i]? = some (.box cs) := by
    rw [List.getElem?_append_left (List.getElem?_eq_some_iff.1 hi).1]; exact hi
  obtain ⟨b, arr, ty, hfp, hb, hsz, hv⟩ := a1.rel i _ hi'
  have hv' := (hv j hlt).2
  rw [hj] at hv'
  have e : arr.getD j undef = .slice none 0 0 := by
    have hz := hv'.fz
    generalize arr.getD j undef = v at hz
    cases hz
    rfl
  obtain ⟨φ2, b1, b2, b3⟩ := set_box a1 hi' hfp hb (cs' := cs.set j (.sl H.length 0 k 0 0)) (arr' := arr) ⟨by simp [hsz], fun m hm => by
    simp only [List.length_set] at hm
    refine ⟨(hv m hm).1, ?_⟩
    by_cases hmj : m = j
    · subst hmj
      rw [e]
      have : (cs.set m (.sl H.length 0 k 0 0)).getD m .junk = .sl H.length 0 k 0 0 := by simp [List.getD, hlt]
      rw [this]
      exact a4
    · have : (cs.set j (.sl H.length 0 k 0 0)).getD m .junk = cs.getD m .junk := by simp [List.getD, List.getElem?_set, Ne.symm hmj]
      rw [this]
      exact (hv m hm).2⟩
  have hself : w.setRow b arr = w := setRow_self w b arr ty (0, 0) hb
  rw [hself] at b1 b2 b3
  refine ⟨S, φ2, b1, (hf.tr a2).tr b2, a3.trans b3, ?_⟩
  have hn2 : n ≤ (H ++ [R.row 0 k dp []]).length := by rw [List.length_append]; omega
  exact (a2.weaken hn).trans (b2.weaken hn2)

end Go.VL
