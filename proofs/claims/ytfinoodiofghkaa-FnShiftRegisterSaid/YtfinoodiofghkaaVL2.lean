/- Part 2: how symbolic values and roots stand through a change of the world. Conditions: none; lemmas. -/
import Derived.Test.YtfinoodiofghkaaVL1
set_option linter.unusedVariables false
set_option linter.unusedSimpArgs false
namespace Go.VL

/-- What a change must keep of the first 'n' roots for symbolic values to stay related. -/
structure Tr (n : Nat) (S : Nat → Prop) (φ : List (List Nat)) (H : List R) (w : World) (S' : Nat → Prop) (φ' : List (List Nat)) (H' : List R) (w' : World) : Prop where
  sub : ∀ b, S b → S' b
  keep : ∀ b, S b → w'.heap[b]? = w.heap[b]?
  le : n ≤ H.length
  len : n ≤ H'.length
  gen : ∀ i, i < n → (H.getD i (.dead 0)).gen ≤ (H'.getD i (.dead 0)).gen
  row : ∀ i g k dp' l', i < n → H'[i]? = some (.row g k dp' l') → (H.getD i (.dead 0)).gen < g ∨
    ∃ dp l, H[i]? = some (.row g k dp l) ∧ φ'.getD i [] = φ.getD i [] ∧ l.length ≤ l'.length ∧
      ∀ b rest arr ty, φ.getD i [] = b :: rest → w.heap[b]? = some (.cells arr ty (0, 0)) → ∃ arr' ty', w'.heap[b]? = some (.cells arr' ty' (0, 0)) ∧ arr.size ≤ arr'.size
  box : ∀ i cs', i < n → H'[i]? = some (.box cs') → ∃ cs, H[i]? = some (.box cs) ∧ φ'.getD i [] = φ.getD i []
  map : ∀ i es', i < n → H'[i]? = some (.map es') → ∃ es, H[i]? = some (.map es) ∧ φ'.getD i [] = φ.getD i []
  val : ∀ i x, i < n → H'[i]? = some (.val x) → H[i]? = some (.val x) ∧ φ'.getD i [] = φ.getD i [] ∧ ∀ b ∈ φ.getD i [], w'.heap[b]? = w.heap[b]?

variable {S S' : Nat → Prop} {φ φ' : List (List Nat)} {H H' : List R} {w w' : World}

theorem V.tr (t : Tr H.length S φ H w S' φ' H' w') {x : I} {v : Value} (h : V S φ H w x v) : V S' φ' H' w' x v := by
  induction h with
  | d h => exact .d (h.mono t.sub t.keep)
  | agg hl h1 _ ih => exact .agg hl h1 ih
  | @sl i g k lo n v hi hg h h1 =>
    refine .sl (Nat.lt_of_lt_of_le hi t.len) (Nat.le_trans hg (t.gen i hi)) ?_ h1
    intro dp' l' hl'
    rcases t.row i g k dp' l' hi hl' with hlt | ⟨dp, l, hl, hfp, hle, hb⟩
    · omega
    · obtain ⟨hr, hle'⟩ := h dp l hl
      refine ⟨?_, by omega⟩
      rw [hfp]
      rcases hr with hr | ⟨b, rest, cap, arr, ty, a, e1, e2, hn, hc, hlim, hbk, hfit⟩
      · exact .inl hr
      · obtain ⟨arr', ty', hb', hsz⟩ := hb b rest arr ty e1 hbk
        exact .inr ⟨b, rest, cap, arr', ty', a, e1, e2, hn, hc, hlim, hb', fun hh => ⟨(hfit hh).1, Nat.le_trans (hfit hh).2 hsz⟩⟩
  | @ptr i off v hi h h1 =>
    refine .ptr (Nat.lt_of_lt_of_le hi t.len) ?_ h1
    intro cs' hcs'
    obtain ⟨cs, hcs, hfp⟩ := t.box i cs' hi hcs'
    rw [hfp]
    exact h cs hcs
  | @eptr i g k idx off z v hi hg h h1 =>
    refine .eptr (Nat.lt_of_lt_of_le hi t.len) (Nat.le_trans hg (t.gen i hi)) ?_ h1
    intro dp' l' hl'
    rcases t.row i g k dp' l' hi hl' with hlt | ⟨dp, l, hl, hfp, hle, hb⟩
    · omega
    · rw [hfp]
      exact h dp l hl
  | @map i v hi h h1 =>
    refine .map (Nat.lt_of_lt_of_le hi t.len) ?_ h1
    intro es' hes'
    obtain ⟨es, hes, hfp⟩ := t.map i es' hi hes'
    rw [hfp]
    exact h es hes
  | fn hl _ ih => exact .fn hl ih
  | tup hl _ ih => exact .tup hl ih
  | @own i v hi h =>
    refine .own (Nat.lt_of_lt_of_le hi t.len) ?_
    intro x hx
    obtain ⟨hx', hfp, hb⟩ := t.val i x hi hx
    rw [hfp]
    exact (h x hx').keep hb
  | cond _ h0 ih => exact .cond ih h0
  | junk => exact .junk

theorem RowRel.keep {dp : Bool} {cells : List D} {arr : Array Value} {rest : List Nat} (hsub : ∀ b, S b → S' b) (hk : ∀ b, S b → w'.heap[b]? = w.heap[b]?)
    (hr : ∀ b ∈ rest, w'.heap[b]? = w.heap[b]?) (h : RowRel S w dp cells arr rest) : RowRel S' w' dp cells arr rest := by
  cases dp with
  | false => exact ⟨h.1, fun j hj => (h.2 j hj).mono hsub hk⟩
  | true =>
    obtain ⟨F, rfl, hF⟩ := h
    exact ⟨F, rfl, fun j hj => (hF j hj).keep fun b hb => hr b (mem_flatMap_range hj hb)⟩

theorem RRel.tr (t : Tr H.length S φ H w S' φ' H' w') {fp : List Nat} {r : R} (hb : ∀ b ∈ fp, w'.heap[b]? = w.heap[b]?) (h : RRel S φ H w fp r) : RRel S' φ' H' w' fp r := by
  cases r with
  | box cs =>
    obtain ⟨b, arr, ty, rfl, hh, hs, hv⟩ := h
    exact ⟨b, arr, ty, rfl, (hb b (by simp)).trans hh, hs, fun j hj => ⟨(hv j hj).1, (hv j hj).2.tr t⟩⟩
  | row g k dp l =>
    obtain ⟨hk, he, h1, hlim, h⟩ := h
    refine ⟨hk, he, h1, hlim, ?_⟩
    rcases h with h | ⟨b, rest, arr, ty, rfl, hh, hs, hr⟩
    · exact .inl h
    · exact .inr ⟨b, rest, arr, ty, rfl, (hb b (by simp)).trans hh, hs, hr.keep t.sub t.keep fun b hm => hb b (by simp [hm])⟩
  | map es =>
    obtain ⟨b, ents, clock, rfl, hh, hm⟩ := h
    exact ⟨b, ents, clock, rfl, (hb b (by simp)).trans hh, hm⟩
  | val x => trivial
  | dead g => trivial

theorem FrR.tr (t : Tr H.length S φ H w S' φ' H' w') {fr : Fr} {a : Act} (h : FrR S φ H w fr a) : FrR S' φ' H' w' fr a :=
  ⟨h.defers, h.size, fun i => (h.val i).tr t⟩

theorem getD_set (l : List (List Nat)) (i j : Nat) (x : List Nat) : (l.set i x).getD j [] = if i = j ∧ j < l.length then x else l.getD j [] := by
  simp only [List.getD, List.getElem?_set]
  by_cases h : i = j
  · subst h
    by_cases h2 : i < l.length <;> simp [h2]
  · simp [h]

theorem getD_push (l : List (List Nat)) (j : Nat) (x : List Nat) : (l ++ [x]).getD j [] = if j = l.length then x else l.getD j [] := by
  simp only [List.getD, List.getElem?_append]
  by_cases h : j < l.length
  · simp [h, Nat.ne_of_lt h]
  · by_cases h2 : j = l.length
    · subst h2; simp
    · have : l.length < j := by omega
      simp [h2, List.getElem?_eq_none (Nat.le_of_not_lt h), show ([x] : List (List Nat))[j - l.length]? = none from by simp; omega]

theorem rgetD_set (l : List R) (i j : Nat) (x d : R) (h : i ≠ j) : (l.set i x).getD j d = l.getD j d := by
  simp [List.getD, List.getElem?_set, h]

/-- Blocks that no root owns and the frozen ones: a change inside one root's footprint keeps them. -/
structure Upd (φ : List (List Nat)) (w : World) (i : Nat) (fp' : List Nat) (w' : World) : Prop where
  os : w'.os = w.os
  tape : w'.tape = w.tape
  output : w'.output = w.output
  size : w.heap.size ≤ w'.heap.size
  keep : ∀ b, b < w.heap.size → b ∉ φ.getD i [] → w'.heap[b]? = w.heap[b]?
  nd : fp'.Nodup
  new : ∀ b ∈ fp', (b ∈ φ.getD i [] ∨ w.heap.size ≤ b) ∧ b < w'.heap.size

/-- Root i gets a new content. -/
theorem Sim.update (s : Sim S φ H w) {i : Nat} (hi : i < H.length) {r' : R} {fp' : List Nat} (u : Upd φ w i fp' w')
    (hgen : (H.getD i (.dead 0)).gen ≤ r'.gen)
    (hrow : ∀ g k dp' l', r' = .row g k dp' l' → (H.getD i (.dead 0)).gen < g ∨ ∃ dp l, H[i]? = some (.row g k dp l) ∧ fp' = φ.getD i [] ∧ l.length ≤ l'.length ∧
      ∀ b rest arr ty, φ.getD i [] = b :: rest → w.heap[b]? = some (.cells arr ty (0, 0)) → ∃ arr' ty', w'.heap[b]? = some (.cells arr' ty' (0, 0)) ∧ arr.size ≤ arr'.size)
    (hbox : ∀ cs', r' = .box cs' → ∃ cs, H[i]? = some (.box cs) ∧ fp' = φ.getD i [])
    (hmap : ∀ es', r' = .map es' → ∃ es, H[i]? = some (.map es) ∧ fp' = φ.getD i [])
    (hval : ∀ x, r' ≠ .val x)
    (hr : Tr H.length S φ H w S (φ.set i fp') (H.set i r') w' → RRel S (φ.set i fp') (H.set i r') w' fp' r') :
    Sim S (φ.set i fp') (H.set i r') w' ∧ Tr H.length S φ H w S (φ.set i fp') (H.set i r') w' ∧ Ext S φ w S (φ.set i fp') w' := by
  have hφ : i < φ.length := by rw [s.len]; exact hi
  have hkeepS : ∀ b, S b → w'.heap[b]? = w.heap[b]? := fun b hb => u.keep b (s.slt b hb) fun hm => s.off b ⟨i, hm⟩ hb
  have hother : ∀ j, j ≠ i → ∀ b ∈ φ.getD j [], w'.heap[b]? = w.heap[b]? := fun j hj b hb =>
    u.keep b (s.lt b ⟨j, hb⟩) fun hm => hj (s.dj j i b hb hm)
  have hget : ∀ j, (φ.set i fp').getD j [] = if j = i then fp' else φ.getD j [] := by
    intro j
    rw [getD_set]
    by_cases h : j = i
    · subst h; simp [hφ]
    · simp [h, Ne.symm h]
  have hH : ∀ j, j ≠ i → (H.set i r')[j]? = H[j]? := fun j hj => by simp [List.getElem?_set, Ne.symm hj]
  have hHi : (H.set i r')[i]? = some r' := by simp [hi]
  have htr : Tr H.length S φ H w S (φ.set i fp') (H.set i r') w' := by
    refine ⟨fun _ h => h, hkeepS, Nat.le_refl _, by simp, ?_, ?_, ?_, ?_, ?_⟩
    · intro j hj
      by_cases h : j = i
      · subst h
        simpa [List.getD, hi] using hgen
      · rw [rgetD_set _ _ _ _ _ (Ne.symm h)]
        exact Nat.le_refl _
    · intro j g k dp' l' hj hl'
      by_cases h : j = i
      · subst h
        rw [hHi] at hl'
        have := hrow g k dp' l' (by simpa using hl')
        rw [hget, if_pos rfl]
        exact this
      · rw [hH j h] at hl'
        right
        refine ⟨dp', l', hl', by rw [hget, if_neg h], Nat.le_refl _, fun b rest arr ty e1 e2 => ⟨arr, ty, ?_, Nat.le_refl _⟩⟩
        rw [hother j h b (by rw [e1]; simp)]
        exact e2
    · intro j cs' hj hl'
      by_cases h : j = i
      · subst h
        rw [hHi] at hl'
        rw [hget, if_pos rfl]
        exact hbox cs' (by simpa using hl')
      · rw [hH j h] at hl'
        exact ⟨cs', hl', by rw [hget, if_neg h]⟩
    · intro j es' hj hl'
      by_cases h : j = i
      · subst h
        rw [hHi] at hl'
        rw [hget, if_pos rfl]
        exact hmap es' (by simpa using hl')
      · rw [hH j h] at hl'
        exact ⟨es', hl', by rw [hget, if_neg h]⟩
    · intro j x hj hl'
      by_cases h : j = i
      · subst h
        rw [hHi] at hl'
        exact absurd (by simpa using hl') (hval x)
      · rw [hH j h] at hl'
        exact ⟨hl', by rw [hget, if_neg h], hother j h⟩
  have hfoot : ∀ b, Foot (φ.set i fp') b → Foot φ b ∨ w.heap.size ≤ b := by
    rintro b ⟨j, hj⟩
    rw [hget] at hj
    by_cases h : j = i
    · rw [if_pos h] at hj
      rcases (u.new b hj).1 with h1 | h1
      · exact .inl ⟨i, h1⟩
      · exact .inr h1
    · rw [if_neg h] at hj
      exact .inl ⟨j, hj⟩
  refine ⟨⟨by simp [s.len], ?_, ?_, ?_, ?_, fun b hb => Nat.lt_of_lt_of_le (s.slt b hb) u.size, ?_⟩, htr, ⟨u.os, u.tape, u.output, u.size, fun b hb hn => u.keep b hb fun hm => hn ⟨i, hm⟩, hfoot, fun _ h => h, fun b hb => .inl hb⟩⟩
  · intro j
    rw [hget]
    split
    · exact u.nd
    · exact s.nd j
  · intro j j' b hb hb'
    rw [hget] at hb hb'
    by_cases h : j = i <;> by_cases h' : j' = i
    · rw [h, h']
    · rw [if_pos h] at hb
      rw [if_neg h'] at hb'
      rcases (u.new b hb).1 with h1 | h1
      · rw [h]; exact s.dj i j' b h1 hb'
      · have := s.lt b ⟨j', hb'⟩; omega
    · rw [if_neg h] at hb
      rw [if_pos h'] at hb'
      rcases (u.new b hb').1 with h1 | h1
      · rw [h']; exact s.dj j i b hb h1
      · have := s.lt b ⟨j, hb⟩; omega
    · rw [if_neg h] at hb
      rw [if_neg h'] at hb'
      exact s.dj j j' b hb hb'
  · rintro b ⟨j, hj⟩
    rw [hget] at hj
    by_cases h : j = i
    · rw [if_pos h] at hj
      exact (u.new b hj).2
    · rw [if_neg h] at hj
      exact Nat.lt_of_lt_of_le (s.lt b ⟨j, hj⟩) u.size
  · intro b hb hS
    rcases hfoot b hb with h1 | h1
    · exact s.off b h1 hS
    · have := s.slt b hS; omega
  · intro j r hj
    rw [hget]
    by_cases h : j = i
    · subst h
      rw [hHi] at hj
      obtain rfl : r' = r := by simpa using hj
      rw [if_pos rfl]
      exact hr htr
    · rw [hH j h] at hj
      rw [if_neg h]
      exact (s.rel j r hj).tr htr (hother j h)

/-- A new root at the end. -/
theorem Sim.push (s : Sim S φ H w) {r' : R} {fp' : List Nat} (u : Upd φ w H.length fp' w')
    (hr : Tr H.length S φ H w S (φ ++ [fp']) (H ++ [r']) w' → RRel S (φ ++ [fp']) (H ++ [r']) w' fp' r') :
    Sim S (φ ++ [fp']) (H ++ [r']) w' ∧ Tr H.length S φ H w S (φ ++ [fp']) (H ++ [r']) w' ∧ Ext S φ w S (φ ++ [fp']) w' := by
  have h0 : φ.getD H.length [] = [] := by simp [List.getD, ← s.len]
  have hnew : ∀ b ∈ fp', w.heap.size ≤ b := fun b hb => by
    rcases (u.new b hb).1 with h1 | h1
    · rw [h0] at h1; simp at h1
    · exact h1
  have hkeep : ∀ b, b < w.heap.size → w'.heap[b]? = w.heap[b]? := fun b hb => u.keep b hb (by rw [h0]; simp)
  have hget : ∀ j, (φ ++ [fp']).getD j [] = if j = H.length then fp' else φ.getD j [] := by
    intro j
    rw [getD_push, s.len]
  have hH : ∀ j, j < H.length → (H ++ [r'])[j]? = H[j]? := fun j hj => by simp [List.getElem?_append, hj]
  have htr : Tr H.length S φ H w S (φ ++ [fp']) (H ++ [r']) w' := by
    refine ⟨fun _ h => h, fun b hb => hkeep b (s.slt b hb), Nat.le_refl _, by simp, ?_, ?_, ?_, ?_, ?_⟩
    · intro j hj
      simp only [List.getD, hH j hj]
      exact Nat.le_refl _
    · intro j g k dp' l' hj hl'
      rw [hH j hj] at hl'
      right
      refine ⟨dp', l', hl', by rw [hget, if_neg (Nat.ne_of_lt hj)], Nat.le_refl _, fun b rest arr ty e1 e2 => ⟨arr, ty, ?_, Nat.le_refl _⟩⟩
      rw [hkeep b (s.lt b ⟨j, by rw [e1]; simp⟩)]
      exact e2
    · intro j cs' hj hl'
      rw [hH j hj] at hl'
      exact ⟨cs', hl', by rw [hget, if_neg (Nat.ne_of_lt hj)]⟩
    · intro j cs' hj hl'
      rw [hH j hj] at hl'
      exact ⟨cs', hl', by rw [hget, if_neg (Nat.ne_of_lt hj)]⟩
    · intro j x hj hl'
      rw [hH j hj] at hl'
      exact ⟨hl', by rw [hget, if_neg (Nat.ne_of_lt hj)], fun b hb => hkeep b (s.lt b ⟨j, hb⟩)⟩
  have hfoot : ∀ b, Foot (φ ++ [fp']) b → Foot φ b ∨ w.heap.size ≤ b := by
    rintro b ⟨j, hj⟩
    rw [hget] at hj
    by_cases h : j = H.length
    · rw [if_pos h] at hj
      exact .inr (hnew b hj)
    · rw [if_neg h] at hj
      exact .inl ⟨j, hj⟩
  refine ⟨⟨by simp [s.len], ?_, ?_, ?_, ?_, fun b hb => Nat.lt_of_lt_of_le (s.slt b hb) u.size, ?_⟩, htr, ⟨u.os, u.tape, u.output, u.size, fun b hb hn => hkeep b hb, hfoot, fun _ h => h, fun b hb => .inl hb⟩⟩
  · intro j
    rw [hget]
    split
    · exact u.nd
    · exact s.nd j
  · intro j j' b hb hb'
    rw [hget] at hb hb'
    by_cases h : j = H.length <;> by_cases h' : j' = H.length
    · rw [h, h']
    · rw [if_pos h] at hb
      rw [if_neg h'] at hb'
      have := s.lt b ⟨j', hb'⟩
      have := hnew b hb
      omega
    · rw [if_neg h] at hb
      rw [if_pos h'] at hb'
      have := s.lt b ⟨j, hb⟩
      have := hnew b hb'
      omega
    · rw [if_neg h] at hb
      rw [if_neg h'] at hb'
      exact s.dj j j' b hb hb'
  · rintro b ⟨j, hj⟩
    rw [hget] at hj
    by_cases h : j = H.length
    · rw [if_pos h] at hj
      exact (u.new b hj).2
    · rw [if_neg h] at hj
      exact Nat.lt_of_lt_of_le (s.lt b ⟨j, hj⟩) u.size
  · intro b hb hS
    rcases hfoot b hb with h1 | h1
    · exact s.off b h1 hS
    · have := s.slt b hS; omega
  · intro j r hj
    rw [hget]
    by_cases h : j = H.length
    · subst h
      have : r' = r := by simpa using hj
      subst this
      rw [if_pos rfl]
      exact hr htr
    · have hlt : j < H.length := by
        have : j < (H ++ [r']).length := (List.getElem?_eq_some_iff.1 hj).1
        simp at this
        omega
      rw [hH j hlt] at hj
      rw [if_neg h]
      exact (s.rel j r hj).tr htr fun b hb => hkeep b (s.lt b ⟨j, hb⟩)

/-- Only counts of the world have moved. -/
theorem Sim.same (s : Sim S φ H w) (hh : w'.heap = w.heap) (ho : w'.os = w.os) (ht : w'.tape = w.tape) (hu : w'.output = w.output) :
    Sim S φ H w' ∧ Tr H.length S φ H w S φ H w' ∧ Ext S φ w S φ w' := by
  have htr : Tr H.length S φ H w S φ H w' := by
    refine ⟨fun _ h => h, fun b _ => by rw [hh], Nat.le_refl _, Nat.le_refl _, fun _ _ => Nat.le_refl _, ?_, ?_, ?_, ?_⟩
    · intro j g k dp' l' hj hl'
      exact .inr ⟨dp', l', hl', rfl, Nat.le_refl _, fun b rest arr ty e1 e2 => ⟨arr, ty, by rw [hh]; exact e2, Nat.le_refl _⟩⟩
    · exact fun j cs' hj hl' => ⟨cs', hl', rfl⟩
    · exact fun j cs' hj hl' => ⟨cs', hl', rfl⟩
    · exact fun j x hj hl' => ⟨hl', rfl, fun b _ => by rw [hh]⟩
  refine ⟨⟨s.len, s.nd, s.dj, by rw [hh]; exact s.lt, s.off, by rw [hh]; exact s.slt, fun i r hr => (s.rel i r hr).tr htr fun b _ => by rw [hh]⟩, htr, ?_⟩
  exact ⟨ho, ht, hu, by rw [hh]; exact Nat.le_refl _, fun b _ _ => by rw [hh], fun _ h => .inl h, fun _ h => h, fun _ h => .inl h⟩

theorem Tr.refl {n : Nat} (hn : n ≤ H.length) : Tr n S φ H w S φ H w :=
  ⟨fun _ h => h, fun _ _ => rfl, hn, hn, fun _ _ => Nat.le_refl _,
   fun i g k dp' l' hi hl => .inr ⟨dp', l', hl, rfl, Nat.le_refl _, fun b rest arr ty e1 e2 => ⟨arr, ty, e2, Nat.le_refl _⟩⟩,
   fun i cs hi h => ⟨cs, h, rfl⟩, fun i es hi h => ⟨es, h, rfl⟩, fun i x hi h => ⟨h, rfl, fun _ _ => rfl⟩⟩

theorem Tr.weaken {m n : Nat} (h : n ≤ m) (t : Tr m S φ H w S' φ' H' w') : Tr n S φ H w S' φ' H' w' :=
  ⟨t.sub, t.keep, Nat.le_trans h t.le, Nat.le_trans h t.len, fun i hi => t.gen i (Nat.lt_of_lt_of_le hi h), fun i g k dp' l' hi => t.row i g k dp' l' (Nat.lt_of_lt_of_le hi h),
   fun i cs hi => t.box i cs (Nat.lt_of_lt_of_le hi h), fun i cs hi => t.map i cs (Nat.lt_of_lt_of_le hi h), fun i cs hi => t.val i cs (Nat.lt_of_lt_of_le hi h)⟩

theorem Tr.trans {n : Nat} {S'' : Nat → Prop} {φ'' : List (List Nat)} {H'' : List R} {w'' : World} (t : Tr n S φ H w S' φ' H' w') (t' : Tr n S' φ' H' w' S'' φ'' H'' w'') :
    Tr n S φ H w S'' φ'' H'' w'' := by
  refine ⟨fun b h => t'.sub b (t.sub b h), fun b h => (t'.keep b (t.sub b h)).trans (t.keep b h), t.le, t'.len, fun i hi => Nat.le_trans (t.gen i hi) (t'.gen i hi), ?_, ?_, ?_, ?_⟩
  · intro i g k dp'' l'' hi hl
    rcases t'.row i g k dp'' l'' hi hl with h | ⟨dp', l', hl', hfp, hle, hb⟩
    · exact .inl (Nat.lt_of_le_of_lt (t.gen i hi) h)
    · rcases t.row i g k dp' l' hi hl' with h | ⟨dp, l, hl0, hfp0, hle0, hb0⟩
      · exact .inl h
      · refine .inr ⟨dp, l, hl0, hfp.trans hfp0, Nat.le_trans hle0 hle, fun b rest arr ty e1 e2 => ?_⟩
        obtain ⟨arr', ty', e3, hs⟩ := hb0 b rest arr ty e1 e2
        obtain ⟨arr'', ty'', e4, hs'⟩ := hb b rest arr' ty' (hfp0.trans e1) e3
        exact ⟨arr'', ty'', e4, Nat.le_trans hs hs'⟩
  · intro i cs hi h
    obtain ⟨cs', h', e⟩ := t'.box i cs hi h
    obtain ⟨cs0, h0, e0⟩ := t.box i cs' hi h'
    exact ⟨cs0, h0, e.trans e0⟩
  · intro i cs hi h
    obtain ⟨cs', h', e⟩ := t'.map i cs hi h
    obtain ⟨cs0, h0, e0⟩ := t.map i cs' hi h'
    exact ⟨cs0, h0, e.trans e0⟩
  · intro i x hi h
    obtain ⟨h', e, hb⟩ := t'.val i x hi h
    obtain ⟨h0, e0, hb0⟩ := t.val i x hi h'
    exact ⟨h0, e.trans e0, fun b hm => (hb b (by rw [e0]; exact hm)).trans (hb0 b hm)⟩

end Go.VL
