/- Part 15: contracts of functions on data; lists of operations. Conditions: none; lemmas. -/
import Derived.Test.YtfinoodiofghkaaVL14
set_option linter.unusedVariables false
set_option linter.unusedSimpArgs false
namespace Go.VL

variable {P : Program} {S : Nat → Prop} {φ : List (List Nat)} {H : List R} {w : World} {T : Nat → Option TI} {fr : Fr} {a : Act}

/-- New blocks at most. -/
structure Grow (w w' : World) : Prop where
  os : w'.os = w.os
  tape : w'.tape = w.tape
  output : w'.output = w.output
  size : w.heap.size ≤ w'.heap.size
  keep : ∀ b, b < w.heap.size → w'.heap[b]? = w.heap[b]?

theorem ent_of {f : Nat} {fn : Func} {c : Code} (hf : P.funcs[f]? = some fn) (hb : fn.body = some c) (hn : (fn.name == "runtime.NumGoroutine") = false) : Ent P f := by
  intro args w
  have hn' : ¬ fn.name = "runtime.NumGoroutine" := by simpa using hn
  simp [callFunc, hf, hb, hn']

def ArgsFZ (S : Nat → Prop) (w : World) (ds : List D) (vs : Array Value) : Prop := vs.size = ds.length ∧ ∀ j, j < ds.length → FZ S w (ds.getD j .nil) (vs.getD j undef)

/-- Called with this data, wherever it lies, 'f' returns 'x', in new memory of its own, and changes nothing. -/
def Pure (P : Program) (f : Nat) (ds : List D) (x : D) : Prop :=
  Ent P f ∧ ∀ (S : Nat → Prop) (vs : Array Value) (w : World) (Rr : Ending → World → Prop), (∀ b, S b → b < w.heap.size) → ArgsFZ S w ds vs →
    (∀ v w' fp, OW w' x v fp → fp.Nodup → (∀ b ∈ fp, w.heap.size ≤ b) → Grow w w' → Rr (.returned v) w') → Calls P f vs w Rr

/-- Called with this data, 'f' returns something that 'ψ' says, in new memory of its own, and changes nothing. -/
def PureE (P : Program) (f : Nat) (ds : List D) (ψ : D → Prop) : Prop :=
  Ent P f ∧ ∀ (S : Nat → Prop) (vs : Array Value) (w : World) (Rr : Ending → World → Prop), (∀ b, S b → b < w.heap.size) → ArgsFZ S w ds vs →
    (∀ x v w' fp, ψ x → OW w' x v fp → fp.Nodup → (∀ b ∈ fp, w.heap.size ≤ b) → Grow w w' → Rr (.returned v) w') → Calls P f vs w Rr
theorem Pure.toE {P : Program} {f : Nat} {ds : List D} {x : D} (h : Pure P f ds x) : PureE P f ds (fun y => y = x) :=
  ⟨h.1, fun S vs w Rr hS ha hr => h.2 S vs w Rr hS ha fun v w' fp how hnd hfp hg => hr x v w' fp rfl how hnd hfp hg⟩
theorem PureE.mono {P : Program} {f : Nat} {ds : List D} {ψ ψ' : D → Prop} (h : PureE P f ds ψ) (hm : ∀ x, ψ x → ψ' x) : PureE P f ds ψ' :=
  ⟨h.1, fun S vs w Rr hS ha hr => h.2 S vs w Rr hS ha fun x v w' fp hx => hr x v w' fp (hm x hx)⟩

/-- The same, but what is returned may share with the arguments. -/
def PureF (P : Program) (f : Nat) (ds : List D) (x : D) : Prop :=
  Ent P f ∧ ∀ (S : Nat → Prop) (vs : Array Value) (w : World) (Rr : Ending → World → Prop), (∀ b, S b → b < w.heap.size) → ArgsFZ S w ds vs →
    (∀ v w' S', (∀ b, S b → S' b) → (∀ b, S' b → S b ∨ w.heap.size ≤ b) → (∀ b, S' b → b < w'.heap.size) → FZ S' w' x v → Grow w w' → Rr (.returned v) w') → Calls P f vs w Rr

/-- The same, and 'ψ' says something of what is returned. -/
def PureFE (P : Program) (f : Nat) (ds : List D) (ψ : D → Prop) : Prop :=
  Ent P f ∧ ∀ (S : Nat → Prop) (vs : Array Value) (w : World) (Rr : Ending → World → Prop), (∀ b, S b → b < w.heap.size) → ArgsFZ S w ds vs →
    (∀ x v w' S', ψ x → (∀ b, S b → S' b) → (∀ b, S' b → S b ∨ w.heap.size ≤ b) → (∀ b, S' b → b < w'.heap.size) → FZ S' w' x v → Grow w w' → Rr (.returned v) w') → Calls P f vs w Rr
theorem PureF.toE {P : Program} {f : Nat} {ds : List D} {x : D} (h : PureF P f ds x) : PureFE P f ds (fun y => y = x) :=
  ⟨h.1, fun S vs w Rr hS ha hr => h.2 S vs w Rr hS ha fun v w' S' h1 h2 h3 h4 h5 => hr x v w' S' rfl h1 h2 h3 h4 h5⟩
theorem PureFE.mono {P : Program} {f : Nat} {ds : List D} {ψ ψ' : D → Prop} (h : PureFE P f ds ψ) (hm : ∀ x, ψ x → ψ' x) : PureFE P f ds ψ' :=
  ⟨h.1, fun S vs w Rr hS ha hr => h.2 S vs w Rr hS ha fun x v w' S' hx => hr x v w' S' (hm x hx)⟩

theorem Pure.fz {f : Nat} {ds : List D} {x : D} (h : Pure P f ds x) : PureF P f ds x :=
  ⟨h.1, fun S vs w Rr hS ha hr => h.2 S vs w Rr hS ha fun v w' fp how hnd hfp hg =>
    hr v w' (fun b => S b ∨ b ∈ fp) (fun b h => .inl h) (fun b h => h.imp id (hfp b)) (fun b h => h.elim (fun h => Nat.lt_of_lt_of_le (hS b h) hg.size) (how.lt b)) (how.fz fun b hb => .inr hb) hg⟩

/-! ### Lending what is owned, for reading -/
def viewL (f : I → Option (Prop × D)) : List I → Option (Prop × List D)
  | [] => some (True, [])
  | x :: r =>
    match f x, viewL f r with
    | some (vc, d), some (vc', ds) => some (vc ∧ d.one = true ∧ vc', d :: ds)
    | _, _ => none
def viewF (f : I → Option (Prop × D)) : List I → Option (Prop × List D)
  | [] => some (True, [])
  | x :: r =>
    match f x, viewF f r with
    | some (vc, d), some (vc', ds) => some (vc ∧ vc', d :: ds)
    | _, _ => none

def view (H : List R) : Nat → I → Option (Prop × D)
  | 0, .d x => some (True, x)
  | 0, _ => none
  | _ + 1, .d x => some (True, x)
  | _ + 1, .sl i g k lo n =>
    match H[i]? with
    | some (.row g' k' _ l) => some (g = g' ∧ k = k', .lst k ((l.drop lo).take n))
    | _ => none
  | f + 1, .ptr i off =>
    match H[i]? with
    | some (.box cs) =>
      match viewL (view H f) (cs.drop off) with
      | some (vc, ds) => some (vc, .ptr ds)
      | none => none
    | _ => none
  | _ + 1, .eptr i g k idx off z =>
    match H[i]? with
    | some (.row g' k' _ l) => some (g = g' ∧ k = k' ∧ idx < l.length, .ptr ((cellsFrom (l.getD idx z) 0 k).drop off))
    | _ => none
  | f + 1, .agg cs =>
    match viewL (view H f) cs with
    | some (vc, ds) => some (vc, .agg ds)
    | none => none
  | f + 1, .fn g caps =>
    match viewF (view H f) caps with
    | some (vc, ds) => some (vc, .fn g ds)
    | none => none
  | f + 1, .tup caps =>
    match viewF (view H f) caps with
    | some (vc, ds) => some (vc, .tup ds)
    | none => none
  | _ + 1, _ => none

def Lent (S : Nat → Prop) (φ : List (List Nat)) (b : Nat) : Prop := S b ∨ Foot φ b

theorem rowRel_fz {dp : Bool} {cells : List D} {arr : Array Value} {rest : List Nat} (h : RowRel S w dp cells arr rest) (hr : ∀ b ∈ rest, Foot φ b) : ∀ j, j < cells.length → FZ (Lent S φ) w (cells.getD j .nil) (arr.getD j undef) := by
  cases dp with
  | false => exact fun j hj => (h.2 j hj).mono (fun b hb => .inl hb) (fun _ _ => rfl)
  | true =>
    obtain ⟨F, rfl, hF⟩ := h
    exact fun j hj => (hF j hj).fz fun b hb => .inr (hr b (mem_flatMap_range hj hb))

theorem viewL_sound {f : I → Option (Prop × D)} {ok : I → Value → Prop} {S' : Nat → Prop} (hf : ∀ x v vc d, ok x v → f x = some (vc, d) → vc → FZ S' w d v) :
    ∀ (cs : List I) {vc : Prop} {ds : List D}, viewL f cs = some (vc, ds) → vc → ds.length = cs.length ∧ (∀ c ∈ ds, c.one = true) ∧ ∀ j, j < cs.length → ∀ v, ok (cs.getD j .junk) v → FZ S' w (ds.getD j .nil) v
  | [], vc, ds, h, hvc => by
    simp only [viewL, Option.some.injEq, Prod.mk.injEq] at h
    obtain ⟨_, rfl⟩ := h
    exact ⟨rfl, by simp, by simp⟩
  | x :: r, vc, ds, h, hvc => by
    simp only [viewL] at h
    split at h
    · rename_i vc1 d vc2 ds' h1 h2
      simp only [Option.some.injEq, Prod.mk.injEq] at h
      obtain ⟨rfl, rfl⟩ := h
      obtain ⟨l1, l2, l3⟩ := viewL_sound hf r h2 hvc.2.2
      refine ⟨by simp [l1], ?_, fun j hj v hv => ?_⟩
      · intro c hc
        rcases List.mem_cons.1 hc with rfl | hc
        · exact hvc.2.1
        · exact l2 c hc
      · cases j with
        | zero => exact hf x v vc1 d (by simpa [List.getD] using hv) h1 hvc.1
        | succ j => simpa [List.getD] using l3 j (by simpa using hj) v (by simpa [List.getD] using hv)
    · simp at h

theorem viewF_sound {f : I → Option (Prop × D)} {ok : I → Value → Prop} {S' : Nat → Prop} (hf : ∀ x v vc d, ok x v → f x = some (vc, d) → vc → FZ S' w d v) :
    ∀ (cs : List I) {vc : Prop} {ds : List D}, viewF f cs = some (vc, ds) → vc → ds.length = cs.length ∧ ∀ j, j < cs.length → ∀ v, ok (cs.getD j .junk) v → FZ S' w (ds.getD j .nil) v
  | [], vc, ds, h, hvc => by
    simp only [viewF, Option.some.injEq, Prod.mk.injEq] at h
    obtain ⟨_, rfl⟩ := h
    exact ⟨rfl, by simp⟩
  | x :: r, vc, ds, h, hvc => by
    simp only [viewF] at h
    split at h
    · rename_i vc1 d vc2 ds' h1 h2
      simp only [Option.some.injEq, Prod.mk.injEq] at h
      obtain ⟨rfl, rfl⟩ := h
      obtain ⟨l1, l3⟩ := viewF_sound hf r h2 hvc.2
      refine ⟨by simp [l1], fun j hj v hv => ?_⟩
      cases j with
      | zero => exact hf x v vc1 d (by simpa [List.getD] using hv) h1 hvc.1
      | succ j => simpa [List.getD] using l3 j (by simpa using hj) v (by simpa [List.getD] using hv)
    · simp at h

theorem view_sound (s : Sim S φ H w) : ∀ (f : Nat) {x : I} {v : Value} {vc : Prop} {d : D}, V S φ H w x v → view H f x = some (vc, d) → vc → FZ (Lent S φ) w d v := by
  have hd : ∀ {x : D} {v : Value}, V S φ H w (.d x) v → FZ (Lent S φ) w x v := fun h => h.fz.mono (fun b hb => .inl hb) (fun _ _ => rfl)
  intro f
  induction f with
  | zero =>
    intro x v vc d hv h hvc
    cases x <;> simp only [view, Option.some.injEq, Prod.mk.injEq, reduceCtorEq] at h
    obtain ⟨_, rfl⟩ := h
    exact hd hv
  | succ f ih =>
    intro x v vc d hv h hvc
    cases x <;> simp only [view, Option.some.injEq, Prod.mk.injEq, reduceCtorEq] at h
    · obtain ⟨_, rfl⟩ := h
      exact hd hv
    · -- agg
      rename_i cs
      split at h
      · rename_i vc' ds hvl
        simp only [Option.some.injEq, Prod.mk.injEq] at h
        obtain ⟨rfl, rfl⟩ := h
        obtain ⟨l1, l2, l3⟩ := viewL_sound (ok := V S φ H w) (fun x v vc d h1 h2 h3 => ih h1 h2 h3) cs hvl hvc
        cases hv with
        | agg hl h1 hj => exact .agg (by omega) l2 fun j hj' => l3 j (by omega) _ (hj j (by omega))
      · simp at h
    · -- sl
      rename_i i g k lo n
      split at h
      · rename_i g' k' dp l hi
        simp only [Option.some.injEq, Prod.mk.injEq] at h
        obtain ⟨rfl, rfl⟩ := h
        obtain ⟨rfl, rfl⟩ := hvc
        cases hv with
        | sl hlt hg hrel h1 =>
          obtain ⟨hsl, hle⟩ := hrel dp l hi
          obtain ⟨hk, he, ho, hlim, hr⟩ := s.rel i _ hi
          have hlen : ((l.drop lo).take n).length = n := by simp; omega
          rcases hsl with ⟨hfp, rfl, rfl, rfl⟩ | ⟨b, rest, cap, arr, ty, a, hfp, rfl, hn, hcp, hlim', hb, hfit⟩
          · simp only [List.take_zero]
            exact .lst0 hk
          · by_cases hn0 : n = 0
            · subst hn0
              simp only [List.take_zero]
              exact .lst0 hk
            · obtain ⟨rfl, hfit'⟩ := hfit (.inl hn0)
              rcases hr with ⟨e, _⟩ | ⟨b', rest', arr', ty', e, hb', hsz, hrr⟩
              · rw [hfp] at e; simp at e
              · rw [hfp] at e
                simp at e
                obtain ⟨rfl, rfl⟩ := e
                rw [hb] at hb'
                simp at hb'
                obtain ⟨rfl, rfl⟩ := hb'
                have hz := rowRel_fz (φ := φ) hrr (fun b' hb' => ⟨i, by rw [hfp]; simp [hb']⟩)
                have hmemE : ∀ x ∈ (l.drop lo).take n, x ∈ l := fun x hx => List.mem_of_mem_drop (List.mem_of_mem_take hx)
                have g1 : ∀ x ∈ (l.drop lo).take n, x.cells.length = k := fun x hx => he x (hmemE x hx)
                have hfl' := flat_length g1
                rw [hlen] at hfl'
                have hnk : n * k ≤ cap * k := Nat.mul_le_mul_right _ hn
                have := FZ.lst (S := Lent S φ) (w := w) (k := k) (l := (l.drop lo).take n) (b := b) (off := lo * k) (cap := cap) (fun j => arr.getD (lo * k + j) undef) hk g1 ?_ (by omega) (by omega) (.inr ⟨i, by rw [hfp]; simp⟩) ?_ ?_
                · rw [hlen] at this
                  exact this
                · intro c hc'
                  obtain ⟨x, hx, hcx⟩ := mem_flat.1 hc'
                  exact ho c (mem_flat.2 ⟨x, hmemE x hx, hcx⟩)
                · intro j hj
                  have : lo * k + j < arr.size := by omega
                  rw [cell_of_row w b _ arr ty (0, 0) hb]
                  simp [Array.getD, this]
                · intro j hj
                  obtain ⟨f1, f2⟩ := flat_sub hk he hle j (by omega)
                  rw [f2]
                  exact hz _ f1
      · simp at h
    · -- ptr
      rename_i i off
      split at h
      · rename_i cs hi
        split at h
        · rename_i vc' ds hvl
          simp only [Option.some.injEq, Prod.mk.injEq] at h
          obtain ⟨rfl, rfl⟩ := h
          obtain ⟨l1, l2, l3⟩ := viewL_sound (ok := V S φ H w) (fun x v vc d h1 h2 h3 => ih h1 h2 h3) _ hvl hvc
          cases hv with
          | ptr hlt hrel h1 =>
            obtain ⟨b, hfp, rfl⟩ := hrel cs hi
            obtain ⟨b', hfp', g, hg⟩ := box_cell s hi
            rw [hfp] at hfp'
            simp at hfp'
            subst hfp'
            simp only [List.length_drop] at l1 l3
            refine .ptr (fun j => g (off + j)) (.inr ⟨i, by rw [hfp]; simp⟩) l2 (fun j hj => (hg _ (by omega)).1) (fun j hj => ?_)
            refine l3 j (by omega) _ ?_
            rw [getD_drop]
            exact (hg _ (by omega)).2.2
        · simp at h
      · simp at h
    · -- eptr
      rename_i i g k idx off z
      split at h
      · rename_i g' k' dp l hi
        simp only [Option.some.injEq, Prod.mk.injEq] at h
        obtain ⟨rfl, rfl⟩ := h
        obtain ⟨rfl, rfl, hidx⟩ := hvc
        cases hv with
        | eptr hlt hg hrel h1 =>
          obtain ⟨b, rest, hfp, rfl⟩ := hrel dp l hi
          have hcell : ∀ m, m < k → ∃ v, w.cell? ⟨b, idx * k + m, none⟩ = some v ∧ ((l.getD idx z).cellAt m).one = true ∧ FZ (Lent S φ) w ((l.getD idx z).cellAt m) v := by
            intro m hm
            obtain ⟨hk, he, ho, hlim, hr⟩ := s.rel i _ hi
            rcases hr with ⟨e, _⟩ | ⟨b', rest', arr, ty, e, hb, hsz, hrr⟩
            · rw [hfp] at e; simp at e
            · rw [hfp] at e
              simp at e
              obtain ⟨rfl, rfl⟩ := e
              have hz := rowRel_fz (φ := φ) hrr (fun b' hb' => ⟨i, by rw [hfp]; simp [hb']⟩)
              have hmk := Nat.mul_le_mul_right k hidx
              rw [Nat.succ_mul] at hmk
              have hjf : idx * k + m < (flat l).length := by rw [flat_length he]; omega
              have hcl := he _ (getD_mem (d := z) hidx)
              have hc : (l.getD idx z).cellAt m = (flat l).getD (idx * k + m) .nil := by
                rw [cellAt_eq _ _ (by omega), getD_flat he hidx hm z]
              have : idx * k + m < arr.size := by omega
              exact ⟨arr.getD (idx * k + m) undef, by rw [cell_of_row w b _ arr ty (0, 0) hb]; simp [Array.getD, this], by rw [hc]; exact ho _ (getD_mem hjf), by rw [hc]; exact hz _ hjf⟩
          refine .ptr (fun j => (w.cell? ⟨b, idx * k + off + j, none⟩).getD undef) (.inr ⟨i, by rw [hfp]; simp⟩) ?_ ?_ ?_
          · intro c hc
            obtain ⟨m, hm, rfl⟩ := List.getElem_of_mem (List.mem_of_mem_drop hc)
            rw [cellsFrom_length] at hm
            rw [getElem_eq_getD _ _ _ .nil, cellsFrom_getD _ _ _ _ hm, Nat.zero_add]
            obtain ⟨v, _, h1, _⟩ := hcell m hm
            exact h1
          · intro j hj
            simp only [List.length_drop, cellsFrom_length] at hj
            obtain ⟨v, hv, _⟩ := hcell (off + j) (by omega)
            rw [Nat.add_assoc, hv]
            rfl
          · intro j hj
            simp only [List.length_drop, cellsFrom_length] at hj
            rw [getD_drop, cellsFrom_getD _ _ _ _ (by omega), Nat.zero_add, Nat.add_assoc]
            obtain ⟨v, hv, _, hz⟩ := hcell (off + j) (by omega)
            rw [hv]
            exact hz
      · simp at h
    · -- fn
      rename_i g caps
      split at h
      · rename_i vc' ds hvl
        simp only [Option.some.injEq, Prod.mk.injEq] at h
        obtain ⟨rfl, rfl⟩ := h
        obtain ⟨l1, l3⟩ := viewF_sound (ok := V S φ H w) (fun x v vc d h1 h2 h3 => ih h1 h2 h3) caps hvl hvc
        cases hv with
        | fn hl hj => exact .fn (by omega) fun j hj' => l3 j (by omega) _ (hj j (by omega))
      · simp at h
    · -- tup
      rename_i caps
      split at h
      · rename_i vc' ds hvl
        simp only [Option.some.injEq, Prod.mk.injEq] at h
        obtain ⟨rfl, rfl⟩ := h
        obtain ⟨l1, l3⟩ := viewF_sound (ok := V S φ H w) (fun x v vc d h1 h2 h3 => ih h1 h2 h3) caps hvl hvc
        cases hv with
        | tup hl hj => exact .tup (by omega) fun j hj' => l3 j (by omega) _ (hj j (by omega))
      · simp at h

end Go.VL
