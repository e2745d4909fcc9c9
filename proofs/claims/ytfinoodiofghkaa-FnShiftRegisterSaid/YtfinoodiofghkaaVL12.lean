/- Part 12: stores. Conditions: none; lemmas. -/
import Derived.Test.YtfinoodiofghkaaVL11
set_option linter.unusedVariables false
set_option linter.unusedSimpArgs false
namespace Go.VL

variable {P : Program} {S : Nat → Prop} {φ : List (List Nat)} {H : List R} {w : World} {T : Nat → Option TI} {fr : Fr} {a : Act}

theorem cellsD_sound {ti : TI} {x : I} {vx : Value} (hx : V S φ H w x vx) {vc : Prop} {xs : List D} (h : cellsD ti x = some (vc, xs)) (hvc : vc) :
    xs.length = ti.size ∧ vx.cells.size = ti.size ∧ ∀ j, j < ti.size → (xs.getD j .nil).one = true ∧ FZ S w (xs.getD j .nil) (vx.cells.getD j undef) := by
  unfold cellsD at h
  split at h
  · rename_i xd hagg
    simp only [Option.some.injEq, Prod.mk.injEq] at h
    obtain ⟨rfl, rfl⟩ := h
    obtain ⟨hl, hone, htup⟩ := hvc
    have hz := hx.fz
    cases hz <;> simp [D.one] at hone
    · rename_i cs vs hl' h1 hj
      simp only [D.cells] at hl
      refine ⟨cellsFrom_length _ _ _, by simp [Value.cells, ← hl', hl], fun j hj' => ?_⟩
      rw [cellsFrom_getD _ _ _ _ hj', Nat.zero_add]
      exact ⟨h1 _ (getD_mem (by omega)), hj j (by omega)⟩
    · exact absurd rfl (htup _)
  · rename_i xd hagg
    simp only [Option.some.injEq, Prod.mk.injEq] at h
    obtain ⟨rfl, rfl⟩ := h
    obtain ⟨h1, h2⟩ := hvc
    have ho := hx.fz.one h2
    have hc : vx.cells = #[vx] := by cases vx <;> first | rfl | simp [Value.oneCell'] at ho
    refine ⟨by simp [h1], by simp [hc, h1], fun j hj => ?_⟩
    obtain rfl : j = 0 := by omega
    rw [hc]
    exact ⟨h2, hx.fz⟩
  · simp at h

/-- New content of a row in its block. -/
theorem set_row (s : Sim S φ H w) {i g k : Nat} {dp : Bool} {l l' : List D} (hi : H[i]? = some (.row g k dp l)) {b : Nat} {rest : List Nat} {cur : Array Value} {ty : TypeId}
    (hfp : φ.getD i [] = b :: rest) (hb : w.heap[b]? = some (.cells cur ty (0, 0))) {arr' : Array Value} (hsz : arr'.size = cur.size) (he : ∀ x ∈ l', x.cells.length = k) (h1 : ∀ c ∈ flat l', c.one = true)
    (hlen : l'.length = l.length) (hr : RowRel S w dp (flat l') arr' rest) :
    ∃ φ', Sim S φ' (H.set i (.row g k dp l')) (w.setRow b arr') ∧ Tr H.length S φ H w S φ' (H.set i (.row g k dp l')) (w.setRow b arr') ∧ Ext S φ w S φ' (w.setRow b arr') := by
  have hlt : i < H.length := (List.getElem?_eq_some_iff.1 hi).1
  have hgetD : H.getD i (.dead 0) = .row g k dp l := by simp [List.getD, hi]
  obtain ⟨hk, _, _, hlim, hrel⟩ := s.rel i _ hi
  obtain ⟨q1, q2, q3⟩ := s.update hlt (upd_setRow s hfp arr') (r' := .row g k dp l') (by rw [hgetD]; exact Nat.le_refl _) (by
      intro g' k' dp' l'' he'
      simp at he'
      obtain ⟨rfl, rfl, rfl, rfl⟩ := he'
      refine .inr ⟨dp, l, hi, hfp.symm, by omega, fun b' rest' arr ty' e1 e2 => ?_⟩
      rw [hfp] at e1
      simp at e1
      obtain ⟨rfl, rfl⟩ := e1
      rw [hb] at e2
      simp at e2
      obtain ⟨rfl, rfl⟩ := e2
      exact ⟨arr', ty, setRow_heap w b cur arr' ty (0, 0) hb, by omega⟩) (by simp) (by simp) (by simp) (by
      intro t
      refine ⟨hk, he, h1, by omega, .inr ⟨b, rest, arr', ty, rfl, setRow_heap w b cur arr' ty (0, 0) hb, ?_, hr.keep t.sub t.keep ?_⟩⟩
      · rcases hrel with ⟨e, _⟩ | ⟨b', rest', arr, ty', e, hb', hsz', _⟩
        · rw [hfp] at e; simp at e
        · rw [hfp] at e
          simp at e
          obtain ⟨rfl, rfl⟩ := e
          rw [hb] at hb'
          simp at hb'
          obtain ⟨rfl, rfl⟩ := hb'
          rw [hlen]
          omega
      · intro b' hb'
        refine setRow_other w b b' arr' ?_
        intro e
        have hnd := s.nd i
        rw [hfp] at hnd
        subst e
        exact (List.nodup_cons.1 hnd).1 hb')
  exact ⟨_, q1, q2, q3⟩

theorem set_box (s : Sim S φ H w) {i : Nat} {cs cs' : List I} (hi : H[i]? = some (.box cs)) {b : Nat} {cur arr' : Array Value} {ty : TypeId} (hfp : φ.getD i [] = [b]) (hb : w.heap[b]? = some (.cells cur ty (0, 0)))
    (h : CellsOK S φ H w cs' arr') :
    ∃ φ', Sim S φ' (H.set i (.box cs')) (w.setRow b arr') ∧ Tr H.length S φ H w S φ' (H.set i (.box cs')) (w.setRow b arr') ∧ Ext S φ w S φ' (w.setRow b arr') := by
  have hlt : i < H.length := (List.getElem?_eq_some_iff.1 hi).1
  have hgetD : H.getD i (.dead 0) = .box cs := by simp [List.getD, hi]
  obtain ⟨q1, q2, q3⟩ := s.update hlt (upd_setRow s hfp arr') (r' := .box cs') (by rw [hgetD]; exact Nat.le_refl _) (by simp) (fun cs'' e => ⟨cs, hi, hfp.symm⟩) (by simp) (by simp)
    (fun t => ⟨b, arr', ty, rfl, setRow_heap w b cur arr' ty (0, 0) hb, h.1, fun j hj => ⟨(h.2 j hj).1, (h.2 j hj).2.tr t⟩⟩)
  exact ⟨_, q1, q2, q3⟩

theorem rowRel_set {dp : Bool} {l l' : List D} {cur arr' : Array Value} {rest : List Nat} (h : RowRel S w dp l cur rest) (hl : l'.length = l.length)
    (hcell : ∀ j, j < l.length → (arr'.getD j undef = cur.getD j undef ∧ l'.getD j .nil = l.getD j .nil) ∨
      ((dp = true → (l.getD j .nil).scalar = true ∧ (l'.getD j .nil).scalar = true) ∧ FZ S w (l'.getD j .nil) (arr'.getD j undef))) : RowRel S w dp l' arr' rest := by
  cases dp with
  | false =>
    refine ⟨h.1, fun j hj => ?_⟩
    rw [hl] at hj
    rcases hcell j hj with ⟨e1, e2⟩ | ⟨_, hz⟩
    · rw [e1, e2]; exact h.2 j hj
    · exact hz
  | true =>
    obtain ⟨F, rfl, hF⟩ := h
    refine ⟨F, by rw [hl], fun j hj => ?_⟩
    rw [hl] at hj
    rcases hcell j hj with ⟨e1, e2⟩ | ⟨hss, hz⟩
    · rw [e1, e2]; exact hF j hj
    · have := hF j hj
      obtain ⟨hs, hs'⟩ := hss rfl
      have e : F j = [] := by
        generalize l.getD j .nil = c at *
        generalize cur.getD j undef = v at *
        generalize F j = f at *
        cases this <;> first | rfl | simp [D.scalar] at hs
      rw [e]
      exact fz_ow hz hs'

set_option maxHeartbeats 1000000 in
theorem sStore_sound (hT : TOK P T) (s : Sim S φ H w) {t : Nat} {p x : I} {vp vx : Value} (hp : V S φ H w p vp) (hx : V S φ H w x vx) {vc : Prop} {H' : List R} (h : sStore T H t p x = some (vc, H')) (hvc : vc) :
    StepOK S φ H w ((do Instr.storeAt t vp vx; pure .skip : Sem Next).run P w) .junk H' := by
  unfold sStore at h
  split at h
  · rename_i ti i off hti
    have ht := hT _ _ hti
    split at h
    · rename_i cs hi
      split at h
      · rename_i vc' xs hc
        simp only [Option.some.injEq, Prod.mk.injEq] at h
        obtain ⟨rfl, rfl⟩ := h
        obtain ⟨hvc', hfit⟩ := hvc
        obtain ⟨c1, c2, c3⟩ := cellsI_sound hx hc hvc'
        obtain ⟨b, arr, ty, hfp, hb, hsz, hv⟩ := s.rel i _ hi
        cases hp with
        | ptr hlt hrel h1 =>
          obtain ⟨b', hfp', rfl⟩ := hrel cs hi
          rw [hfp] at hfp'
          simp at hfp'
          subst hfp'
          have hrun := run_storeVar ht hb c2 (o := off) (by omega) (fun j hj => (c3 j hj).1)
          have hl : vx.cells.toList.length = ti.size := by simp [c2]
          obtain ⟨φ', a1, a2, a3⟩ := set_box s hi hfp hb (cs' := setCells cs off xs) (arr' := stored' arr off vx.cells.toList) (by
            refine ⟨by rw [stored'_size _ _ _ (by omega), length_setCells]; exact hsz, fun j hj => ?_⟩
            rw [length_setCells] at hj
            rw [stored'_getD _ _ _ (by omega), getD_setCells _ _ _ (by omega)]
            by_cases hin : off ≤ j ∧ j < off + xs.length
            · rw [if_pos hin, if_pos (by omega)]
              have := c3 (j - off) (by omega)
              simpa [List.getD, Array.getD_eq_getD_getElem?] using this
            · rw [if_neg hin, if_neg (by omega)]
              exact hv j hj)
          refine ⟨undef, _, φ', .inr ⟨?_, rfl⟩, a1, a2, a3, .junk⟩
          simp only [Instr.storeAt, Instr.sureAddr, Sem.run_bind, Sem.run_pure, Result.andThen_ok, hrun]
      · simp at h
    · simp at h
  · rename_i ti i g k idx off z hti
    have ht := hT _ _ hti
    split at h
    · rename_i g' k' dp l hi
      split at h
      · rename_i vc' xs hc
        have key : vc' → g = g' ∧ k = k' → idx < l.length → off + ti.size ≤ k → ∀ (y : D), y.cells.length = k → (∀ c ∈ y.cells, c.one = true) →
            (dp = true → ∀ c ∈ (l.getD idx z).cells, c.scalar = true) → (dp = true → ∀ c ∈ y.cells, c.scalar = true) →
            (∀ j, j < k → y.cells.getD j .nil = if off ≤ j ∧ j < off + ti.size then xs.getD (j - off) .nil else (l.getD idx z).cells.getD j .nil) →
            StepOK S φ H w ((do Instr.storeAt t vp vx; pure .skip : Sem Next).run P w) .junk (H.set i (.row g' k' dp (l.set idx y))) := by
          intro hvc' hgk hidx hfit y hy hy1 hsc hsc' hcells
          obtain ⟨rfl, rfl⟩ := hgk
          obtain ⟨c1, c2, c3⟩ := cellsD_sound hx hc hvc'
          obtain ⟨hk, he, ho, hlim, hrel⟩ := s.rel i _ hi
          rcases hrel with ⟨_, rfl⟩ | ⟨b, rest, arr, ty, hfp, hb, hsz, hr⟩
          · simp at hidx
          · cases hp with
            | eptr hlt hg hpr h1 =>
              obtain ⟨b', rest', hfp', rfl⟩ := hpr dp l hi
              rw [hfp] at hfp'
              simp at hfp'
              obtain ⟨rfl, rfl⟩ := hfp'
              have hm := Nat.mul_le_mul_right k hidx
              rw [Nat.succ_mul] at hm
              have hl : vx.cells.toList.length = ti.size := by simp [c2]
              have hone : ∀ j, j < ti.size → (vx.cells.getD j undef).oneCell' = true := fun j hj => (c3 j hj).2.one (c3 j hj).1
              have hrun := run_storeVar ht hb c2 (o := idx * k + off) (by omega) hone
              have hfl := flat_length he
              have he' : ∀ x ∈ l.set idx y, x.cells.length = k := fun x hx => by
                rcases List.mem_or_eq_of_mem_set hx with h | h
                · exact he x h
                · rw [h]; exact hy
              have hfl' := flat_length he'
              simp only [List.length_set] at hfl'
              have hmemE : l.getD idx z ∈ l := getD_mem hidx
              obtain ⟨φ', a1, a2, a3⟩ := set_row s hi hfp hb (arr' := stored' arr (idx * k + off) vx.cells.toList) (l' := l.set idx y) (stored'_size _ _ _ (by omega)) he' (by
                intro c hc
                obtain ⟨x, hx, hcx⟩ := mem_flat.1 hc
                rcases List.mem_or_eq_of_mem_set hx with h | h
                · exact ho c (mem_flat.2 ⟨x, h, hcx⟩)
                · subst h; exact hy1 c hcx) (by simp) (by
                refine rowRel_set hr (by rw [hfl, hfl']) ?_
                intro j hj
                rw [hfl] at hj
                rw [flat_set he hk hidx hy j hj, stored'_getD _ _ _ (by omega), hl]
                have hj' : (j / k) * k + j % k = j := by rw [Nat.mul_comm]; exact Nat.div_add_mod j k
                have hrm : j % k < k := Nat.mod_lt _ hk
                by_cases hq : j / k = idx
                · rw [if_pos hq, hcells _ hrm]
                  rw [hq] at hj'
                  have hold : (flat l).getD j .nil = (l.getD idx z).cells.getD (j % k) .nil := by
                    have := getD_flat he hidx hrm z
                    rw [hj'] at this
                    exact this
                  by_cases hin : off ≤ j % k ∧ j % k < off + ti.size
                  · rw [if_pos hin, if_pos (by omega)]
                    refine .inr ⟨fun hd => ⟨?_, ?_⟩, ?_⟩
                    · rw [hold]
                      exact hsc hd _ (cells_getD_mem (by rw [he _ hmemE]; exact hrm))
                    · have := hcells _ hrm
                      rw [if_pos hin] at this
                      rw [← this]
                      exact hsc' hd _ (cells_getD_mem (by rw [hy]; exact hrm))
                    · have := (c3 (j % k - off) (by omega)).2
                      have e : j - (idx * k + off) = j % k - off := by omega
                      rw [e]
                      simpa [List.getD, Array.getD_eq_getD_getElem?] using this
                  · rw [if_neg hin, if_neg (by omega)]
                    exact .inl ⟨rfl, hold.symm⟩
                · rw [if_neg hq]
                  have : ¬ (idx * k + off ≤ j ∧ j < idx * k + off + ti.size) := by
                    intro hin
                    apply hq
                    apply Nat.div_eq_of_lt_le
                    · omega
                    · rw [Nat.succ_mul]; omega
                  rw [if_neg this]
                  exact .inl ⟨rfl, rfl⟩)
              refine ⟨undef, _, φ', .inr ⟨?_, rfl⟩, a1, a2, a3, .junk⟩
              simp only [Instr.storeAt, Instr.sureAddr, Sem.run_bind, Sem.run_pure, Result.andThen_ok, hrun]
        split at h
        · rename_i hk1
          simp only [Option.some.injEq, Prod.mk.injEq] at h
          obtain ⟨rfl, rfl⟩ := h
          obtain ⟨hvc', rfl, rfl, hidx, rfl, hts, hs⟩ := hvc
          have hk1 : k = 1 := by simpa using hk1
          subst hk1
          obtain ⟨c1, c2, c3⟩ := cellsD_sound hx hc hvc'
          have hone1 : (xs.getD 0 .nil).one = true := (c3 0 (by omega)).1
          have hcy : (xs.getD 0 .nil).cells = [xs.getD 0 .nil] := by
            generalize xs.getD 0 .nil = y at hone1
            cases y <;> first | rfl | simp [D.one] at hone1
          have hsc : ∀ {y : D}, y.scalar = true → y.cells = [y] := fun {y} hy => by cases y <;> first | rfl | simp [D.scalar] at hy
          refine key hvc' ⟨rfl, rfl⟩ hidx (by omega) _ (by rw [hcy]; rfl) ?_ ?_ ?_ ?_
          · rw [hcy]; intro c hc; simp only [List.mem_singleton] at hc; subst hc; exact hone1
          · intro hd; rw [hsc (hs hd).1]; intro c hc; simp only [List.mem_singleton] at hc; subst hc; exact (hs hd).1
          · intro hd; rw [hcy]; intro c hc; simp only [List.mem_singleton] at hc; subst hc; exact (hs hd).2
          · intro j hj
            obtain rfl : j = 0 := by omega
            rw [if_pos (by omega), hcy]
            rfl
        · rename_i hk1
          simp only [Option.some.injEq, Prod.mk.injEq] at h
          obtain ⟨rfl, rfl⟩ := h
          obtain ⟨hvc', rfl, rfl, hidx, hfit, hk2, hss⟩ := hvc
          obtain ⟨c1, c2, c3⟩ := cellsD_sound hx hc hvc'
          obtain ⟨hk, he, ho, hlim, hrel⟩ := s.rel i _ hi
          have hmemE : l.getD idx z ∈ l := getD_mem hidx
          have hcl := he _ hmemE
          have hcf : cellsFrom (l.getD idx z) 0 k = (l.getD idx z).cells := by
            apply List.ext_getElem (by rw [cellsFrom_length, hcl])
            intro m h1 h2
            rw [getElem_eq_getD _ _ _ .nil, getElem_eq_getD _ _ _ .nil, cellsFrom_getD _ _ _ _ (by omega), Nat.zero_add, cellAt_eq _ _ (by omega)]
          have hmem : ∀ {Q : D → Prop}, (∀ c ∈ cellsFrom (l.getD idx z) 0 k, Q c) → (∀ c ∈ xs, Q c) → ∀ c ∈ setD (cellsFrom (l.getD idx z) 0 k) off xs, Q c := by
            intro Q q1 q2 c hc
            obtain ⟨m, hm, rfl⟩ := List.getElem_of_mem hc
            rw [length_setD, cellsFrom_length] at hm
            rw [getElem_eq_getD _ _ _ .nil, getD_setD _ _ _ (by rw [cellsFrom_length]; omega)]
            split
            · exact q2 _ (getD_mem (by omega))
            · exact q1 _ (getD_mem (by rw [cellsFrom_length]; exact hm))
          refine key hvc' ⟨rfl, rfl⟩ hidx hfit _ (by simp only [D.cells, length_setD, cellsFrom_length]) ?_ ?_ (fun hd => hmem (hss hd).1 (hss hd).2) ?_
          · refine hmem ?_ ?_
            · rw [hcf]; exact fun c hc => ho c (mem_flat.2 ⟨_, hmemE, hc⟩)
            · intro c hc
              obtain ⟨m, hm, rfl⟩ := List.getElem_of_mem hc
              rw [getElem_eq_getD _ _ _ .nil]
              exact (c3 m (by omega)).1
          · intro hd; rw [← hcf]; exact (hss hd).1
          · intro j hj
            show (setD (cellsFrom (l.getD idx z) 0 k) off xs).getD j .nil = _
            rw [getD_setD _ _ _ (by rw [cellsFrom_length]; omega), c1, hcf]
      · simp at h
    · simp at h
  · simp at h

end Go.VL
