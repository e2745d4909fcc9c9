/- Part 13: append. Conditions: none; lemmas. -/
import Derived.Test.YtfinoodiofghkaaVL12
set_option linter.unusedVariables false
set_option linter.unusedSimpArgs false
namespace Go.VL

variable {P : Program} {S : Nat → Prop} {φ : List (List Nat)} {H : List R} {w : World} {T : Nat → Option TI} {fr : Fr} {a : Act}

/-- The elements of a slice that is read. -/
def srcD (H : List R) (size : Nat) (x : I) : Option (Prop × List D) :=
  match x with
  | .d xd => some (xd.isLst size ∧ 0 < size, xd.elems)
  | .sl i g k lo n =>
    match H[i]? with
    | some (.row g' k' dp l) => some (g = g' ∧ k = k' ∧ k = size ∧ (dp = true → scalars ((l.drop lo).take n) = true), (l.drop lo).take n)
    | _ => none
  | _ => none

structure Src (S : Nat → Prop) (w : World) (k : Nat) (xs : List D) (v : Value) : Prop where
  ex : ∃ a cap, v = .slice a xs.length cap ∧ (xs ≠ [] → ∃ b off, a = some ⟨b, off, none⟩ ∧ ∃ news : List Value, news.length = xs.length * k ∧
    (∀ j u, news[j]? = some u → w.cell? ((⟨b, off, none⟩ : Addr).add j) = some u) ∧ ∀ j, j < xs.length * k → FZ S w ((flat xs).getD j .nil) (news.getD j undef))
  len : ∀ x ∈ xs, x.cells.length = k
  one : ∀ c ∈ flat xs, c.one = true
  lim : xs.length ≤ lim

theorem flat_sub {k : Nat} (hk : 0 < k) {L : List D} (he : ∀ x ∈ L, x.cells.length = k) {l m : Nat} (hm : l + m ≤ L.length) (j : Nat) (hj : j < m * k) :
    l * k + j < (flat L).length ∧ (flat ((L.drop l).take m)).getD j .nil = (flat L).getD (l * k + j) .nil := by
  have hmemE : ∀ x ∈ (L.drop l).take m, x ∈ L := fun x hx => List.mem_of_mem_drop (List.mem_of_mem_take hx)
  have hlen : ((L.drop l).take m).length = m := by simp; omega
  have hfl := flat_length he
  have hm2 := Nat.mul_le_mul_right k hm
  rw [Nat.add_mul] at hm2
  refine ⟨by omega, ?_⟩
  have hq : j / k < m := Nat.div_lt_of_lt_mul (by rw [Nat.mul_comm]; exact hj)
  have hr : j % k < k := Nat.mod_lt _ hk
  have hj' : j = (j / k) * k + j % k := by rw [Nat.mul_comm]; exact (Nat.div_add_mod j k).symm
  have e1 := getD_flat (fun x hx => he x (hmemE x hx)) (i := j / k) (by omega) hr .nil
  have e2 := getD_flat he (i := l + j / k) (by omega) hr .nil
  rw [← hj'] at e1
  rw [Nat.add_mul, Nat.add_assoc, ← hj'] at e2
  rw [e1, e2]
  congr 2
  rw [getD_take _ _ _ _ hq, getD_drop]

theorem srcD_sound (s : Sim S φ H w) {size : Nat} {x : I} {vx : Value} (hx : V S φ H w x vx) {vc : Prop} {xs : List D} (h : srcD H size x = some (vc, xs)) (hvc : vc) : Src S w size xs vx := by
  unfold srcD at h
  split at h
  · rename_i xd
    simp only [Option.some.injEq, Prod.mk.injEq] at h
    obtain ⟨rfl, rfl⟩ := h
    obtain ⟨hl, hs⟩ := hvc
    have hz := hx.fz
    cases hz <;> simp [D.isLst] at hl
    · exact ⟨⟨_, _, rfl, by simp [D.elems]⟩, by simp [D.elems], by simp [D.elems, flat], Nat.zero_le _⟩
    · exact ⟨⟨_, _, rfl, by simp [D.elems]⟩, by simp [D.elems], by simp [D.elems, flat], Nat.zero_le _⟩
    · rename_i k l b off cap f hk he h1 hn hlim hS hc hf
      subst hl
      have hfl := flat_length he
      refine ⟨⟨_, _, rfl, fun _ => ⟨b, off, rfl, (List.range (flat l).length).map f, by simp [D.elems, hfl], ?_, ?_⟩⟩, he, h1, hlim⟩
      · intro j u hj
        have hjl : j < (flat l).length := by
          by_cases hlt : j < (flat l).length
          · exact hlt
          · rw [List.getElem?_eq_none (by simpa using hlt)] at hj; simp at hj
        simp [hjl] at hj
        rw [Addr.add_lit, hc j hjl, hj]
      · intro j hj
        simp only [D.elems] at hj ⊢
        rw [← hfl] at hj
        simpa [List.getD, hj] using hf j hj
  · rename_i i g k lo n
    split at h
    · rename_i g' k' dp l hi
      simp only [Option.some.injEq, Prod.mk.injEq] at h
      obtain ⟨rfl, rfl⟩ := h
      obtain ⟨rfl, rfl, rfl, hsc⟩ := hvc
      cases hx with
      | sl hlt hg hrel ho =>
        obtain ⟨hsl, hle⟩ := hrel dp l hi
        obtain ⟨hk, he, h1, hlim, hr⟩ := s.rel i _ hi
        have hlen : ((l.drop lo).take n).length = n := by simp; omega
        have hmemE : ∀ x ∈ (l.drop lo).take n, x ∈ l := fun x hx => List.mem_of_mem_drop (List.mem_of_mem_take hx)
        have g1 : ∀ x ∈ (l.drop lo).take n, x.cells.length = k := fun x hx => he x (hmemE x hx)
        have g2 : ∀ c ∈ flat ((l.drop lo).take n), c.one = true := fun c hc => by
          obtain ⟨x, hx, hcx⟩ := mem_flat.1 hc
          exact h1 c (mem_flat.2 ⟨x, hmemE x hx, hcx⟩)
        rcases hsl with ⟨hfp, rfl, rfl, rfl⟩ | ⟨b, rest, cap, arr, ty, a, hfp, rfl, hn, hcp, hlim', hb, hfit⟩
        · exact ⟨⟨none, 0, by simp, by simp⟩, g1, g2, by simp [VL.lim]⟩
        · refine ⟨⟨a, cap, by rw [hlen], fun hne => ?_⟩, g1, g2, by rw [hlen]; exact hlim'⟩
          have hn0 : n ≠ 0 := by rintro rfl; simp at hne
          obtain ⟨rfl, hfit'⟩ := hfit (.inl hn0)
          rcases hr with ⟨e, _⟩ | ⟨b', rest', arr', ty', e, hb', hsz, hrr⟩
          · rw [hfp] at e; simp at e
          · rw [hfp] at e
            simp at e
            obtain ⟨rfl, rfl⟩ := e
            rw [hb] at hb'
            simp at hb'
            obtain ⟨rfl, rfl⟩ := hb'
            have hnk : n * k ≤ cap * k := Nat.mul_le_mul_right _ hn
            refine ⟨b, lo * k, rfl, (List.range (n * k)).map fun j => arr.getD (lo * k + j) undef, by simp [hlen], ?_, ?_⟩
            · intro j u hj
              have hjl : j < n * k := by
                by_cases hlt : j < n * k
                · exact hlt
                · rw [List.getElem?_eq_none (by simpa using hlt)] at hj; simp at hj
              simp [hjl] at hj
              rw [Addr.add_lit, cell_of_row w b _ arr ty (0, 0) hb, ← hj]
              have : lo * k + j < arr.size := by omega
              simp [this]
            · intro j hj
              rw [hlen] at hj
              obtain ⟨f1, f2⟩ := flat_sub hk he hle j hj
              have e : ((List.range (n * k)).map fun j => arr.getD (lo * k + j) undef).getD j undef = arr.getD (lo * k + j) undef := by simp [List.getD, hj]
              rw [e, f2]
              cases dp with
              | false => exact hrr.2 _ f1
              | true =>
                obtain ⟨F, _, hF⟩ := hrr
                refine ow_scalar (hF _ f1) ?_ S
                rw [← f2]
                refine scalars_cells (hsc rfl) _ (getD_mem ?_)
                rw [flat_length g1, hlen]
                exact hj
    · simp at h
  · simp at h

/-! ### Runs -/
theorem run_append0 (t ty e : TypeId) {ti ei : TI} (ht : TIOK P t ti) (he : TIOK P e ei) (hy : ti.ty = .slice e) (base : Option Addr) (n cap : Nat) (hn : n ≤ cap) (a : Option Addr) (c : Nat) (w : World) :
    (Builtin.append_ #[t, t] ty #[.slice base n cap, .slice a 0 c]).run P w = .ok (.slice base n cap) w := by
  have hu := ht.und_slice hy
  have hf : (Builtin.firstCells ei.size 0 (.slice a 0 c)).run P w = .ok #[] w := by
    cases a <;> simp [Builtin.firstCells, loadCells, loadCellsFrom]
  simp only [Builtin.append_, Sem.run_bind, run_underlying hu, Result.andThen_ok, he.run_sizeOf, Builtin.lenOf, Sem.run_pure, List.getElem?_toArray, List.getElem?_cons_zero, List.getElem?_cons_succ]
  simp [Sem.run_bind, run_underlying hu, Result.andThen_ok, he.run_sizeOf, Builtin.lenOf, hn, hf]
  cases base <;> simp [storeCells]

theorem run_append_room' (t ty e : TypeId) {ti ei : TI} (ht : TIOK P t ti) (he : TIOK P e ei) (hy : ti.ty = .slice e) (w : World) (g sLen sCap : Nat) (cur : Array Value) (ty' : TypeId) (hg : w.heap[g]? = some (.cells cur ty' (0, 0)))
    (a : Addr) (m c : Nat) (news : List Value) (hl : news.length = m * ei.size) (hnews : ∀ j u, news[j]? = some u → w.cell? (a.add j) = some u) (h1 : ∀ u ∈ news, u.oneCell' = true)
    (hroom : sLen + m ≤ sCap) (hfit : sLen * ei.size + news.length ≤ cur.size) :
    (Builtin.append_ #[t, t] ty #[.slice (some ⟨g, 0, none⟩) sLen sCap, .slice (some a) m c]).run P w =
      .ok (.slice (some ⟨g, 0, none⟩) (sLen + m) sCap) (w.setRow g (stored' cur (sLen * ei.size) news)) := by
  have hu := ht.und_slice hy
  obtain ⟨i, d, i1, i2, i3, i4, i5, i6⟩ := he.ex
  have hf := run_firstCells_some (P := P) w ei.size m a m c news hl hnews
  have hst := run_storeCells_at P g (sLen * ei.size) ty' news 0 cur w hg (by simpa using hfit) h1
  simp only [Nat.add_zero] at hst
  rw [← i2] at hf hst hfit hl ⊢
  simp [Builtin.append_, run_underlying hu, sizeOf, typeInfo, i1, Builtin.lenOf, hroom, hf, Addr.add_lit, hst, stored']

/-- The cells behind an append that took new room. -/
theorem new_cells {olds news : List Value} {z : Array Value} {n m k c : Nat} (h1 : olds.length = n * k) (h2 : news.length = m * k) (hz : z.size = k) (hc : n + m ≤ c) :
    (olds.toArray ++ news.toArray ++ Builtin.zeroCells z (c - (n + m))).size = c * k ∧
    ∀ j, j < (n + m) * k → (olds.toArray ++ news.toArray ++ Builtin.zeroCells z (c - (n + m))).getD j undef = if j < n * k then olds.getD j undef else news.getD (j - n * k) undef := by
  refine ⟨?_, fun j hj => ?_⟩
  · simp only [Array.size_append, List.size_toArray, size_zeroCells, h1, h2, hz, ← Nat.add_mul]
    congr 1
    omega
  · rw [Nat.add_mul] at hj
    simp only [Array.getD_eq_getD_getElem?]
    rw [Array.getElem?_append_left (by simp; omega)]
    by_cases h : j < n * k
    · rw [if_pos h, Array.getElem?_append_left (by simp; omega)]
      simp [List.getD]
    · rw [if_neg h, Array.getElem?_append_right (by simp; omega)]
      simp [List.getD, h1]

def sAppend (T : Nat → Option TI) (H : List R) (t t' : Nat) (d x : I) : Option (Prop × I × List R) :=
  match T t with
  | some ti =>
    match ti.ty with
    | .slice e =>
      match T e with
      | some ei =>
        match srcD H ei.size x with
        | some (vc, xs) =>
          match d with
          | .d .nil => some (t = t' ∧ vc ∧ 0 < ei.size ∧ xs.length * ei.bytes ≤ 140737488355328 ∧ 0 < ei.bytes, .sl H.length 0 ei.size 0 xs.length, H ++ [.row 0 ei.size (scalars xs) xs])
          | .sl i g k lo n =>
            match H[i]? with
            | some (.row g' k' dp l) => some (t = t' ∧ vc ∧ g = g' ∧ k = k' ∧ k = ei.size ∧ lo = 0 ∧ n = l.length ∧ (dp = true → scalars xs = true) ∧ (n + xs.length) * ei.bytes ≤ 140737488355328 ∧ 0 < ei.bytes,
                .sl i (g + 1) k 0 (n + xs.length), H.set i (.row (g + 1) k dp (l ++ xs)))
            | _ => none
          | _ => none
        | none => none
      | none => none
    | _ => none
  | none => none

theorem lim_of_bytes {n b : Nat} (h : n * b ≤ 140737488355328) (hb : 0 < b) : n ≤ lim ∧ n ≤ maxLen := by
  have : n * 1 ≤ n * b := Nat.mul_le_mul_left _ hb
  unfold lim maxLen
  omega

theorem news_one {k : Nat} {xs : List D} {news : List Value} (hl : news.length = xs.length * k) (hlen : ∀ x ∈ xs, x.cells.length = k) (h1 : ∀ c ∈ flat xs, c.one = true)
    (hz : ∀ j, j < xs.length * k → FZ S w ((flat xs).getD j .nil) (news.getD j undef)) : ∀ u ∈ news, u.oneCell' = true := by
  intro u hu
  obtain ⟨j, hj, rfl⟩ := List.getElem_of_mem hu
  rw [getElem_eq_getD _ _ _ undef]
  exact (hz j (by omega)).one (h1 _ (getD_mem (by rw [flat_length hlen]; omega)))

theorem rowRel_append {k : Nat} {dp : Bool} {l xs : List D} (hel : ∀ x ∈ l, x.cells.length = k) (hxl : ∀ x ∈ xs, x.cells.length = k) (hsc : dp = true → scalars xs = true)
    {w' : World} {arr arr' : Array Value} {rest : List Nat} (hr : RowRel S w dp (flat l) arr rest) (hS : ∀ b, S b → w'.heap[b]? = w.heap[b]?) (hR : ∀ b ∈ rest, w'.heap[b]? = w.heap[b]?)
    (e1 : ∀ j, j < l.length * k → arr'.getD j undef = arr.getD j undef)
    (e2 : ∀ j, j < xs.length * k → FZ S w ((flat xs).getD j .nil) (arr'.getD (l.length * k + j) undef)) : RowRel S w' dp (flat (l ++ xs)) arr' rest := by
  have hfl := flat_length hel
  have hflx := flat_length hxl
  have hget : ∀ j, (flat (l ++ xs)).getD j .nil = if j < l.length * k then (flat l).getD j .nil else (flat xs).getD (j - l.length * k) .nil := by
    intro j
    rw [flat_append]
    simp only [List.getD]
    by_cases hj : j < (flat l).length
    · rw [List.getElem?_append_left hj, if_pos (by omega)]
    · rw [List.getElem?_append_right (by omega), if_neg (by omega), hfl]
  have hlen : (flat (l ++ xs)).length = l.length * k + xs.length * k := by rw [flat_append, List.length_append, hfl, hflx]
  cases dp with
  | false =>
    refine ⟨hr.1, fun j hj => ?_⟩
    rw [hget]
    split
    · rename_i hjl
      rw [e1 j hjl]
      exact (hr.2 j (by omega)).mono (fun _ h => h) hS
    · rename_i hjl
      have := e2 (j - l.length * k) (by omega)
      rw [show l.length * k + (j - l.length * k) = j by omega] at this
      exact this.mono (fun _ h => h) hS
  | true =>
    obtain ⟨F, rfl, hF⟩ := hr
    refine ⟨fun j => if j < l.length * k then F j else [], ?_, fun j hj => ?_⟩
    · rw [hlen, hfl, List.range_add, List.flatMap_append]
      have p1 : (List.range (l.length * k)).flatMap (fun j => if j < l.length * k then F j else []) = (List.range (l.length * k)).flatMap F := by
        simp only [List.flatMap]
        congr 1
        apply List.map_congr_left
        intro j hj
        rw [if_pos (List.mem_range.1 hj)]
      have p2 : ((List.range (xs.length * k)).map (l.length * k + ·)).flatMap (fun j => if j < l.length * k then F j else []) = [] := by
        rw [List.flatMap_eq_nil_iff]
        intro j hj
        obtain ⟨m, _, rfl⟩ := List.mem_map.1 hj
        rw [if_neg (by omega)]
      rw [p1, p2, List.append_nil]
    · rw [hget]
      by_cases hjl : j < l.length * k
      · simp only [if_pos hjl]
        rw [e1 j hjl]
        exact (hF j (by omega)).keep fun b hb => hR b (mem_flatMap_range (by omega) hb)
      · simp only [if_neg hjl]
        have := e2 (j - l.length * k) (by omega)
        rw [show l.length * k + (j - l.length * k) = j by omega] at this
        refine fz_ow (S := S) (this.mono (fun _ h => h) hS) ?_
        exact scalars_cells (hsc rfl) _ (getD_mem (by omega))

/-- A row that has grown. -/
theorem append_upd (s : Sim S φ H w) {i g k : Nat} {dp : Bool} {l xs : List D} (hi : H[i]? = some (.row g k dp l)) {fp' : List Nat} {w' : World} (u : Upd φ w i fp' w') (hk : 0 < k)
    (hel : ∀ z ∈ l ++ xs, z.cells.length = k) (ho : ∀ c ∈ flat (l ++ xs), c.one = true) (hlim : (l ++ xs).length ≤ lim)
    (hrr : (fp' = [] ∧ l ++ xs = []) ∨ ∃ b rest arr ty, fp' = b :: rest ∧ w'.heap[b]? = some (.cells arr ty (0, 0)) ∧ (l ++ xs).length * k ≤ arr.size ∧ RowRel S w' dp (flat (l ++ xs)) arr rest)
    {v' : Value} (hsl : SlRel w' fp' k 0 (l.length + xs.length) v') (ho1 : v'.oneCell' = true) {m : Sem Value} (hrun : m.run P w = .ok v' w') :
    StepOK S φ H w ((do pure (.value (← m)) : Sem Next).run P w) (.sl i (g + 1) k 0 (l.length + xs.length)) (H.set i (.row (g + 1) k dp (l ++ xs))) := by
  have hlt : i < H.length := (List.getElem?_eq_some_iff.1 hi).1
  have hgetD : H.getD i (.dead 0) = .row g k dp l := by simp [List.getD, hi]
  have hφ : i < φ.length := by rw [s.len]; exact hlt
  have hH' : (H.set i (.row (g + 1) k dp (l ++ xs)))[i]? = some (.row (g + 1) k dp (l ++ xs)) := by simp [hlt]
  obtain ⟨q1, q2, q3⟩ := s.update hlt u (r' := .row (g + 1) k dp (l ++ xs)) (by rw [hgetD]; exact Nat.le_succ g) (by
    intro g'' k'' dp'' l'' e''
    simp at e''
    left
    rw [hgetD]
    simp only [R.gen]
    omega) (by simp) (by simp) (by simp) (fun t => ⟨hk, hel, ho, hlim, hrr⟩)
  refine ⟨v', w', _, .inl (by simp [hrun]), q1, q2, q3, .sl (by simp [hlt]) (by simp [List.getD, hH', R.gen]) (fun dp' l' hl' => ?_) ho1⟩
  rw [hH'] at hl'
  simp at hl'
  obtain ⟨rfl, rfl⟩ := hl'
  refine ⟨?_, by simp⟩
  rw [getD_set, if_pos ⟨rfl, hφ⟩]
  exact hsl

set_option maxHeartbeats 400000 in
theorem sAppend_sound (hT : TOK P T) (s : Sim S φ H w) {t t' ty : Nat} {d x : I} {vd vx : Value} (hd : V S φ H w d vd) (hx : V S φ H w x vx) {vc : Prop} {y : I} {H' : List R}
    (h : sAppend T H t t' d x = some (vc, y, H')) (hvc : vc) :
    StepOK S φ H w ((do pure (.value (← Builtin.append_ #[t, t'] ty #[vd, vx])) : Sem Next).run P w) y H' := by
  unfold sAppend at h
  split at h
  · rename_i ti hti
    have ht := hT _ _ hti
    split at h
    · rename_i e hy
      split at h
      · rename_i ei hei
        have he := hT _ _ hei
        have hu := ht.und_slice hy
        obtain ⟨i0, d0, i1, i2, i3, i4, i5, i6⟩ := he.ex
        split at h
        · rename_i vcs xs hsrc
          split at h
          · simp only [Option.some.injEq, Prod.mk.injEq] at h
            obtain ⟨rfl, rfl, rfl⟩ := h
            obtain ⟨rfl, hvcs, hk, hby, hb0⟩ := hvc
            have hs := srcD_sound s hx hsrc hvcs
            have hdz := hd.fz
            cases hdz
            obtain ⟨a, cap, rfl, hne⟩ := hs.ex
            by_cases hx0 : xs = []
            · subst hx0
              obtain ⟨φ', a1, a2, a3, a4⟩ := new_row0 s (k := ei.size) (scalars []) hk
              exact ⟨_, _, φ', .inl (by simp [run_append0 t ty e ht he hy none 0 0 (Nat.le_refl _) a cap w]), a1, a2, a3, a4⟩
            · obtain ⟨b, off, rfl, news, hl, hnews, hz⟩ := hne hx0
              have hlim := lim_of_bytes hby hb0
              have hr := run_append_nil (P := P) w t ty e i0 (zeroVal ei.zero) hu i1 i4 ⟨b, off, none⟩ xs.length cap news (by rw [i2]; exact hl) hnews (by have := List.length_pos_iff.2 hx0; omega)
                (by have := hlim.2; unfold maxLen at this; omega) (by rw [i3]; omega)
              have hz0 : (zeroVal ei.zero).cells.size = ei.size := (zero_cell he hk).2.2
              obtain ⟨n1, n2⟩ := new_cells (olds := []) (n := 0) (news := news) (m := xs.length) (k := ei.size) (c := grownCap w xs.length 0 e) (z := (zeroVal ei.zero).cells) (by simp) hl hz0 (by have := grownCap_ge w xs.length 0 e; omega)
              simp only [Nat.zero_add] at n1 n2
              have hfl := flat_length hs.len
              obtain ⟨φ', a1, a2, a3, a4⟩ := new_row s (k := ei.size) (l := xs) (dp := scalars xs) (cap := grownCap w xs.length 0 e) hk hs.len hs.one hs.lim (grownCap_ge w _ _ _) (grownCap_le_maxLen w _ _ _ hlim.2) (Nat.le_of_eq n1.symm) e (upd_drew_alloc s _) (heap_alloc_new w.drew _)
                (rowRel_of_fz _ (fun hd => scalars_cells hd) (fun j hj => by
                  rw [hfl] at hj
                  rw [n2 j hj, if_neg (by omega)]
                  simpa using hz j hj))
              have e0 : ([] : List Value).toArray ++ news.toArray = news.toArray := by simp
              rw [e0] at a1 a2 a3 a4
              exact ⟨_, _, φ', .inl (by simp [hr]), a1, a2, a3, a4⟩
          · rename_i i g k lo n
            split at h
            · rename_i g' k' dp l hi
              simp only [Option.some.injEq, Prod.mk.injEq] at h
              obtain ⟨rfl, rfl, rfl⟩ := h
              obtain ⟨rfl, hvcs, rfl, rfl, rfl, rfl, rfl, hsc, hby, hb0⟩ := hvc
              have hs := srcD_sound s hx hsrc hvcs
              have hlim := lim_of_bytes hby hb0
              obtain ⟨a, cap, rfl, hne⟩ := hs.ex
              have hlt : i < H.length := (List.getElem?_eq_some_iff.1 hi).1
              have hgetD : H.getD i (.dead 0) = .row g ei.size dp l := by simp [List.getD, hi]
              have hφ : i < φ.length := by rw [s.len]; exact hlt
              obtain ⟨hk, hel, ho1, hlim', hrel⟩ := s.rel i _ hi
              have hfl := flat_length hel
              have hflx := flat_length hs.len
              have hel' : ∀ z ∈ l ++ xs, z.cells.length = ei.size := fun z hz => by
                rcases List.mem_append.1 hz with h | h
                · exact hel z h
                · exact hs.len z h
              have ho1' : ∀ c ∈ flat (l ++ xs), c.one = true := fun c hc => by
                rw [flat_append] at hc
                rcases List.mem_append.1 hc with h | h
                · exact ho1 c h
                · exact hs.one c h
              have hH' : (H.set i (.row (g + 1) ei.size dp (l ++ xs)))[i]? = some (.row (g + 1) ei.size dp (l ++ xs)) := by simp [hlt]
              cases hd with
              | sl hlt' hg hdr hone =>
                obtain ⟨hsl, hle⟩ := hdr dp l hi
                have hkeepS : ∀ {w' : World}, (∀ b, b < w.heap.size → b ∉ φ.getD i [] → w'.heap[b]? = w.heap[b]?) → ∀ b, S b → w'.heap[b]? = w.heap[b]? := fun hk b hb => hk b (s.slt b hb) fun hm => s.off b ⟨i, hm⟩ hb
                by_cases hx0 : xs = []
                · subst hx0
                  simp only [List.append_nil, List.length_nil, Nat.add_zero] at *
                  have u : Upd φ w i (φ.getD i []) w := ⟨rfl, rfl, rfl, Nat.le_refl _, fun _ _ _ => rfl, s.nd i, fun b hb => ⟨.inl hb, s.lt b ⟨i, hb⟩⟩⟩
                  have hrun : ∃ base n cap', vd = .slice base n cap' ∧ n ≤ cap' ∧ n = l.length := by
                    rcases hsl with ⟨_, _, hl0, rfl⟩ | ⟨b, rest, cap', arr, ty', a', hfp, rfl, hn, _⟩
                    · exact ⟨none, 0, 0, rfl, Nat.le_refl _, hl0.symm⟩
                    · exact ⟨_, _, _, rfl, hn, rfl⟩
                  obtain ⟨base, n, cap', rfl, hnc, hn⟩ := hrun
                  have := append_upd (P := P) (xs := []) s hi u hk (by simpa using hel) (by simpa using ho1) (by simpa using hlim') (by simpa using hrel) (by simpa using hsl) rfl (run_append0 t ty e ht he hy base n cap' hnc a cap w)
                  simpa using this
                · obtain ⟨b, off, rfl, news, hl, hnews, hz⟩ := hne hx0
                  have hpos := List.length_pos_iff.2 hx0
                  have hz0 : (zeroVal ei.zero).cells.size = ei.size := (zero_cell he hk).2.2
                  have hone' := news_one hl hs.len hs.one hz
                  -- new room
                  have grown : ∀ (olds : List Value) (old : Nat) (rest : List Nat) (arr : Array Value), olds.length = l.length * ei.size → (∀ j, j < l.length * ei.size → olds.getD j undef = arr.getD j undef) → RowRel S w dp (flat l) arr rest → (∀ b ∈ rest, b ∈ φ.getD i []) → rest.Nodup →
                      (Builtin.append_ #[t, t] ty #[vd, .slice (some ⟨b, off, none⟩) xs.length cap]).run P w = .ok (.slice (some ⟨w.heap.size, 0, none⟩) (l.length + xs.length) (grownCap w (l.length + xs.length) old e))
                        (w.drew.alloc (.cells (olds.toArray ++ news.toArray ++ Builtin.zeroCells (zeroVal ei.zero).cells (grownCap w (l.length + xs.length) old e - (l.length + xs.length))) e)) →
                      StepOK S φ H w ((do pure (.value (← Builtin.append_ #[t, t] ty #[vd, .slice (some ⟨b, off, none⟩) xs.length cap])) : Sem Next).run P w) (.sl i (g + 1) ei.size 0 (l.length + xs.length)) (H.set i (.row (g + 1) ei.size dp (l ++ xs))) := by
                    intro olds old rest arr ho he1 hrr hsub hnd hrun
                    obtain ⟨n1, n2⟩ := new_cells (olds := olds) (n := l.length) (news := news) (m := xs.length) (k := ei.size) (c := grownCap w (l.length + xs.length) old e) (z := (zeroVal ei.zero).cells) ho hl hz0 (grownCap_ge w _ _ _)
                    have hkeep : ∀ b', b' < w.heap.size → (w.drew.alloc (.cells (olds.toArray ++ news.toArray ++ Builtin.zeroCells (zeroVal ei.zero).cells (grownCap w (l.length + xs.length) old e - (l.length + xs.length))) e)).heap[b']? = w.heap[b']? := fun b' hb' => heap_alloc_old w.drew _ hb'
                    have u : Upd φ w i (w.heap.size :: rest) (w.drew.alloc (.cells (olds.toArray ++ news.toArray ++ Builtin.zeroCells (zeroVal ei.zero).cells (grownCap w (l.length + xs.length) old e - (l.length + xs.length))) e)) := by
                      refine ⟨rfl, rfl, rfl, by simp, fun b' hb' _ => hkeep b' hb', List.nodup_cons.2 ⟨fun hm => ?_, hnd⟩, fun b' hb' => ?_⟩
                      · have := s.lt _ ⟨i, hsub _ hm⟩; omega
                      · rcases List.mem_cons.1 hb' with rfl | hb'
                        · exact ⟨.inr (Nat.le_refl _), by simp⟩
                        · have := s.lt _ ⟨i, hsub _ hb'⟩
                          exact ⟨.inl (hsub _ hb'), by simp; omega⟩
                    have hbn := heap_alloc_new w.drew (.cells (olds.toArray ++ news.toArray ++ Builtin.zeroCells (zeroVal ei.zero).cells (grownCap w (l.length + xs.length) old e - (l.length + xs.length))) e)
                    have hcap := grownCap_ge w (l.length + xs.length) old e
                    have hcm := grownCap_le_maxLen w (l.length + xs.length) old e hlim.2
                    have hmk : (l.length + xs.length) * ei.size ≤ grownCap w (l.length + xs.length) old e * ei.size := Nat.mul_le_mul_right _ hcap
                    have hrow := rowRel_append (w' := (w.drew.alloc (.cells (olds.toArray ++ news.toArray ++ Builtin.zeroCells (zeroVal ei.zero).cells (grownCap w (l.length + xs.length) old e - (l.length + xs.length))) e))) hel hs.len hsc hrr
                      (fun b' hb' => hkeep b' (s.slt b' hb')) (fun b' hb' => hkeep b' (s.lt _ ⟨i, hsub _ hb'⟩)) (arr' := olds.toArray ++ news.toArray ++ Builtin.zeroCells (zeroVal ei.zero).cells (grownCap w (l.length + xs.length) old e - (l.length + xs.length))) (by
                        intro j hj
                        rw [n2 j (by rw [Nat.add_mul]; omega), if_pos hj]
                        exact he1 j hj) (by
                        intro j hj
                        rw [n2 _ (by rw [Nat.add_mul]; omega), if_neg (by omega)]
                        simpa using hz j hj)
                    have hsl' : SlRel (w.drew.alloc (.cells (olds.toArray ++ news.toArray ++ Builtin.zeroCells (zeroVal ei.zero).cells (grownCap w (l.length + xs.length) old e - (l.length + xs.length))) e)) (w.heap.size :: rest) ei.size 0 (l.length + xs.length)
                        (.slice (some ⟨w.heap.size, 0, none⟩) (l.length + xs.length) (grownCap w (l.length + xs.length) old e)) :=
                      .inr ⟨_, rest, _, _, e, _, rfl, rfl, hcap, hcm, hlim.1, hbn, fun _ => ⟨by simp, by rw [n1]; omega⟩⟩
                    exact append_upd (P := P) s hi u hk hel' ho1' (by rw [List.length_append]; exact hlim.1) (.inr ⟨_, rest, _, e, rfl, hbn, by rw [List.length_append, n1]; exact hmk, hrow⟩) hsl' rfl hrun
                  rcases hsl with ⟨hfp, _, hl0, rfl⟩ | ⟨b', rest, cap', arr, ty', a', hfp, rfl, hn, hcm, hlim2, hb, hfit⟩
                  · have hlnil : l = [] := List.eq_nil_of_length_eq_zero hl0
                    subst hlnil
                    have hr := run_append_nil (P := P) w t ty e i0 (zeroVal ei.zero) hu i1 i4 ⟨b, off, none⟩ xs.length cap news (by rw [i2]; exact hl) hnews (by omega)
                      (by have := hlim.2; unfold maxLen at this; simp at this; omega) (by rw [i3]; simp at hby; omega)
                    refine grown [] 0 [] #[] (by simp) (by simp) ?_ (by simp) (by simp) (by simpa using hr)
                    exact rowRel_of_fz dp (by simp [flat]) (by simp [flat])
                  · obtain ⟨rfl, hfit'⟩ := hfit (.inr rfl)
                    simp only [Nat.zero_mul, Nat.zero_add] at hfit' ⊢
                    simp only [Nat.zero_mul] at grown
                    have hrow : RowRel S w dp (flat l) arr rest ∧ l.length * ei.size ≤ arr.size := by
                      rcases hrel with ⟨e1, _⟩ | ⟨b2, rest2, arr2, ty2, e1, e2, e3, e4⟩
                      · rw [hfp] at e1; simp at e1
                      · rw [hfp] at e1
                        simp at e1
                        obtain ⟨rfl, rfl⟩ := e1
                        rw [hb] at e2
                        simp at e2
                        obtain ⟨rfl, rfl⟩ := e2
                        exact ⟨e4, e3⟩
                    have hndi := s.nd i
                    rw [hfp] at hndi
                    by_cases hroom : l.length + xs.length ≤ cap'
                    · have hmk : (l.length + xs.length) * ei.size ≤ cap' * ei.size := Nat.mul_le_mul_right _ hroom
                      rw [Nat.add_mul] at hmk
                      have hr := run_append_room' t ty e ht he hy w b' l.length cap' arr ty' hb ⟨b, off, none⟩ xs.length cap news hl hnews hone' hroom (by omega)
                      have hb2 := setRow_heap w b' arr (stored' arr (l.length * ei.size) news) ty' (0, 0) hb
                      have hsz2 := stored'_size arr (l.length * ei.size) news (by omega)
                      have hk2 : ∀ b2, b2 ≠ b' → (w.setRow b' (stored' arr (l.length * ei.size) news)).heap[b2]? = w.heap[b2]? := fun b2 h2 => setRow_other w b' b2 _ h2
                      have hrow' := rowRel_append (w' := w.setRow b' (stored' arr (l.length * ei.size) news)) hel hs.len hsc hrow.1 (fun b2 h2 => hk2 b2 fun e => s.off b2 ⟨i, by rw [hfp, e]; simp⟩ h2)
                        (fun b2 h2 => hk2 b2 fun e => (List.nodup_cons.1 hndi).1 (e ▸ h2)) (arr' := stored' arr (l.length * ei.size) news) (by
                          intro j hj
                          rw [stored'_getD _ _ _ (by omega), if_neg (by omega)]) (by
                          intro j hj
                          rw [stored'_getD _ _ _ (by omega), if_pos (by omega)]
                          simpa using hz j hj)
                      have hsl' : SlRel (w.setRow b' (stored' arr (l.length * ei.size) news)) (b' :: rest) ei.size 0 (l.length + xs.length) (.slice (some ⟨b', 0, none⟩) (l.length + xs.length) cap') :=
                        .inr ⟨b', rest, cap', _, ty', _, rfl, rfl, hroom, hcm, hlim.1, hb2, fun _ => ⟨by simp, by rw [hsz2]; omega⟩⟩
                      exact append_upd (P := P) s hi (upd_setRow s hfp (stored' arr (l.length * ei.size) news)) hk hel' ho1' (by rw [List.length_append]; exact hlim.1)
                        (.inr ⟨b', rest, _, ty', rfl, hb2, by rw [List.length_append, hsz2, Nat.add_mul]; omega, hrow'⟩) hsl' rfl hr
                    · have h63 : ((l.length + xs.length : Nat) : Int) ≤ 9223372036854775807 := by have := hlim.2; unfold maxLen at this; omega
                      have hfit2 : Builtin.nextslicecap (l.length + xs.length) cap' * i0.bytes ≤ 281474976710656 := growslice_fits (by omega) (by rw [i3]; exact hby)
                      have hl2 : news.length = xs.length * i0.size := by rw [i2]; exact hl
                      have ho2 : ((List.range (l.length * ei.size)).map fun j => arr.getD j undef).length = l.length * i0.size := by simp [i2]
                      have hr := run_append_grow (P := P) w t ty e i0 (zeroVal ei.zero) hu i1 i4 ⟨b', 0, none⟩ l.length cap' ((List.range (l.length * ei.size)).map fun j => arr.getD j undef) ho2 (by
                          intro j v hj
                          have hjl : j < l.length * ei.size := by
                            by_cases hlt : j < l.length * ei.size
                            · exact hlt
                            · rw [List.getElem?_eq_none (by simpa using hlt)] at hj; simp at hj
                          simp [hjl] at hj
                          rw [Addr.add_lit, cell_of_row w b' _ arr ty' (0, 0) hb, ← hj]
                          have : j < arr.size := by omega
                          simp [this]) ⟨b, off, none⟩ xs.length cap news hl2 hnews (by omega) h63 hfit2
                      exact grown ((List.range (l.length * ei.size)).map fun j => arr.getD j undef) cap' rest arr (by simp) (fun j hj => by simp [List.getD, hj]) hrow.1 (fun b2 h2 => by rw [hfp]; simp [h2]) (List.nodup_cons.1 hndi).2 hr
            · simp at h
          · simp at h
        · simp at h
      · simp at h
    · simp at h
  · simp at h

end Go.VL
