/- Part 11: slice literals, make, stores. Conditions: none; lemmas. -/
import Derived.Test.YtfinoodiofghkaaVL10
set_option linter.unusedVariables false
set_option linter.unusedSimpArgs false
namespace Go.VL

variable {P : Program} {S : Nat → Prop} {φ : List (List Nat)} {H : List R} {w : World} {T : Nat → Option TI} {fr : Fr} {a : Act}

theorem litParts_length {size : Nat} : ∀ {parts : List (Nat × I)} {i : Nat} {vc : Prop} {l : List D}, litParts size i parts = some (vc, l) → l.length = parts.length
  | [], i, vc, l, h => by simp [litParts] at h; simp [← h.2]
  | (j, .d x) :: r, i, vc, l, h => by
    simp only [litParts] at h
    split at h
    · rename_i vc' l' hr
      simp only [Option.some.injEq, Prod.mk.injEq] at h
      obtain ⟨_, rfl⟩ := h
      simp [litParts_length hr]
    · simp at h
  | (_, .agg _) :: _, i, vc, l, h | (_, .sl ..) :: _, i, vc, l, h | (_, .ptr ..) :: _, i, vc, l, h | (_, .eptr ..) :: _, i, vc, l, h | (_, .bor ..) :: _, i, vc, l, h | (_, .bptr ..) :: _, i, vc, l, h
  | (_, .map _) :: _, i, vc, l, h | (_, .fn ..) :: _, i, vc, l, h | (_, .tup _) :: _, i, vc, l, h | (_, .own _) :: _, i, vc, l, h | (_, .cond ..) :: _, i, vc, l, h | (_, .junk) :: _, i, vc, l, h => by simp [litParts] at h

theorem sLit_sound (hT : TOK P T) (s : Sim S φ H w) {t len : Nat} {parts : List (Nat × I)} {vps : List (Nat × Value)} (hl : parts.length = vps.length)
    (hv : ∀ (j i : Nat) (x : I), parts[j]? = some (i, x) → ∃ v : Value, vps[j]? = some (i, v) ∧ V S φ H w x v) {vc : Prop} {y : I} {H' : List R} (h : sLit T H t len parts = some (vc, y, H')) (hvc : vc) :
    StepOK S φ H w ((do pure (.value (← Instr.buildSlice t len vps.toArray)) : Sem Next).run P w) y H' := by
  unfold sLit at h
  split at h
  · rename_i ti hti
    have ht := hT _ _ hti
    split at h
    · rename_i e hy
      split at h
      · rename_i ei hei
        have he := hT _ _ hei
        split at h
        · rename_i vc' l hp
          simp only [Option.some.injEq, Prod.mk.injEq] at h
          obtain ⟨rfl, rfl, rfl⟩ := h
          obtain ⟨hvc', hlen, hs, hsmall⟩ := hvc
          have hu := ht.und_slice hy
          obtain ⟨zc, hzc⟩ : ∃ zc : Array Value, zc = (if len * ei.size = 0 then #[] else (zeroVal ei.zero).cells) := ⟨_, rfl⟩
          obtain ⟨arr', f1, f2, f3, f4, f5⟩ := fill_lit (S := S) (φ := φ) (H := H) (w := w) hs parts vps 0 hl hv hp hvc' [] ((Array.range (len * ei.size)).map (zc[· % zc.size]!)) (by simp) (by simp [hlen]) (by simp)
          simp only [List.nil_append] at f5
          have hb := heap_alloc_new w (.cells arr' e)
          have hlim : l.length ≤ lim := by
            have : len * 1 ≤ len * ei.size := Nat.mul_le_mul_left _ hs
            unfold lim
            omega
          obtain ⟨φ', a1, a2, a3, a4⟩ := new_row s (cap := l.length) (dp := scalars l) hs f3 f4 hlim (Nat.le_refl _) (by unfold lim at hlim; unfold maxLen; omega) (by rw [f2]; simp [hlen]) e (upd_alloc s _) hb
            (rowRel_of_fz _ (fun hd => scalars_cells hd) f5)
          refine ⟨_, _, φ', .inl ?_, a1, a2, a3, a4⟩
          have hrun : (Instr.buildSlice t len vps.toArray).run P w = .ok (.slice (some ⟨w.heap.size, 0, none⟩) l.length l.length) (w.alloc (.cells arr' e)) := by
            simp only [Instr.buildSlice, Sem.run_bind, run_underlying hu, Result.andThen_ok, he.run_sizeOf]
            rw [if_neg (by omega)]
            by_cases h0 : len * ei.size = 0
            · rw [if_pos h0] at hzc ⊢
              subst hzc
              simp only [Sem.run_bind, Sem.run_pure, Result.andThen_ok, List.toList_toArray, f1, newRow, run_newObj, hlen]
              rfl
            · rw [if_neg h0] at hzc ⊢
              subst hzc
              simp only [Sem.run_bind, Sem.run_pure, Result.andThen_ok, he.run_zero, List.toList_toArray, f1, newRow, run_newObj, hlen]
              rfl
          simp only [Sem.run_bind, hrun, Result.andThen_ok, Sem.run_pure]
        · simp at h
      · simp at h
    · simp at h
  · simp at h

/-! ### make -/
def sMake (T : Nat → Option TI) (H : List R) (t : Nat) (l c : I) : Option (Prop × I × List R) :=
  match T t, l, c with
  | some ti, .d l, .d c =>
    match ti.ty with
    | .slice e =>
      match T e with
      | some ei => some (l.isInt .i64 ∧ c.isInt .i64 ∧ 0 ≤ l.toInt ∧ l.toInt ≤ c.toInt ∧ (ei.bytes : Int) * c.toInt ≤ 281474976710656 ∧ 0 < ei.bytes ∧ 0 < ei.size,
          .sl H.length 0 ei.size 0 l.toInt.toNat, H ++ [.row 0 ei.size true (List.replicate l.toInt.toNat ei.zero)])
      | none => none
    | _ => none
  | _, _, _ => none

theorem const_ow {x : D} (h : const1 x = true) : OW w x (val1 x) [] := by
  cases x <;> simp [const1] at h
  · exact .int h
  · exact .bool
  · exact .raw h
  · exact .nil

theorem flat_replicate (n : Nat) (z : D) (k : Nat) (hz : z.cells.length = k) (hk : 0 < k) (j : Nat) (hj : j < n * k) : (flat (List.replicate n z)).getD j .nil = z.cells.getD (j % k) .nil := by
  have hq : j / k < n := Nat.div_lt_of_lt_mul (by rw [Nat.mul_comm]; exact hj)
  have hr : j % k < k := Nat.mod_lt _ hk
  have e := getD_flat (l := List.replicate n z) (k := k) (fun x hx => by rw [List.eq_of_mem_replicate hx]; exact hz) (i := j / k) (by simpa using hq) hr .nil
  have hj' : (j / k) * k + j % k = j := by rw [Nat.mul_comm]; exact Nat.div_add_mod j k
  rw [hj'] at e
  rw [e]
  congr 2
  simp [List.getD, hq]

theorem zero_cell {t : Nat} {ti : TI} (ht : TIOK P t ti) {j : Nat} (hj : j < ti.size) : const1 (ti.zero.cells.getD j .nil) = true ∧ (zeroVal ti.zero).cells.getD j undef = val1 (ti.zero.cells.getD j .nil) ∧ (zeroVal ti.zero).cells.size = ti.size := by
  have hc := ht.const
  have hs := ht.size
  generalize ti.zero = z at *
  cases z with
  | agg cs =>
    simp only [constD, List.all_eq_true] at hc
    simp only [D.cells] at hs
    refine ⟨hc _ (getD_mem (by show j < cs.length; omega)), ?_, by simp [zeroVal, Value.cells, hs]⟩
    simp [zeroVal, Value.cells, D.cells, Array.getD, List.getD, hs, hj]
  | _ =>
    first
      | (simp [constD, const1] at hc; done)
      | (simp only [D.cells, List.length_cons, List.length_nil] at hs
         obtain rfl : j = 0 := by omega
         have hcell : ∀ v : Value, v.oneCell' = true → v.cells = #[v] := fun v hv => by cases v <;> first | rfl | simp [Value.oneCell'] at hv
         have ho := (fz_zero (S := fun _ => False) (w := default) hc).one rfl
         rw [hcell _ ho]
         exact ⟨hc, rfl, by simp [hs]⟩)

theorem sMake_sound (hT : TOK P T) (s : Sim S φ H w) {t : Nat} {l c : I} {vl vc' : Value} (hl : V S φ H w l vl) (hc : V S φ H w c vc') {vc : Prop} {y : I} {H' : List R} (h : sMake T H t l c = some (vc, y, H')) (hvc : vc) :
    StepOK S φ H w ((do pure (.value (← Instr.makeSlice t vl vc')) : Sem Next).run P w) y H' := by
  unfold sMake at h
  split at h
  · rename_i ti l c hti
    have ht := hT _ _ hti
    split at h
    · rename_i e hy
      split at h
      · rename_i ei hei
        have he := hT _ _ hei
        simp only [Option.some.injEq, Prod.mk.injEq] at h
        obtain ⟨rfl, rfl, rfl⟩ := h
        obtain ⟨il, ic, h0, h1, hb, hb0, hs0⟩ := hvc
        obtain ⟨_, rfl, kl⟩ := hl.fz.int_inv il
        obtain ⟨_, rfl, kc⟩ := hc.fz.int_inv ic
        obtain ⟨i, d, i1, i2, i3, i4, i5, i6⟩ := he.ex
        have hr := run_make (P := P) w t e i (zeroVal ei.zero) (ht.und_slice hy) i1 i4 .i64 .i64 l.toInt c.toInt h0 h1 (by rw [i3]; exact hb) (by have := kc.2; simpa using this)
        have hbl := heap_alloc_new w (.cells (madeCells (zeroVal ei.zero).cells (c.toInt.toNat * i.size)) e)
        have hcl : c.toInt.toNat ≤ lim := by
          have h2 : (ei.bytes : Int) * c.toInt ≥ 1 * c.toInt := Int.mul_le_mul_of_nonneg_right (by omega) (by omega)
          unfold lim
          omega
        have hzs := (zero_cell he hs0).2.2
        have hmul : l.toInt.toNat * ei.size ≤ c.toInt.toNat * ei.size := Nat.mul_le_mul_right _ (by omega)
        have he' : ∀ x ∈ List.replicate l.toInt.toNat ei.zero, x.cells.length = ei.size := fun x hx => by rw [List.eq_of_mem_replicate hx]; exact he.size
        have hfl := flat_length he'
        simp only [List.length_replicate] at hfl
        have hcell : ∀ j, j < l.toInt.toNat * ei.size → (madeCells (zeroVal ei.zero).cells (c.toInt.toNat * i.size)).getD j undef = val1 (ei.zero.cells.getD (j % ei.size) .nil) := by
          intro j hj
          have := (zero_cell he (Nat.mod_lt j hs0)).2.1
          rw [← this]
          have hm : j % (zeroVal ei.zero).cells.size < (zeroVal ei.zero).cells.size := Nat.mod_lt _ (by omega)
          rw [hzs] at hm
          simp [madeCells, Array.getD, i2, show j < c.toInt.toNat * ei.size by omega, hzs, hm]
        obtain ⟨φ', a1, a2, a3, a4⟩ := new_row s (k := ei.size) (l := List.replicate l.toInt.toNat ei.zero) (cap := c.toInt.toNat) (dp := true) hs0 he'
          (by
            intro c hc
            obtain ⟨x, hx, hcx⟩ := mem_flat.1 hc
            rw [List.eq_of_mem_replicate hx] at hcx
            obtain ⟨j, hj, rfl⟩ := List.getElem_of_mem hcx
            rw [getElem_eq_getD _ _ _ .nil]
            exact one_const1 (zero_cell he (by rw [← he.size]; exact hj)).1)
          (by simp; omega) (by simp; omega) (by unfold lim at hcl; unfold maxLen; omega) (by simp [madeCells, i2]) e (upd_alloc s _) hbl
          ⟨fun _ => [], by simp, fun j hj => by
            rw [hfl] at hj
            rw [flat_replicate _ _ _ he.size hs0 _ hj, hcell j hj]
            exact const_ow (zero_cell he (Nat.mod_lt j hs0)).1⟩
        simp only [List.length_replicate] at a4
        exact ⟨_, _, φ', .inl (by simp [hr]), a1, a2, a3, a4⟩
      · simp at h
    · simp at h
  · simp at h

/-! ### Stores -/
def setD : List D → Nat → List D → List D
  | cs, _, [] => cs
  | cs, off, x :: r => setD (cs.set off x) (off + 1) r

/-- The cells of a data value to be stored. -/
def cellsD (ti : TI) (x : I) : Option (Prop × List D) :=
  match ti.ty.agg, x with
  | true, .d xd => some (xd.cells.length = ti.size ∧ xd.one = false ∧ (∀ n, xd ≠ .tup n), cellsFrom xd 0 ti.size)
  | false, .d xd => some (ti.size = 1 ∧ xd.one = true, [xd])
  | _, _ => none

def sStore (T : Nat → Option TI) (H : List R) (t : Nat) (p x : I) : Option (Prop × List R) :=
  match T t, p with
  | some ti, .ptr i off =>
    match H[i]? with
    | some (.box cs) =>
      match cellsI ti x with
      | some (vc, xs) => some (vc ∧ off + ti.size ≤ cs.length, H.set i (.box (setCells cs off xs)))
      | none => none
    | _ => none
  | some ti, .eptr i g k idx off z =>
    match H[i]? with
    | some (.row g' k' dp l) =>
      match cellsD ti x with
      | some (vc, xs) =>
        match decide (k = 1) with
        | true => some (vc ∧ g = g' ∧ k = k' ∧ idx < l.length ∧ off = 0 ∧ ti.size = 1 ∧ (dp = true → (l.getD idx z).scalar = true ∧ (xs.getD 0 .nil).scalar = true), H.set i (.row g' k' dp (l.set idx (xs.getD 0 .nil))))
        | false => some (vc ∧ g = g' ∧ k = k' ∧ idx < l.length ∧ off + ti.size ≤ k ∧ 1 < k ∧ (dp = true → (∀ c ∈ cellsFrom (l.getD idx z) 0 k, c.scalar = true) ∧ (∀ c ∈ xs, c.scalar = true)),
            H.set i (.row g' k' dp (l.set idx (.agg (setD (cellsFrom (l.getD idx z) 0 k) off xs)))))
      | none => none
    | _ => none
  | _, _ => none

theorem upd_setRow (s : Sim S φ H w) {i b : Nat} {rest : List Nat} (hfp : φ.getD i [] = b :: rest) (cs : Array Value) : Upd φ w i (b :: rest) (w.setRow b cs) :=
  ⟨rfl, rfl, rfl, by simp, fun b' hb hn => setRow_other w b b' cs (fun e => hn (by rw [hfp, e]; simp)), hfp ▸ s.nd i, fun b' hb => ⟨.inl (by rw [hfp]; exact hb), by simpa using s.lt b' ⟨i, by rw [hfp]; exact hb⟩⟩⟩

/-- The row of values behind stores from 'o' on. -/
def stored' (cur : Array Value) (o : Nat) (vs : List Value) : Array Value := (cur.toList.take o ++ vs ++ cur.toList.drop (o + vs.length)).toArray

theorem stored'_size (cur : Array Value) (o : Nat) (vs : List Value) (h : o + vs.length ≤ cur.size) : (stored' cur o vs).size = cur.size := by
  simp [stored']; omega

theorem stored'_getD (cur : Array Value) (o : Nat) (vs : List Value) (h : o + vs.length ≤ cur.size) (j : Nat) : (stored' cur o vs).getD j undef = if o ≤ j ∧ j < o + vs.length then vs.getD (j - o) undef else cur.getD j undef := by
  simp only [stored', Array.getD_eq_getD_getElem?, List.getElem?_toArray]
  by_cases h1 : j < o
  · rw [if_neg (by omega), List.append_assoc, List.getElem?_append_left (by simp; omega)]
    simp [h1]
  · by_cases h2 : j < o + vs.length
    · rw [if_pos (by omega), List.getElem?_append_left (by simp; omega), List.getElem?_append_right (by simp; omega)]
      have : min o cur.size = o := by omega
      simp [this, List.getD]
    · rw [if_neg (by omega), List.getElem?_append_right (by simp; omega)]
      have : min o cur.size = o := by omega
      simp only [List.length_append, List.length_take, Array.length_toList, this, List.getElem?_drop, Array.getElem?_toList]
      congr 2
      omega

theorem run_storeVar {t : Nat} {ti : TI} (ht : TIOK P t ti) {b o : Nat} {cur : Array Value} {ty : TypeId} {w : World} (hb : w.heap[b]? = some (.cells cur ty (0, 0))) {v : Value} (hv : v.cells.size = ti.size)
    (hfit : o + ti.size ≤ cur.size) (h1 : ∀ j, j < ti.size → (v.cells.getD j undef).oneCell' = true) :
    (storeVar t ⟨b, o, none⟩ v).run P w = .ok () (w.setRow b (stored' cur o v.cells.toList)) := by
  have := run_storeCells_at P b o ty v.cells.toList 0 cur w hb (by simp; omega) (by
    intro u hu
    obtain ⟨j, hj, rfl⟩ := List.getElem_of_mem hu
    have := h1 j (by simpa [hv] using hj)
    simpa [Array.getD, show j < v.cells.size by simpa using hj] using this)
  simp only [Nat.add_zero] at this
  simp only [storeVar, Sem.run_bind, ht.run_sizeOf, Result.andThen_ok]
  rw [if_neg (by omega)]
  simpa [stored'] using this

theorem length_setD (cs : List D) (off : Nat) (xs : List D) : (setD cs off xs).length = cs.length := by
  induction xs generalizing cs off with
  | nil => rfl
  | cons x r ih => simp [setD, ih]

theorem getD_setD (cs : List D) (off : Nat) (xs : List D) (h : off + xs.length ≤ cs.length) (j : Nat) :
    (setD cs off xs).getD j .nil = if off ≤ j ∧ j < off + xs.length then xs.getD (j - off) .nil else cs.getD j .nil := by
  induction xs generalizing cs off with
  | nil => simp [setD]; omega
  | cons x r ih =>
    simp only [List.length_cons] at h ⊢
    simp only [setD]
    rw [ih _ _ (by simp; omega)]
    by_cases h1 : off + 1 ≤ j ∧ j < off + 1 + r.length
    · rw [if_pos h1, if_pos (by omega)]
      rw [show j - off = (j - (off + 1)) + 1 by omega]
      simp [List.getD]
    · rw [if_neg h1]
      by_cases h2 : j = off
      · subst h2
        rw [if_pos (by omega)]
        simp [List.getD, show j < cs.length by omega]
      · rw [if_neg (by omega)]
        simp [List.getD, List.getElem?_set, Ne.symm h2]

theorem flat_set {k : Nat} {l : List D} (he : ∀ x ∈ l, x.cells.length = k) (hk : 0 < k) {idx : Nat} (hi : idx < l.length) {y : D} (hy : y.cells.length = k) (j : Nat) (hj : j < l.length * k) :
    (flat (l.set idx y)).getD j .nil = if j / k = idx then y.cells.getD (j % k) .nil else (flat l).getD j .nil := by
  have hq : j / k < l.length := Nat.div_lt_of_lt_mul (by rw [Nat.mul_comm]; exact hj)
  have hr : j % k < k := Nat.mod_lt _ hk
  have hj' : (j / k) * k + j % k = j := by rw [Nat.mul_comm]; exact Nat.div_add_mod j k
  have he' : ∀ x ∈ l.set idx y, x.cells.length = k := fun x hx => by
    rcases List.mem_or_eq_of_mem_set hx with h | h
    · exact he x h
    · rw [h]; exact hy
  have e1 := getD_flat he' (i := j / k) (by simpa using hq) hr .nil
  have e2 := getD_flat he (i := j / k) hq hr .nil
  rw [hj'] at e1 e2
  rw [e1, e2]
  by_cases h : j / k = idx
  · rw [if_pos h, h]
    simp [List.getD, hi]
  · rw [if_neg h]
    simp [List.getD, List.getElem?_set, Ne.symm h]

end Go.VL
