/- Part 29: arguments of whatever plain type (numbers, truth values, slices, structs) as data. Conditions: none; lemmas. -/
import Derived.Test.YtfinoodiofghkaaVL28
import Derived.SizedLaws
import Derived.ReadAgain
set_option linter.unusedVariables false
set_option linter.unusedSimpArgs false
namespace Go.VL
open Go.WideShapes Go.ChangeShapes

/-- The types within 't' are in the table. -/
def known (T : Nat → Option TI) : Nat → Nat → Prop
  | 0, _ => False
  | f + 1, t =>
    match T t with
    | some ti =>
      match ti.ty with
      | .int _ => True
      | .bool => True
      | .slice e => (match T e with | some ei => 0 < ei.bytes ∧ 0 < ei.size | none => False) ∧ known T f e
      | .struct fs => ∀ p ∈ fs, known T f p.2
      | _ => False
    | none => False

def shpF (R : Nat → D → Prop) : List (Nat × Nat) → List D → Prop
  | [], [] => True
  | p :: fs, y :: ys => R p.2 y ∧ shpF R fs ys
  | _, _ => False
/-- Data of the type 't'. -/
def shp (T : Nat → Option TI) : Nat → Nat → D → Prop
  | 0, _, _ => False
  | f + 1, t, x =>
    match T t with
    | some ti =>
      match ti.ty with
      | .int k => ∃ n, x = .int k n
      | .bool => ∃ b, x = .bool b
      | .slice e => (match T e with | some ei => ∃ l, x = .lst ei.size l ∧ ∀ y ∈ l, shp T f e y | none => False)
      | .struct fs => ∃ ys, x = .agg (ys.flatMap D.cells) ∧ shpF (shp T f) fs ys
      | _ => False
    | none => False

/-- The cells of a value read as those of the data. -/
structure CellsR (w : World) (x : D) (cs : List Value) : Prop where
  len : x.cells.length = cs.length
  one : ∀ c ∈ x.cells, c.one = true
  fz : ∀ j, j < cs.length → FZ (fun b => b < w.heap.size) w (x.cells.getD j .nil) (cs.getD j undef)
structure CellsL (w : World) (l : List D) (cs : List Value) : Prop where
  len : l.length = cs.length
  one : ∀ c ∈ l, c.one = true
  fz : ∀ j, j < cs.length → FZ (fun b => b < w.heap.size) w (l.getD j .nil) (cs.getD j undef)

theorem CellsR.single {w : World} {x : D} {v : Value} (h : FZ (fun b => b < w.heap.size) w x v) (h1 : x.one = true) : CellsR w x [v] := by
  have e : x.cells = [x] := by cases x <;> first | rfl | simp [D.one] at h1
  refine ⟨by rw [e]; rfl, by rw [e]; simpa using h1, fun j hj => ?_⟩
  rw [e]
  have : j = 0 := by simpa using hj
  subst this
  exact h

theorem lgetD_append {α : Type} (l l' : List α) (j : Nat) (z : α) : (l ++ l').getD j z = if j < l.length then l.getD j z else l'.getD (j - l.length) z := by
  simp only [List.getD]
  by_cases h : j < l.length
  · rw [if_pos h, List.getElem?_append_left h]
  · rw [if_neg h, List.getElem?_append_right (by omega)]

theorem CellsL.append {w : World} {l l' : List D} {cs cs' : List Value} (h : CellsL w l cs) (h' : CellsL w l' cs') : CellsL w (l ++ l') (cs ++ cs') := by
  refine ⟨by simp [h.len, h'.len], ?_, ?_⟩
  · intro c hc
    rcases List.mem_append.1 hc with hc | hc
    · exact h.one c hc
    · exact h'.one c hc
  · intro j hj
    rw [lgetD_append, lgetD_append, h.len]
    split
    · exact h.fz j (by assumption)
    · exact h'.fz _ (by simp at hj; omega)

theorem weightsAll_mem {H : Type} {P : Program} {e : TypeId} : ∀ {l : List (DataW H)} {i : Nat} {d : DataW H}, l[i]? = some d → ∀ n ∈ d.weights P e, n ∈ DataW.weightsAll P e l
  | [], i, d, h, _, _ => by simp at h
  | x :: r, 0, d, h, n, hn => by
    simp at h; subst h
    simp only [DataW.weightsAll, List.mem_append]
    exact .inl hn
  | x :: r, i + 1, d, h, n, hn => by
    simp only [DataW.weightsAll, List.mem_append]
    exact .inr (weightsAll_mem (by simpa using h) n hn)

section
variable {P : Program} {T : Nat → Option TI} {H : Type} {enc : TypeId × Value → H} {w : World} {sp : Nat → Bool} {held : Bool}

theorem cells_cell {base : Nat} {a : Addr} {n : Nat} {cs : List Value} (h : w.cells? base a n = some cs) : base ≤ a.block ∧ cs.length = n ∧ ∀ i, i < n → w.cell? (a.add i) = some (cs.getD i undef) := by
  unfold World.cells? at h
  split at h
  · refine ⟨by assumption, by simpa using mapM_some_length h, fun i hi => ?_⟩
    have h1 := mapM_some_get h i i (by simp [hi])
    have hl : cs.length = n := by simpa using mapM_some_length h
    rw [h1]
    simp [List.getD, show i < cs.length by omega]
  · simp at h

theorem fields_fz (R : Nat → D → Prop) (sz : Nat → Nat) : ∀ (fs : List Field) (base : Nat) (cs : List Value), cs.length = base + (fs.map fun (f : Field) => sz f.type).sum →
    (∀ (i : Nat) (f : Field), fs[i]? = some f → f.offset = base + ((fs.take i).map fun (f : Field) => sz f.type).sum) →
    (∀ (i : Nat) (f : Field), fs[i]? = some f → ∃ y, R f.type y ∧ CellsR w y ((cs.drop f.offset).take (sz f.type))) →
    ∃ ys, shpF R (fs.map fun (f : Field) => (f.offset, f.type)) ys ∧ CellsL w (ys.flatMap D.cells) (cs.drop base)
  | [], base, cs, hl, _, _ => ⟨[], trivial, by
      have : cs.drop base = [] := List.drop_eq_nil_of_le (by simp at hl; omega)
      rw [this]
      exact ⟨rfl, by simp, by simp⟩⟩
  | f :: fs, base, cs, hl, ho, hy => by
    simp only [List.map_cons, List.sum_cons] at hl
    obtain ⟨y, hR, hc⟩ := hy 0 f rfl
    have e0 : f.offset = base := by simpa using ho 0 f rfl
    rw [e0] at hc
    obtain ⟨ys, h1, h2⟩ := fields_fz R sz fs (base + sz f.type) cs (by omega) (fun i g hg => by
      have := ho (i + 1) g (by simpa using hg)
      simpa [Nat.add_assoc] using this) (fun i g hg => hy (i + 1) g (by simpa using hg))
    refine ⟨y :: ys, ⟨hR, h1⟩, ?_⟩
    have e : cs.drop base = (cs.drop base).take (sz f.type) ++ cs.drop (base + sz f.type) := by
      rw [← List.drop_drop, List.take_append_drop]
    rw [e]
    exact CellsL.append ⟨hc.len, hc.one, hc.fz⟩ h2

theorem aadd (a : Addr) (x y : Nat) : (a.add x).add y = a.add (x + y) := by
  by_cases hx : x = 0
  · subst hx; simp [Addr.add]
  · by_cases hy : y = 0
    · subst hy; simp [Addr.add]
    · simp only [Addr.add, if_neg hx, if_neg hy, if_neg (show ¬ x + y = 0 by omega), Nat.add_assoc]
theorem aadd_none (b off x : Nat) : Addr.add ⟨b, off, none⟩ x = ⟨b, off + x, none⟩ := by
  by_cases hx : x = 0
  · subst hx; simp [Addr.add]
  · simp [Addr.add, hx]
theorem aadd_zero (a : Addr) : a.add 0 = a := by simp [Addr.add]

theorem elems_list {α : Type} [Inhabited α] {n : Nat} {p : Nat → α → Prop} (h : ∀ i, i < n → ∃ x, p i x) : ∃ l : List α, l.length = n ∧ ∀ i, i < n → p i (l.getD i default) := by
  induction n with
  | zero => exact ⟨[], rfl, by simp⟩
  | succ n ih =>
    obtain ⟨l, hl, hp⟩ := ih fun i hi => h i (by omega)
    obtain ⟨x, hx⟩ := h n (by omega)
    refine ⟨l ++ [x], by simp [hl], fun i hi => ?_⟩
    rw [lgetD_append, hl]
    by_cases hin : i < n
    · rw [if_pos hin]; exact hp i hin
    · rw [if_neg hin]
      have : i = n := by omega
      subst this
      simpa using hx

set_option maxHeartbeats 1000000 in
theorem trod_fz (hT : TOK P T) (K : Kids P (fun t => t < P.types.size)) : ∀ (f : Nat) (t : Nat) (fuel : Nat) (cs : List Value) (x : DataW H × List MemPlace), known T f t → t < P.types.size →
    DataW.trod enc P w 0 sp held fuel t cs = some x → (∀ n ∈ x.1.weights P t, n ≤ reachBytes) → ∃ d, shp T f t d ∧ CellsR w d cs := by
  intro f
  induction f with
  | zero => intro t fuel cs x hk; exact hk.elim
  | succ f ih =>
    intro t fuel cs x hk htt h hwt
    simp only [known] at hk
    simp only [shp]
    split at hk
    · rename_i ti hti
      obtain ⟨i, d, hinfo, hsz, hby, hz, hund, hty⟩ := (hT t ti hti).ex
      cases fuel with
      | zero => simp [DataW.trod] at h
      | succ fuel =>
      split at hk
      · -- int
        rename_i k hk'
        rw [hk'] at hty
        cases d <;> simp only [tyOf, Ty.int.injEq, reduceCtorEq] at hty
        subst hty
        unfold DataW.trod at h
        rw [hund] at h
        split at h <;> simp_all
        rename_i k' n _
        obtain ⟨⟨rfl, hw⟩, rfl⟩ := h
        exact ⟨_, ⟨_, rfl⟩, CellsR.single (.int (inK_wf hw)) rfl⟩
      · -- bool
        rename_i hk'
        rw [hk'] at hty
        cases d <;> simp only [tyOf, reduceCtorEq] at hty
        unfold DataW.trod at h
        rw [hund] at h
        split at h <;> simp_all
        rename_i b
        cases b
        · exact .inl (CellsR.single .bool rfl)
        · exact .inr (CellsR.single .bool rfl)
      · -- slice
        rename_i e hk'
        rw [hk'] at hty
        cases d <;> simp only [tyOf, Ty.slice.injEq, reduceCtorEq] at hty
        subst hty
        rename_i e
        obtain ⟨hk1, hk2⟩ := hk
        split at hk1
        · rename_i ei hei
          obtain ⟨i', d', hinfo', hsz', hby', _, hund', _⟩ := (hT e ei hei).ex
          have hcells : P.cellsOf e = ei.size := by simp [Program.cellsOf, hinfo', hsz']
          have hbytes : P.bytesOf e = ei.bytes := by simp [Program.bytesOf, hinfo', hby']
          have hlt := K.slice htt hund
          rcases DataW.trod_slice hund h with ⟨rfl, rfl⟩ | ⟨a, len, cap, elems, rest, n, _, rfl, rfl, hb, hl, hm, hlen, hel, hsp, hns⟩
          · exact ⟨.lst ei.size [], ⟨[], rfl, by simp⟩, CellsR.single (.lst0 hk1.2) rfl⟩
          · have hw1 : (elems.length + rest.length) * ei.bytes ≤ reachBytes := by
              refine hwt _ ?_
              simp [DataW.weights, hund, hbytes]
            have hweach : ∀ (j : Nat) (y : DataW H × List MemPlace), elems[j]? = some y → ∀ n ∈ y.1.weights P e, n ≤ reachBytes := by
              intro j y hy n hn
              refine hwt _ ?_
              simp only [DataW.weights, hund, List.mem_cons, List.mem_append]
              exact .inr (.inl (weightsAll_mem (i := j) (by simp [hy]) n hn))
            have hone : ∀ j, j < len → ∃ y : D, shp T f e y ∧ ∃ cs', w.cells? 0 (a.add (j * P.cellsOf e)) (P.cellsOf e) = some cs' ∧ CellsR w y cs' := by
              intro j hj
              have h1 := hel j hj
              have hje : elems[j]? = some elems[j] := List.getElem?_eq_getElem (by omega)
              rw [hje, Option.bind_eq_some_iff] at h1
              obtain ⟨cs', hc', ht'⟩ := h1
              obtain ⟨y, hy1, hy2⟩ := ih e n cs' _ hk2 hlt ht' (hweach j _ hje)
              exact ⟨y, hy1, cs', hc', hy2⟩
            obtain ⟨l, hll, hlp⟩ := elems_list hone
            have hgetD : ∀ j, j < len → l.getD j default = l.getD j .nil := fun j hj => by simp [List.getD, show j < l.length by omega]
            refine ⟨.lst ei.size l, ⟨l, rfl, ?_⟩, ?_⟩
            · intro y hy
              obtain ⟨j, hj, rfl⟩ := List.getElem_of_mem hy
              have := (hlp j (by omega)).1
              simpa [List.getD, hj] using this
            · refine CellsR.single ?_ rfl
              by_cases hl0 : len = 0
              · subst hl0
                have : l = [] := by simpa using hll
                subst this
                exact .lst0 hk1.2
              · have hsize : ∀ x ∈ l, x.cells.length = ei.size := by
                  intro y hy
                  obtain ⟨j, hj, rfl⟩ := List.getElem_of_mem hy
                  obtain ⟨_, cs', hc', hr⟩ := hlp j (by omega)
                  have e1 : l.getD j default = l[j] := by simp [List.getD, hj]
                  rw [e1] at hr
                  rw [hr.len, (cells_cell hc').2.1, hcells]
                have hfl := flat_length hsize
                have hcell : ∀ j, j < len * ei.size → ∃ v, w.cell? (a.add j) = some v ∧ FZ (fun b => b < w.heap.size) w ((flat l).getD j .nil) v := by
                  intro j hj
                  have hq : j / ei.size < len := Nat.div_lt_of_lt_mul (by rw [Nat.mul_comm]; exact hj)
                  have hr' : j % ei.size < ei.size := Nat.mod_lt _ hk1.2
                  obtain ⟨_, cs', hc', hrr⟩ := hlp (j / ei.size) hq
                  obtain ⟨c1, c2, c3⟩ := cells_cell hc'
                  rw [hcells] at c2 c3
                  have hjj : j / ei.size * ei.size + j % ei.size = j := Nat.div_add_mod' j ei.size
                  refine ⟨cs'.getD (j % ei.size) undef, ?_, ?_⟩
                  · have := c3 _ hr'
                    rw [← this, aadd, hjj]
                  · have := hrr.fz (j % ei.size) (by omega)
                    rw [← getD_flat hsize (by omega) hr' default, hjj] at this
                    exact this
                obtain ⟨v0, hv0, _⟩ := hcell 0 (Nat.mul_pos (by omega) hk1.2)
                have hspot : a.spot = none ∧ a.block < w.heap.size := by
                  rw [aadd_zero] at hv0
                  unfold World.cell? at hv0
                  split at hv0
                  · rename_i c _ _ hb0
                    have := (Array.getElem?_eq_some_iff.1 hb0).1
                    split at hv0
                    · simp at hv0
                    · rename_i hs
                      exact ⟨by simpa using hs, this⟩
                  · simp at hv0
                obtain ⟨b, off, spot⟩ := a
                simp only at hspot
                obtain ⟨rfl, hblk⟩ := hspot
                have hlim : len ≤ 281474976710656 := by
                  have : len * 1 ≤ (elems.length + rest.length) * ei.bytes := Nat.mul_le_mul (by omega) hk1.1
                  have hrb : reachBytes = 140737488351232 := rfl
                  omega
                subst hll
                refine .lst (fun j => ((w.cell? ⟨b, off + j, none⟩).getD undef)) hk1.2 hsize ?_ hl hlim hblk ?_ ?_
                · intro c hc
                  obtain ⟨y, hy, hc⟩ := List.mem_flatMap.1 hc
                  obtain ⟨j, hj, rfl⟩ := List.getElem_of_mem hy
                  obtain ⟨_, cs', hc', hr⟩ := hlp j hj
                  have e1 : l.getD j default = l[j] := by simp [List.getD, hj]
                  rw [e1] at hr
                  exact hr.one c hc
                · intro j hj
                  obtain ⟨v, hv, _⟩ := hcell j (by omega)
                  rw [aadd_none] at hv
                  rw [hv]; rfl
                · intro j hj
                  obtain ⟨v, hv, hz⟩ := hcell j (by omega)
                  rw [aadd_none] at hv
                  rw [hv]; exact hz
        · exact hk1.elim
      · -- struct
        rename_i fs hk'
        rw [hk'] at hty
        cases d <;> simp only [tyOf, Ty.struct.injEq, reduceCtorEq] at hty
        rename_i fa
        subst hty
        obtain ⟨xs, n, _, rfl, hcl, hxl, hx⟩ := DataW.trod_struct hund h
        obtain ⟨k1, k2, k3⟩ := K.struct htt hund
        obtain ⟨ys, h1, h2⟩ := fields_fz (w := w) (shp T f) P.cellsOf fa.toList 0 cs (by rw [hcl, k2]; simp) (fun i g hg => by rw [k3 i g hg]; simp) (fun i g hg => by
          have hgi : fa[i]? = some g := by simpa using hg
          have hlt : i < fa.size := (Array.getElem?_eq_some_iff.1 hgi).1
          have h3 := hx i g hgi
          have hxe : xs[i]? = some xs[i] := List.getElem?_eq_getElem (by omega)
          rw [hxe] at h3
          have hmem : (g.offset, g.type) ∈ fa.toList.map fun (f : Field) => (f.offset, f.type) := List.mem_map.2 ⟨g, List.mem_of_getElem? hg, rfl⟩
          exact ih g.type n _ _ (hk _ hmem) (k1 g (List.mem_of_getElem? hg)) h3 (fun m hm => hwt m (by
            simp only [DataW.weights, hund]
            exact DataW.weights_mem_each (j := i) (t := g.type) (d := xs[i].1) (by simp [hg]) (by simp [hxe]) m hm)))
        exact ⟨.agg (ys.flatMap D.cells), ⟨ys, rfl, h1⟩, ⟨by simpa [D.cells] using h2.len, by simpa [D.cells] using h2.one, by simpa [D.cells] using h2.fz⟩⟩
      · exact hk.elim
    · exact hk.elim

end
end Go.VL
