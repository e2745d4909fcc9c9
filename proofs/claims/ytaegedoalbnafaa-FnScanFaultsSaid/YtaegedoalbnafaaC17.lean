/- Contracts: what a scan chain does. Conditions: none; lemmas. -/
import Derived.Test.YtaegedoalbnafaaC16
set_option maxRecDepth 20000
set_option linter.unusedVariables false
set_option linter.unusedSimpArgs false
namespace Go.Proofs
open Go Go.VL

theorem getD_app_one' {α : Type} {l : List α} {x z : α} {j : Nat} : (l ++ [x]).getD j z = if j < l.length then l.getD j z else if j = l.length then x else z := by
  by_cases h : j < l.length
  · rw [if_pos h, getD_append_lt h]
  · rw [if_neg h]
    by_cases h2 : j = l.length
    · rw [if_pos h2]; subst h2; simp [List.getD]
    · rw [if_neg h2, List.getD_eq_getElem?_getD, List.getElem?_eq_none (by simp; omega)]; rfl
theorem flat_get {c : Circ} {z : Int × Int} : ∀ {n j r : Nat}, j < n → r < 3 → ((List.range n).flatMap (scanGates c)).getD (3 * j + r) z = (scanGates c j).getD r z
  | 0, j, r, h, _ => absurd h (by omega)
  | n + 1, j, r, h, hr => by
    have hl := scanGates_len c n
    rw [List.range_succ, List.flatMap_append]
    by_cases hj : j < n
    · rw [getD_append_lt (by omega)]
      exact flat_get hj hr
    · obtain rfl : j = n := by omega
      rw [List.getD_eq_getElem?_getD, List.getElem?_append_right (by omega), hl, Nat.add_sub_cancel_left]
      simp [List.getD]
theorem scanned_gate1 {c : Circ} {i : Nat} (h : i < c.gates.length) : (scanned c).gates.getD i (0, 0) = (scanLit (2 * (1 + c.inputs)) (c.gates.getD i (0, 0)).1, scanLit (2 * (1 + c.inputs)) (c.gates.getD i (0, 0)).2) := by
  simp only [scanned, cmap]
  rw [getD_append_lt (by simpa using h)]
  simp [List.getD, h]
theorem scanned_gate2 {c : Circ} {j r : Nat} (h : j < c.next.length) (hr : r < 3) : (scanned c).gates.getD (c.gates.length + (3 * j + r)) (0, 0) = (scanGates c j).getD r (0, 0) := by
  simp only [scanned, cmap]
  rw [List.getD_eq_getElem?_getD, List.getElem?_append_right (by simp), List.length_map, Nat.add_sub_cancel_left, ← List.getD_eq_getElem?_getD]
  exact flat_get h hr
theorem scanned_len (c : Circ) : (scanned c).gates.length = c.gates.length + 3 * c.next.length := by
  simp only [scanned, cmap, List.length_append, List.length_map, scanGates_len]
theorem scanned_first (c : Circ) : (scanned c).first = c.first + 2 := by
  simp only [scanned, Circ.first, List.length_map, List.length_range]; omega
theorem scanned_vars (c : Circ) : (scanned c).vars = c.vars + 2 + 3 * c.next.length := by
  rw [Circ.vars, scanned_first, scanned_len, Circ.vars]; omega
theorem scanAt_eq (c : Circ) (j : Nat) : scanAt c j = c.vars + 2 + 3 * j := by
  simp only [scanAt, Circ.vars, Circ.first]; omega
theorem scanLit_ok {c : Circ} {l n : Int} (h : litOk l n) : litOk (scanLit (2 * (1 + c.inputs)) l) (n + 2) := by
  unfold litOk scanLit at *
  split <;> omega
theorem scanFrom_ok {c : Circ} (hi : 0 ≤ c.inputs) {j : Nat} (h : j < c.next.length) : litOk (scanFrom c j) (c.first + 2) := by
  unfold litOk scanFrom Circ.first
  split <;> omega
theorem scanned_valid {c : Circ} (h : canScan c) : (scanned c).Valid := by
  obtain ⟨hv, h1, h2, h3, h4⟩ := h
  have hi := hv.i0
  have hln := hv.ln
  have hf := hv.first_bd
  have hvb := hv.vars_bd
  refine ⟨by simp only [scanned]; omega, by simp only [scanned]; omega, by simp only [scanned, List.length_map, List.length_range]; omega, by rw [scanned_len]; omega, by simp only [scanned, cmap, List.length_append, List.length_map, List.length_cons, List.length_nil]; omega, fun i hi2 => ?_, fun x hx => ?_, fun x hx => ?_⟩
  · rw [scanned_len] at hi2
    rw [scanned_first]
    by_cases hg : i < c.gates.length
    · rw [scanned_gate1 hg]
      obtain ⟨q1, q2⟩ := hv.g i hg
      have r1 := scanLit_ok (c := c) q1
      have r2 := scanLit_ok (c := c) q2
      exact ⟨by rw [show c.first + 2 + (i : Int) = c.first + i + 2 by omega]; exact r1, by rw [show c.first + 2 + (i : Int) = c.first + i + 2 by omega]; exact r2⟩
    · obtain ⟨m, rfl⟩ : ∃ m, i = c.gates.length + m := ⟨i - c.gates.length, by omega⟩
      have hm : m = 3 * (m / 3) + m % 3 := by omega
      have hj : m / 3 < c.next.length := by omega
      rw [hm, scanned_gate2 hj (by omega)]
      have hfr := scanFrom_ok hi hj
      have hnx := scanLit_ok (c := c) (hv.n _ (getD_mem' (z := 0) hj))
      have hsa := scanAt_eq c (m / 3)
      have hve : c.vars = c.first + c.gates.length := rfl
      generalize m / 3 = j at *
      have hr : m % 3 < 3 := by omega
      generalize m % 3 = r at *
      unfold litOk at *
      have hfi : c.first = 1 + c.inputs + c.next.length := rfl
      rcases (show r = 0 ∨ r = 1 ∨ r = 2 by omega) with rfl | rfl | rfl
      · simp only [scanGates, List.getD_cons_zero]; omega
      · simp only [scanGates, List.getD_cons_succ, List.getD_cons_zero]; omega
      · simp only [scanGates, List.getD_cons_succ, List.getD_cons_zero]; omega
  · simp only [scanned] at hx
    obtain ⟨j, hj, rfl⟩ := List.mem_map.1 hx
    have := List.mem_range.1 hj
    rw [scanned_vars]
    unfold litOk scanNext
    rw [scanAt_eq]
    omega
  · simp only [scanned, cmap] at hx
    rw [scanned_vars]
    rcases List.mem_append.1 hx with hx | hx
    · obtain ⟨y, hy, rfl⟩ := List.mem_map.1 hx
      have := scanLit_ok (c := c) (hv.o y hy)
      unfold litOk at *
      omega
    · rw [List.mem_singleton.1 hx]
      unfold litOk
      have hve : c.vars = 1 + c.inputs + c.next.length + c.gates.length := rfl
      omega

/-! ### The values -/
def sh (k v : Nat) : Nat := if v < 1 + k then v else v + 2
theorem scanLit_div {c : Circ} {k : Nat} (hk : (k : Int) = c.inputs) {l : Int} (h : 0 ≤ l) : (scanLit (2 * (1 + c.inputs)) l / 2).toNat = sh k (l / 2).toNat ∧ (decide (scanLit (2 * (1 + c.inputs)) l % 2 = 1) = decide (l % 2 = 1)) := by
  unfold scanLit sh
  constructor
  · split <;> split <;> omega
  · rw [decide_eq_decide]
    split <;> omega
theorem litV_scan {c : Circ} {k : Nat} (hk : (k : Int) = c.inputs) {a b : List Bool} (h : ∀ v, v < b.length → a.getD (sh k v) false = b.getD v false) {l : Int} (h0 : 0 ≤ l) (h1 : l < 2 * b.length) : litV a (scanLit (2 * (1 + c.inputs)) l) = litV b l := by
  obtain ⟨e1, e2⟩ := scanLit_div hk h0
  unfold litV
  rw [e1, e2, h _ (by omega)]
theorem scan_init {st ins : List Bool} {en da : Bool} {v : Nat} (h : v < 1 + ins.length + st.length) : (false :: (ins ++ [en, da] ++ st)).getD (sh ins.length v) false = (false :: (ins ++ st)).getD v false := by
  unfold sh
  split
  · rcases v with _ | v
    · rfl
    · rw [List.getD_cons_succ, List.getD_cons_succ, List.append_assoc, getD_append_lt (by omega), getD_append_lt (by omega)]
  · obtain ⟨m, rfl⟩ : ∃ m, v = 1 + ins.length + m := ⟨v - (1 + ins.length), by omega⟩
    rw [show 1 + ins.length + m + 2 = (ins.length + 2 + m) + 1 by omega, show 1 + ins.length + m = (ins.length + m) + 1 by omega, List.getD_cons_succ, List.getD_cons_succ, List.getD_eq_getElem?_getD, List.getD_eq_getElem?_getD,
      List.getElem?_append_right (by simp only [List.length_append, List.length_cons, List.length_nil]; omega), List.getElem?_append_right (by omega)]
    simp only [List.length_append, List.length_cons, List.length_nil]
    congr 2
    omega
theorem scan_pre {c : Circ} (hv : c.Valid) {st ins : List Bool} (h1 : st.length = c.next.length) (h2 : (ins.length : Int) = c.inputs) (en da : Bool) : ∀ i, i ≤ c.gates.length → ∀ v, v < (evalN c st ins i).length → (evalN (scanned c) st (ins ++ [en, da]) i).getD (sh ins.length v) false = (evalN c st ins i).getD v false
  | 0, _, v, h => by rw [evalN_len] at h; exact scan_init (by omega)
  | i + 1, hi, v, h => by
    have ih := scan_pre hv h1 h2 en da i (by omega)
    have hln := evalN_len c st ins i
    have hls := evalN_len (scanned c) st (ins ++ [en, da]) i
    rw [evalN_len] at h
    simp only [List.length_append, List.length_cons, List.length_nil] at hls
    obtain ⟨g1, g2⟩ := hv.g i (by omega)
    unfold litOk at g1 g2
    have hfe : c.first = 1 + ins.length + st.length := by rw [Circ.first]; omega
    rw [evalN, evalN, scanned_gate1 (by omega), litV_scan h2 ih (by omega) (by omega), litV_scan h2 ih (by omega) (by omega), getD_app_one', getD_app_one']
    have hsh : sh ins.length v < (evalN (scanned c) st (ins ++ [en, da]) i).length ↔ v < (evalN c st ins i).length := by
      unfold sh; split <;> omega
    by_cases hlt : v < (evalN c st ins i).length
    · rw [if_pos hlt, if_pos (hsh.2 hlt)]; exact ih v hlt
    · rw [if_neg hlt, if_neg (fun h => hlt (hsh.1 h)), if_pos (by unfold sh; split <;> omega), if_pos (by omega)]
theorem evalN_app {c : Circ} {st ins : List Bool} {i k : Nat} (h : i ≤ k) : ∃ r, evalN c st ins k = evalN c st ins i ++ r := by
  obtain ⟨r, hr⟩ := evalN_pre c st ins (i := i) (k - i)
  exact ⟨r, by rw [← hr]; congr 1; omega⟩
/-- A literal of the first variables keeps its value. -/
theorem litV_pre {c : Circ} {st ins : List Bool} {i k : Nat} (h : i ≤ k) {l : Int} (h0 : 0 ≤ l) (h1 : l < 2 * ((evalN c st ins i).length : Int)) : litV (evalN c st ins k) l = litV (evalN c st ins i) l := by
  obtain ⟨r, hr⟩ := evalN_app (c := c) (st := st) (ins := ins) h
  rw [hr, litV_app h0 h1]
theorem litV_at {v : List Bool} {n : Nat} {b : Bool} {r : List Bool} (h : v.length = n) : litV (v ++ b :: r) (2 * n) = b ∧ litV (v ++ b :: r) (2 * n + 1) = !b := by
  have e : (v ++ b :: r).getD n false = b := by
    rw [List.getD_eq_getElem?_getD, List.getElem?_append_right (by omega), h, Nat.sub_self]; rfl
  unfold litV
  rw [show ((2 * (n : Int)) / 2).toNat = n by omega, show ((2 * (n : Int) + 1) / 2).toNat = n by omega, e]
  constructor
  · rw [decide_eq_false (by omega)]; simp
  · rw [decide_eq_true (by omega)]; simp
theorem scan_en {c : Circ} {st ins : List Bool} (h2 : (ins.length : Int) = c.inputs) (en da : Bool) : litV (evalN (scanned c) st (ins ++ [en, da]) 0) (2 * (1 + c.inputs)) = en ∧ litV (evalN (scanned c) st (ins ++ [en, da]) 0) (2 * (1 + c.inputs) + 1) = !en := by
  have := litV_at (v := false :: ins) (n := 1 + ins.length) (b := en) (r := da :: st) (by simp; omega)
  rw [show (2 * ((1 + ins.length : Nat) : Int)) = 2 * (1 + c.inputs) by omega] at this
  simpa [evalN] using this
theorem scan_from {c : Circ} {st ins : List Bool} (h1 : st.length = c.next.length) (h2 : (ins.length : Int) = c.inputs) (en da : Bool) {j : Nat} (hj : j < c.next.length) : litV (evalN (scanned c) st (ins ++ [en, da]) 0) (scanFrom c j) = (da :: st).getD j false := by
  have e : evalN (scanned c) st (ins ++ [en, da]) 0 = (false :: ins ++ [en] ++ (da :: st).take j) ++ (da :: st).getD j false :: (da :: st).drop (j + 1) := by
    rw [evalN]
    have : (da :: st) = (da :: st).take j ++ ((da :: st).getD j false :: (da :: st).drop (j + 1)) := by
      conv => lhs; rw [← List.take_append_drop j (da :: st)]
      rw [List.drop_eq_getElem_cons (show j < (da :: st).length by simp; omega), List.getD_eq_getElem?_getD, List.getElem?_eq_getElem (show j < (da :: st).length by simp; omega)]
      rfl
    conv => rhs; rw [List.append_assoc, ← this]
    simp
  rw [e]
  have := (litV_at (v := false :: ins ++ [en] ++ (da :: st).take j) (n := 2 + ins.length + j) (b := (da :: st).getD j false) (r := (da :: st).drop (j + 1)) (by simp; omega)).1
  rw [show scanFrom c j = 2 * ((2 + ins.length + j : Nat) : Int) by unfold scanFrom; split <;> omega]
  exact this
def scanNew (c : Circ) (st ins : List Bool) (en da : Bool) (j : Nat) : Bool := if en then (da :: st).getD j false else litV (values c st ins) (c.next.getD j 0)
theorem scan_step {c : Circ} (hc : canScan c) {st ins : List Bool} (h1 : st.length = c.next.length) (h2 : (ins.length : Int) = c.inputs) (en da : Bool) {j : Nat} (hj : j < c.next.length) : litV (values (scanned c) st (ins ++ [en, da])) (scanNext c j) = scanNew c st ins en da j := by
  obtain ⟨hv, q1, q2, q3, q4⟩ := hc
  have hc : canScan c := ⟨hv, q1, q2, q3, q4⟩
  have hi0 := hv.i0
  have hf := hv.first_bd
  have hfe : c.first = 1 + ins.length + st.length := by rw [Circ.first]; omega
  have hve : c.vars = c.first + c.gates.length := rfl
  have hlen := fun k => evalN_len (scanned c) st (ins ++ [en, da]) k
  simp only [List.length_append, List.length_cons, List.length_nil] at hlen
  have hsa := scanAt_eq c j
  obtain ⟨m, hm⟩ : ∃ m, m = c.gates.length + 3 * j := ⟨_, rfl⟩
  have hsm : scanAt c j = ((1 + (ins.length + (0 + 1 + 1)) + st.length + m : Nat) : Int) := by omega
  have g0 := scanned_gate2 (c := c) hj (r := 0) (by omega)
  have g1 := scanned_gate2 (c := c) hj (r := 1) (by omega)
  have g2 := scanned_gate2 (c := c) hj (r := 2) (by omega)
  rw [show c.gates.length + (3 * j + 0) = m by omega] at g0
  rw [show c.gates.length + (3 * j + 1) = m + 1 by omega] at g1
  rw [show c.gates.length + (3 * j + 2) = m + 2 by omega] at g2
  have hen := scan_en (st := st) h2 en da
  have hfr := scan_from h1 h2 en da hj
  have hfo := scanFrom_ok hi0 hj
  have hnx := hv.n _ (getD_mem' (z := 0) hj)
  have hnx2 := scanLit_ok (c := c) hnx
  unfold litOk at hfo hnx hnx2
  have l0 := hlen 0
  have lg := hlen c.gates.length
  have lm := hlen m
  have hW : litV (evalN (scanned c) st (ins ++ [en, da]) (m + 1)) (scanLit (2 * (1 + c.inputs)) (c.next.getD j 0)) = litV (values c st ins) (c.next.getD j 0) := by
    rw [litV_pre (show c.gates.length ≤ m + 1 by omega) (by omega) (by omega), values]
    exact litV_scan h2 (scan_pre hv h1 h2 en da _ (by omega)) (by omega) (by rw [evalN_len]; omega)
  have eA : evalN (scanned c) st (ins ++ [en, da]) (m + 1) = evalN (scanned c) st (ins ++ [en, da]) m ++ [en && (da :: st).getD j false] := by
    rw [evalN, g0]
    simp only [scanGates, List.getD_cons_zero]
    rw [litV_pre (show 0 ≤ m by omega) (by omega) (by omega), litV_pre (show 0 ≤ m by omega) (by omega) (by omega), hen.1, hfr]
  have eB : evalN (scanned c) st (ins ++ [en, da]) (m + 2) = evalN (scanned c) st (ins ++ [en, da]) m ++ [en && (da :: st).getD j false, !en && litV (values c st ins) (c.next.getD j 0)] := by
    rw [evalN, g1]
    simp only [scanGates, List.getD_cons_succ, List.getD_cons_zero]
    rw [hW, litV_pre (show 0 ≤ m + 1 by omega) (by omega) (by omega), hen.2, eA]
    simp
  have eC : evalN (scanned c) st (ins ++ [en, da]) (m + 3) = evalN (scanned c) st (ins ++ [en, da]) m ++ [en && (da :: st).getD j false, !en && litV (values c st ins) (c.next.getD j 0), (!(en && (da :: st).getD j false)) && !(!en && litV (values c st ins) (c.next.getD j 0))] := by
    rw [evalN, g2]
    simp only [scanGates, List.getD_cons_succ, List.getD_cons_zero]
    have t1 := (litV_at (b := en && (da :: st).getD j false) (r := [!en && litV (values c st ins) (c.next.getD j 0)]) lm).2
    have t2 := (litV_at (v := evalN (scanned c) st (ins ++ [en, da]) m ++ [en && (da :: st).getD j false]) (n := 1 + (ins.length + (0 + 1 + 1)) + st.length + m + 1) (b := !en && litV (values c st ins) (c.next.getD j 0)) (r := []) (by simp; omega)).2
    rw [← eB] at t1
    rw [List.append_assoc, List.singleton_append, ← eB] at t2
    rw [show 2 * scanAt c j + 1 = 2 * ((1 + (ins.length + (0 + 1 + 1)) + st.length + m : Nat) : Int) + 1 by omega, t1,
      show 2 * scanAt c j + 3 = 2 * ((1 + (ins.length + (0 + 1 + 1)) + st.length + m + 1 : Nat) : Int) + 1 by omega, t2, eB]
    simp
  have t3 := (litV_at (v := evalN (scanned c) st (ins ++ [en, da]) m ++ [en && (da :: st).getD j false, !en && litV (values c st ins) (c.next.getD j 0)]) (n := 1 + (ins.length + (0 + 1 + 1)) + st.length + m + 2) (b := (!(en && (da :: st).getD j false)) && !(!en && litV (values c st ins) (c.next.getD j 0))) (r := []) (by simp; omega)).2
  rw [List.append_assoc, List.cons_append, List.cons_append, List.nil_append, ← eC] at t3
  rw [values, scanned_len, litV_pre (i := m + 3) (by omega) (by unfold scanNext; omega) (by rw [hlen]; unfold scanNext; omega),
    show scanNext c j = 2 * ((1 + (ins.length + (0 + 1 + 1)) + st.length + m + 2 : Nat) : Int) + 1 by unfold scanNext; omega, t3]
  unfold scanNew
  cases en <;> simp
theorem scan_nexts {c : Circ} (hc : canScan c) {st ins : List Bool} (h1 : st.length = c.next.length) (h2 : (ins.length : Int) = c.inputs) (en da : Bool) : litVs (values (scanned c) st (ins ++ [en, da])) (scanned c).next = (List.range c.next.length).map (scanNew c st ins en da) := by
  simp only [litVs, scanned, List.map_map]
  exact List.map_congr_left fun j hj => scan_step hc h1 h2 en da (List.mem_range.1 hj)
theorem scan_outs {c : Circ} (hc : canScan c) {st ins : List Bool} (h1 : st.length = c.next.length) (h2 : (ins.length : Int) = c.inputs) (en da : Bool) : litVs (values (scanned c) st (ins ++ [en, da])) (scanned c).outs = litVs (values c st ins) c.outs ++ [st.getD (c.next.length - 1) false] := by
  obtain ⟨hv, q1, q2, q3, q4⟩ := hc
  have hc : canScan c := ⟨hv, q1, q2, q3, q4⟩
  have hi0 := hv.i0
  have hfe : c.first = 1 + ins.length + st.length := by rw [Circ.first]; omega
  have hve : c.vars = c.first + c.gates.length := rfl
  have hlen := fun k => evalN_len (scanned c) st (ins ++ [en, da]) k
  simp only [List.length_append, List.length_cons, List.length_nil] at hlen
  have l0 := hlen 0
  have lg := hlen c.gates.length
  simp only [litVs]
  rw [show (scanned c).outs = c.outs.map (scanLit (2 * (1 + c.inputs))) ++ [2 * (c.inputs + 2 + c.next.length)] from rfl, List.map_append, List.map_map]
  congr 1
  · refine List.map_congr_left fun l hl => ?_
    have ho := hv.o l hl
    have ho2 := scanLit_ok (c := c) ho
    unfold litOk at ho ho2
    rw [Function.comp, values, scanned_len, litV_pre (i := c.gates.length) (by omega) (by omega) (by omega)]
    exact litV_scan h2 (scan_pre hv h1 h2 en da _ (by omega)) (by omega) (by rw [evalN_len]; omega)
  · have e : evalN (scanned c) st (ins ++ [en, da]) 0 = (false :: ins ++ [en, da] ++ st.take (c.next.length - 1)) ++ [st.getD (c.next.length - 1) false] := by
      have : st = st.take (c.next.length - 1) ++ [st.getD (c.next.length - 1) false] := by
        conv => lhs; rw [← List.take_append_drop (c.next.length - 1) st]
        rw [List.drop_eq_getElem_cons (show c.next.length - 1 < st.length by omega), List.drop_eq_nil_of_le (by omega), List.getD_eq_getElem?_getD, List.getElem?_eq_getElem (show c.next.length - 1 < st.length by omega)]
        rfl
      conv => rhs; rw [List.append_assoc, ← this]
      rw [evalN]
      simp
    have t := (litV_at (v := false :: ins ++ [en, da] ++ st.take (c.next.length - 1)) (n := 2 + ins.length + c.next.length) (b := st.getD (c.next.length - 1) false) (r := []) (by simp; omega)).1
    rw [← e] at t
    simp only [List.map_cons, List.map_nil]
    rw [values, litV_pre (i := 0) (by omega) (by omega) (by omega), show 2 * (c.inputs + 2 + c.next.length) = 2 * ((2 + ins.length + c.next.length : Nat) : Int) by omega, t]
end Go.Proofs
