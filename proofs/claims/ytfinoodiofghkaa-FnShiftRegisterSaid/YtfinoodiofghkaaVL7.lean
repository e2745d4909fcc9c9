/- Part 7: arithmetic, comparisons, lengths, parts of slices; all reading operations in one function. Conditions: none; lemmas. -/
import Derived.Test.YtfinoodiofghkaaVL6
set_option linter.unusedVariables false
set_option linter.unusedSimpArgs false
namespace Go.VL

variable {P : Program} {S : Nat → Prop} {φ : List (List Nat)} {H : List R} {w : World} {T : Nat → Option TI}

/-! ### Slices of slices -/
def optI (o : Option I) (dflt : Int) : Option Int :=
  match o with
  | none => some dflt
  | some (.d x) => some x.toInt
  | _ => none
def optC : Option I → Prop
  | none => True
  | some (.d x) => x.isInt .i64
  | _ => False

def sSlice (T : Nat → Option TI) (H : List R) (t : Nat) (x : I) (lo hi mx : Option I) : Option (Prop × I) :=
  match T t, mx with
  | some ti, none =>
    match ti.ty with
    | .slice e =>
      match T e with
      | some ei =>
        match x with
        | .d xd =>
          match optI lo 0, optI hi xd.elems.length with
          | some l, some h => some (xd.isLst ei.size ∧ optC lo ∧ optC hi ∧ 0 < ei.size ∧ 0 ≤ l ∧ l ≤ h ∧ h ≤ xd.elems.length, .d (.lst ei.size ((xd.elems.drop l.toNat).take (h - l).toNat)))
          | _, _ => none
        | .sl i g k l0 n =>
          match H[i]? with
          | some (.row g' k' _ _) =>
            match optI lo 0, optI hi n with
            | some l, some h => some (g = g' ∧ k = k' ∧ k = ei.size ∧ optC lo ∧ optC hi ∧ 0 ≤ l ∧ l ≤ h ∧ h ≤ n, .sl i g k (l0 + l.toNat) (h - l).toNat)
            | _, _ => none
          | _ => none
        | _ => none
      | none => none
    | _ => none
  | _, _ => none

def OptIs (ov : Option Value) (dflt r : Int) : Prop :=
  match ov with
  | none => r = dflt
  | some v => v = .int .i64 r

theorem run_sliceAt {t e : Nat} {ti ei : TI} (ht : TIOK P t ti) (he : TIOK P e ei) (hy : ti.ty = .slice e) (a : Option Addr) (len cap : Nat) (hlc : len ≤ cap) (lo hi : Option Value) {l h : Int}
    (hlo : OptIs lo 0 l) (hhi : OptIs hi len h) (h0 : 0 ≤ l) (h1 : l ≤ h) (h2 : h ≤ len) (w : World) :
    (Instr.sliceAt t (.slice a len cap) lo hi none).run P w = .ok (.slice (if cap = l.toNat then a else a.map (·.add (l.toNat * ei.size))) (h - l).toNat (cap - l.toNat)) w := by
  have hu := ht.und_slice hy
  have e1 : (Instr.sliceBounds true len cap lo hi none).run P w = .ok (l.toNat, h.toNat, cap) w := by
    have hhc : h ≤ cap := by omega
    have hb : (match hi with | none => (pure len : Sem Nat) | some v => Instr.sliceBound v cap .sliceAcap).run P w = .ok h.toNat w := by
      cases hi with
      | none => simp only [OptIs] at hhi; subst hhi; simp
      | some v => simp only [OptIs] at hhi; subst hhi; simp [Instr.sliceBound, asIntOf, show 0 ≤ h by omega, hhc]
    have ha : (match lo with | none => (pure 0 : Sem Nat) | some v => Instr.sliceBound v h.toNat .sliceB).run P w = .ok l.toNat w := by
      cases lo with
      | none => simp only [OptIs] at hlo; subst hlo; simp
      | some v => simp only [OptIs] at hlo; subst hlo; simp [Instr.sliceBound, asIntOf, h0]; omega
    cases hi <;> cases lo <;> simp_all [Instr.sliceBounds]
  have e2 : (Instr.slice t (.slice a len cap) lo hi none).run P w = .ok (.slice (if cap = l.toNat then a else a.map (·.add (l.toNat * ei.size))) (h - l).toNat (cap - l.toNat)) w := by
    simp only [Instr.slice, Sem.run_bind, run_underlying hu, Result.andThen_ok, e1, he.run_sizeOf, Sem.run_pure]
    congr 2
    omega
  simp only [Instr.sliceAt, Sem.run_bind, run_underlying hu, Result.andThen_ok]
  exact e2

theorem FZ.sub {k : Nat} {x : D} {v : Value} (h : FZ S w x v) (hx : x.isLst k) (hk : 0 < k) {l m : Nat} (hm : l + m ≤ x.elems.length) :
    ∃ a cap, v = .slice a x.elems.length cap ∧ x.elems.length ≤ cap ∧ FZ S w (.lst k ((x.elems.drop l).take m)) (.slice (if cap = l then a else a.map (·.add (l * k))) m (cap - l)) := by
  cases h <;> simp [D.isLst] at hx
  · refine ⟨none, 0, rfl, Nat.le_refl _, ?_⟩
    simp [D.elems] at hm
    obtain ⟨rfl, rfl⟩ := hm
    simp only [D.elems, List.drop_nil, List.take_nil]
    exact .lst0 hk
  · rename_i k' a cap hk'
    refine ⟨a, cap, rfl, Nat.zero_le _, ?_⟩
    simp [D.elems] at hm
    obtain ⟨rfl, rfl⟩ := hm
    simp only [D.elems, List.drop_nil, List.take_nil]
    exact .lst0 hk
  · rename_i k' L b off cap f hk' he h1 hn hlim hS hc hf
    replace hx := hx.symm
    subst hx
    refine ⟨_, cap, rfl, hn, ?_⟩
    simp only [D.elems] at hm ⊢
    have hlen : ((L.drop l).take m).length = m := by simp; omega
    by_cases hm0 : m = 0
    · subst hm0
      simp only [List.take_zero]
      exact .lst0 hk
    · have hcl : ¬ cap = l := by omega
      rw [if_neg hcl]
      simp only [Option.map_some, Addr.add_lit]
      have hmemE : ∀ x ∈ (L.drop l).take m, x ∈ L := fun x hx => List.mem_of_mem_drop (List.mem_of_mem_take hx)
      have hfl := flat_length he
      have hfl' := flat_length (fun x hx => he x (hmemE x hx))
      have hidx : ∀ j, j < (flat ((L.drop l).take m)).length → l * k + j < (flat L).length ∧ (flat ((L.drop l).take m)).getD j .nil = (flat L).getD (l * k + j) .nil := by
        intro j hj
        rw [hfl', hlen] at hj
        have hm2 := Nat.mul_le_mul_right k hm
        rw [Nat.add_mul] at hm2
        refine ⟨by omega, ?_⟩
        have hq : j / k < m := Nat.div_lt_of_lt_mul (by rw [Nat.mul_comm]; exact hj)
        have hr : j % k < k := Nat.mod_lt _ hk
        have hj' : j = (j / k) * k + j % k := by rw [Nat.mul_comm]; exact (Nat.div_add_mod j k).symm
        have e1 := getD_flat (fun x hx => he x (hmemE x hx)) (i := j / k) (by omega) hr .nil
        have e2 := getD_flat he (i := l + j / k) (by omega) hr .nil
        rw [← hj'] at e1
        rw [Nat.add_mul, Nat.add_assoc, ← hj'] at e2
        rw [e1, e2]
        congr 2
        rw [getD_take _ _ _ _ hq, getD_drop]
      have := FZ.lst (S := S) (w := w) (k := k) (l := (L.drop l).take m) (b := b) (off := off + l * k) (cap := cap - l) (fun j => f (l * k + j)) hk (fun x hx => he x (hmemE x hx)) ?_ (by omega) (by omega) hS ?_ ?_
      · rw [hlen] at this
        exact this
      · intro c hc'
        obtain ⟨x, hx, hcx⟩ := mem_flat.1 hc'
        exact h1 c (mem_flat.2 ⟨x, hmemE x hx, hcx⟩)
      · intro j hj
        rw [Nat.add_assoc]
        exact hc _ (hidx j hj).1
      · intro j hj
        rw [(hidx j hj).2]
        exact hf _ (hidx j hj).1

theorem optI_val {o : Option I} {ov : Option Value} (hv : ∀ x, o = some x → ∃ v, ov = some v ∧ V S φ H w x v) (hn : o = none → ov = none) {dflt r : Int} (h : optI o dflt = some r) (hc : optC o) :
    OptIs ov dflt r := by
  cases o with
  | none =>
    rw [hn rfl]
    simpa [optI, OptIs] using h.symm
  | some x =>
    obtain ⟨v, rfl, hx⟩ := hv x rfl
    cases x <;> simp [optI] at h
    subst h
    exact (hx.fz.int_inv hc).2.1

theorem sSlice_sound (hT : TOK P T) {t : Nat} {x : I} {lo hi mx : Option I} {vx : Value} {vlo vhi vmx : Option Value} (hx : V S φ H w x vx)
    (hlo : ∀ x, lo = some x → ∃ v, vlo = some v ∧ V S φ H w x v) (hlo' : lo = none → vlo = none) (hhi : ∀ x, hi = some x → ∃ v, vhi = some v ∧ V S φ H w x v) (hhi' : hi = none → vhi = none) (hmx : mx = none → vmx = none)
    {vc : Prop} {y : I} (h : sSlice T H t x lo hi mx = some (vc, y)) (hvc : vc) :
    ∃ v, V S φ H w y v ∧ ∀ w2, (Instr.sliceAt t vx vlo vhi vmx).run P w2 = .ok v w2 := by
  unfold sSlice at h
  split at h
  · rename_i ti hti
    obtain rfl := hmx rfl
    have ht := hT _ _ hti
    split at h
    · rename_i e hy
      split at h
      · rename_i ei hei
        have he := hT _ _ hei
        split at h
        · rename_i xd
          split at h
          · rename_i l hh hl1 hh1
            simp only [Option.some.injEq, Prod.mk.injEq] at h
            obtain ⟨rfl, rfl⟩ := h
            obtain ⟨hl, hc1, hc2, hk, h0, h1, h2⟩ := hvc
            have v1 := optI_val hlo hlo' hl1 hc1
            have v2 := optI_val hhi hhi' hh1 hc2
            obtain ⟨a, cap, rfl, hcap, hz⟩ := hx.fz.sub hl hk (l := l.toNat) (m := (hh - l).toNat) (by omega)
            exact ⟨_, .d hz, fun w2 => run_sliceAt ht he hy a _ cap hcap vlo vhi v1 v2 h0 h1 h2 w2⟩
          · simp at h
        · rename_i i g k l0 n
          split at h
          · rename_i g' k' dp L hroot
            split at h
            · rename_i l hh hl1 hh1
              simp only [Option.some.injEq, Prod.mk.injEq] at h
              obtain ⟨rfl, rfl⟩ := h
              obtain ⟨rfl, rfl, rfl, hc1, hc2, h0, h1, h2⟩ := hvc
              have v1 := optI_val hlo hlo' hl1 hc1
              have v2 := optI_val hhi hhi' hh1 hc2
              cases hx with
              | sl hlt hg hrel ho =>
                obtain ⟨hsl, hle⟩ := hrel dp L hroot
                rcases hsl with ⟨hfp, rfl, rfl, rfl⟩ | ⟨b, rest, cap, arr, ty, a, hfp, rfl, hn, hc, hlim, hb, hfit⟩
                · have hl0 : l = 0 := by omega
                  have hh0 : hh = 0 := by omega
                  subst hl0
                  subst hh0
                  refine ⟨.slice none 0 0, .sl hlt hg (fun dp' L' hL' => ⟨.inl ⟨hfp, rfl, rfl, rfl⟩, by simp⟩) rfl, fun w2 => ?_⟩
                  rw [run_sliceAt ht he hy none 0 0 (Nat.le_refl _) vlo vhi v1 v2 h0 h1 h2 w2]
                  rfl
                · refine ⟨.slice (if cap = l.toNat then a else a.map (·.add (l.toNat * ei.size))) (hh - l).toNat (cap - l.toNat), .sl hlt hg (fun dp' L' hL' => ⟨.inr ⟨b, rest, cap - l.toNat, arr, ty, _, hfp, rfl, by omega, by omega, by omega, hb, ?_⟩, ?_⟩) rfl, fun w2 => run_sliceAt ht he hy a _ cap hn vlo vhi v1 v2 h0 h1 h2 w2⟩
                  · intro hor
                    by_cases hcl : cap = l.toNat
                    · rcases hor with hor | hor
                      · omega
                      · have hl0 : l0 = 0 := by omega
                        obtain ⟨ha, hfit'⟩ := hfit (.inr hl0)
                        rw [if_pos hcl, ha]
                        subst hl0
                        have : l.toNat = 0 := by omega
                        rw [this]
                        exact ⟨by simp, by simp; omega⟩
                    · obtain ⟨ha, hfit'⟩ := hfit (by omega)
                      rw [if_neg hcl, ha]
                      simp only [Option.map_some, Addr.add_lit]
                      refine ⟨by rw [Nat.add_mul], ?_⟩
                      have : (l0 + l.toNat) * ei.size + (cap - l.toNat) * ei.size = l0 * ei.size + cap * ei.size := by
                        rw [← Nat.add_mul, ← Nat.add_mul]
                        congr 1
                        omega
                      omega
                  · rw [hroot] at hL'
                    simp at hL'
                    obtain ⟨_, rfl⟩ := hL'
                    omega
            · simp at h
          · simp at h
        · simp at h
      · simp at h
    · simp at h
  · simp at h

/-! ### Arithmetic -/
def iAdd (x y : Int) : Int := x + y

def isI64 : Option TI → Bool
  | some ⟨.int .i64, _, _, _⟩ => true
  | _ => false
def allI64 (T : Nat → Option TI) : Nat → List (Nat × Nat) → Prop
  | _, [] => True
  | j, (o, t) :: r => o = j ∧ isI64 (T t) = true ∧ allI64 T (j + 1) r
def intCells : List D → Prop
  | [] => True
  | x :: r => x.isInt .i64 ∧ intCells r
def eqInts : List D → List D → Bool
  | x :: r, y :: s => decide (x.toInt = y.toInt) && eqInts r s
  | _, _ => true
/-- The rest of a division, as Go has it. -/
def remV (x y : Int) : Int := x.tmod y
theorem remV_pos {x y : Int} (h : 0 ≤ x) : remV x y = x % y := Int.tmod_eq_emod_of_nonneg h
theorem remV_bd (x : Int) {y : Int} (h : 0 < y) : (0 ≤ x → 0 ≤ remV x y ∧ remV x y < y) ∧ (x < 0 → x ≤ remV x y ∧ remV x y ≤ 0 ∧ -y < remV x y) := by
  refine ⟨fun h0 => ?_, fun h0 => ?_⟩
  · rw [remV_pos h0]; exact ⟨Int.emod_nonneg _ (by omega), Int.emod_lt_of_pos _ h⟩
  · obtain ⟨z, rfl⟩ : ∃ z, x = -z := ⟨-x, by omega⟩
    unfold remV
    rw [Int.neg_tmod, Int.tmod_eq_emod_of_nonneg (by omega)]
    have h1 := Int.emod_nonneg z (show y ≠ 0 by omega)
    have h2 := Int.emod_lt_of_pos z h
    have h3 : z % y ≤ z := by
      rw [Int.emod_def]
      have := Int.mul_nonneg (show 0 ≤ y by omega) (Int.ediv_nonneg (show 0 ≤ z by omega) (show 0 ≤ y by omega))
      omega
    omega

def sBin (T : Nat → Option TI) (H : List R) (op : BinOp) (t : Nat) (x y : I) : Option (Prop × I) :=
  match T t with
  | some ti =>
    match ti.ty, x, y with
    | .int k, .d x, .d y =>
      match op with
      | .add => some (x.isInt k ∧ y.isInt k ∧ InK k (x.toInt + y.toInt), .d (.int k (x.toInt + y.toInt)))
      | .sub => some (x.isInt k ∧ y.isInt k ∧ InK k (x.toInt - y.toInt), .d (.int k (x.toInt - y.toInt)))
      | .mul => some (x.isInt k ∧ y.isInt k ∧ InK k (x.toInt * y.toInt), .d (.int k (x.toInt * y.toInt)))
      | .quo => some (x.isInt k ∧ y.isInt k ∧ 0 ≤ x.toInt ∧ 0 < y.toInt, .d (.int k (x.toInt / y.toInt)))
      | .rem => some (x.isInt k ∧ y.isInt k ∧ 0 < y.toInt, .d (.int k (remV x.toInt y.toInt)))
      | .and => some (x.isInt k ∧ y.isInt k ∧ 0 ≤ x.toInt ∧ 0 ≤ y.toInt, .d (.int k ((x.toInt.toNat &&& y.toInt.toNat : Nat) : Int)))
      | .or => some (x.isInt k ∧ y.isInt k ∧ 0 ≤ x.toInt ∧ 0 ≤ y.toInt, .d (.int k ((x.toInt.toNat ||| y.toInt.toNat : Nat) : Int)))
      | .xor => some (x.isInt k ∧ y.isInt k ∧ 0 ≤ x.toInt ∧ 0 ≤ y.toInt, .d (.int k ((x.toInt.toNat ^^^ y.toInt.toNat : Nat) : Int)))
      | .shl => some (x.isInt k ∧ y.isInt .i64 ∧ 0 ≤ y.toInt ∧ y.toInt ≤ k.bits ∧ InK k (x.toInt * 2 ^ y.toInt.toNat), .d (.int k (x.toInt * 2 ^ y.toInt.toNat)))
      | .shr => some (x.isInt k ∧ y.isInt .i64 ∧ 0 ≤ y.toInt ∧ y.toInt ≤ k.bits, .d (.int k (x.toInt / 2 ^ y.toInt.toNat)))
      | .eql => some (x.isInt k ∧ y.isInt k, .d (.bool (decide (x.toInt = y.toInt))))
      | .neq => some (x.isInt k ∧ y.isInt k, .d (.bool (!decide (x.toInt = y.toInt))))
      | .lss => some (x.isInt k ∧ y.isInt k, .d (.bool (decide (x.toInt < y.toInt))))
      | .leq => some (x.isInt k ∧ y.isInt k, .d (.bool (decide (x.toInt ≤ y.toInt))))
      | .gtr => some (x.isInt k ∧ y.isInt k, .d (.bool (decide (y.toInt < x.toInt))))
      | .geq => some (x.isInt k ∧ y.isInt k, .d (.bool (decide (y.toInt ≤ x.toInt))))
      | _ => none
    | .bool, .d x, .d y =>
      match op with
      | .eql => some (x.isBool ∧ y.isBool, .d (.bool (x.toBool == y.toBool)))
      | .neq => some (x.isBool ∧ y.isBool, .d (.bool (!(x.toBool == y.toBool))))
      | _ => none
    | .slice _, .d x, .d .nil =>
      match op with
      | .eql => some (x.isSl ∧ (x = .nil ∨ x.elems ≠ []), .d (.bool x.isNil))
      | .neq => some (x.isSl ∧ (x = .nil ∨ x.elems ≠ []), .d (.bool (!x.isNil)))
      | _ => none
    | .slice _, .sl i g k lo n, .d .nil =>
      match H[i]? with
      | some (.row g' k' _ _) =>
        match op with
        | .eql => some (g = g' ∧ k = k' ∧ 0 < n, .d (.bool false))
        | .neq => some (g = g' ∧ k = k' ∧ 0 < n, .d (.bool true))
        | _ => none
      | _ => none
    | .struct fs, .d (.agg cs), .d (.agg ds) =>
      match op with
      | .eql => some (cs.length = fs.length ∧ ds.length = fs.length ∧ allI64 T 0 fs ∧ intCells cs ∧ intCells ds, .d (.bool (eqInts cs ds)))
      | .neq => some (cs.length = fs.length ∧ ds.length = fs.length ∧ allI64 T 0 fs ∧ intCells cs ∧ intCells ds, .d (.bool (!(eqInts cs ds))))
      | _ => none
    | _, _, _ => none
  | none => none

theorem intCells_get : ∀ {l : List D}, intCells l → ∀ j, j < l.length → (l.getD j .nil).isInt .i64
  | [], _, j, h => by simp at h
  | x :: r, hc, 0, _ => hc.1
  | x :: r, hc, j + 1, h => intCells_get hc.2 j (by simpa using h)
theorem allI64_flat (hT : TOK P T) : ∀ {l : List Field} {j : Nat}, allI64 T j (l.map fun f => (f.offset, f.type)) → flatI P l j = true ∧ ∀ f ∈ l, ∃ ti, TIOK P f.type ti ∧ ti.ty = .int .i64
  | [], j, _ => ⟨rfl, by simp⟩
  | f :: r, j, h => by
    simp only [List.map_cons, allI64] at h
    obtain ⟨h1, h2, h3⟩ := h
    obtain ⟨i1, i2⟩ := allI64_flat hT h3
    obtain ⟨ti, ht, hty⟩ : ∃ ti, T f.type = some ti ∧ ti.ty = .int .i64 := by
      cases e : T f.type with
      | none => rw [e] at h2; simp [isI64] at h2
      | some ti =>
        rw [e] at h2
        refine ⟨ti, rfl, ?_⟩
        obtain ⟨ty, a, b, c⟩ := ti
        cases ty with
        | int k => cases k <;> first | rfl | simp [isI64] at h2
        | _ => simp [isI64] at h2
    have hu := (hT _ _ ht).und_int hty
    refine ⟨by simp only [flatI, h1, beq_self_eq_true, hu, i1, Bool.and_self], fun g hg => ?_⟩
    rcases List.mem_cons.1 hg with rfl | hg
    · exact ⟨ti, hT _ _ ht, hty⟩
    · exact i2 g hg
theorem eqFields_ints {vs us : Array Value} {cs ds : List D} (hv : cs.length = vs.size) (hu : ds.length = us.size) (fv : ∀ j, j < cs.length → FZ S w (cs.getD j .nil) (vs.getD j undef)) (fu : ∀ j, j < ds.length → FZ S w (ds.getD j .nil) (us.getD j undef))
    (ic : intCells cs) (id : intCells ds) (d : Nat) (w2 : World) : ∀ (l : List Field) (j : Nat), flatI P l j = true → (∀ f ∈ l, f.name ≠ "_") → (∀ f ∈ l, ∃ ti, TIOK P f.type ti ∧ ti.ty = .int .i64) → j + l.length = cs.length → j + l.length = ds.length →
    (Op.eqFields (d + 1) vs us l).run P w2 = .ok (eqInts (cs.drop j) (ds.drop j)) w2
  | [], j, _, _, _, h1, h2 => by
    simp only [List.length_nil, Nat.add_zero] at h1 h2
    rw [List.drop_eq_nil_of_le (by omega), List.drop_eq_nil_of_le (by omega)]
    rfl
  | f :: r, j, hfl, hnm, hti, h1, h2 => by
    simp only [List.length_cons] at h1 h2
    simp only [flatI, Bool.and_eq_true, beq_iff_eq] at hfl
    obtain ⟨⟨ho, _⟩, hr⟩ := hfl
    obtain ⟨ti, ht, hty⟩ := hti f (by simp)
    have hag : ti.ty.agg = false := by rw [hty]; rfl
    have ih := eqFields_ints hv hu fv fu ic id d w2 r (j + 1) hr (fun g hg => hnm g (by simp [hg])) (fun g hg => hti g (by simp [hg])) (by omega) (by omega)
    have xv := fv j (by omega)
    have yv := fu j (by omega)
    obtain ⟨_, ev, kx⟩ := xv.int_inv (intCells_get ic j (by omega))
    obtain ⟨_, eu, ky⟩ := yv.int_inv (intCells_get id j (by omega))
    have e1 : cs.drop j = cs.getD j .nil :: cs.drop (j + 1) := by
      rw [List.drop_eq_getElem_cons (by omega), List.getD_eq_getElem?_getD, List.getElem?_eq_getElem (by omega)]; rfl
    have e2 : ds.drop j = ds.getD j .nil :: ds.drop (j + 1) := by
      rw [List.drop_eq_getElem_cons (by omega), List.getD_eq_getElem?_getD, List.getElem?_eq_getElem (by omega)]; rfl
    rw [e1, e2]
    subst ho
    simp only [Op.eqFields, hnm f (by simp), ne_eq, not_false_eq_true, if_true, Sem.run_bind, run_part_one ht hag (show f.offset < vs.size by omega), run_part_one ht hag (show f.offset < us.size by omega), Result.andThen_ok, ev, eu,
      run_equalIn_int w2 d f.type .i64 .i64 _ _ (ht.und_int hty)]
    simp only [eqInts]
    by_cases hq : (cs.getD f.offset .nil).toInt = (ds.getD f.offset .nil).toInt
    · simp only [hq, beq_self_eq_true, Bool.not_true, Bool.false_eq_true, if_false, decide_true, Bool.true_and]
      exact ih
    · simp only [beq_eq_false_iff_ne.2 hq, Bool.not_false, if_true, Sem.run_pure, decide_eq_false hq, Bool.false_and]

theorem wrap_in {k : IntKind} {n : Int} (h : InK k n) : k.wrap n = n := by
  obtain ⟨h1, h2⟩ := h
  cases k <;> simp [IntKind.min, IntKind.max, IntKind.wrap, IntKind.bits, IntKind.signed] at * <;> omega

theorem inK_max {k : IntKind} {n : Int} (h0 : 0 ≤ n) (h1 : n ≤ k.max) : InK k n := by
  refine ⟨?_, h1⟩
  cases k <;> simp [IntKind.min, IntKind.bits, IntKind.signed] <;> omega

theorem inK_bits {k : IntKind} {n : Nat} (h : (n : Int) ≤ k.max) : InK k n := inK_max (by omega) h

theorem max_pow (k : IntKind) : ∃ m : Nat, k.max = 2 ^ m - 1 ∧ m ≤ k.bits := by
  cases k
  · exact ⟨7, rfl, by decide⟩
  · exact ⟨15, rfl, by decide⟩
  · exact ⟨31, rfl, by decide⟩
  · exact ⟨63, rfl, by decide⟩
  · exact ⟨8, rfl, by decide⟩
  · exact ⟨16, rfl, by decide⟩
  · exact ⟨32, rfl, by decide⟩
  · exact ⟨64, rfl, by decide⟩

theorem ofInt_toNat {b : Nat} {x : Int} (h0 : 0 ≤ x) (h1 : x.toNat < 2 ^ b) : (BitVec.ofInt b x).toNat = x.toNat := by
  obtain ⟨n, rfl⟩ := Int.eq_ofNat_of_zero_le h0
  simp only [Int.toNat_natCast] at h1 ⊢
  simp [Nat.mod_eq_of_lt h1]

theorem lt_pow_of_le {m : Nat} {x k : Int} (h : x ≤ k) (hk : k = 2 ^ m - 1) : x.toNat < 2 ^ m := by
  have h1 : (0 : Int) < 2 ^ m := Int.pow_pos (by decide)
  have h2 : ((2 ^ m : Nat) : Int) = (2 : Int) ^ m := by simp
  omega

theorem bits_and {k : IntKind} {x y : Int} (hx : InK k x) (hy : InK k y) (hx0 : 0 ≤ x) (hy0 : 0 ≤ y) : bits .and k x y = ((x.toNat &&& y.toNat : Nat) : Int) := by
  obtain ⟨m, hm, hb⟩ := max_pow k
  have a1 := lt_pow_of_le hx.2 hm
  have a2 := lt_pow_of_le hy.2 hm
  have hp : 2 ^ m ≤ 2 ^ k.bits := Nat.pow_le_pow_right (by decide) hb
  simp only [bits, BitVec.toNat_and]
  rw [ofInt_toNat hx0 (by omega), ofInt_toNat hy0 (by omega)]
  have : x.toNat &&& y.toNat < 2 ^ m := Nat.and_lt_two_pow _ a2
  refine wrap_in (inK_bits ?_)
  have h2 : ((2 ^ m : Nat) : Int) = (2 : Int) ^ m := by simp
  omega
theorem bits_or {k : IntKind} {x y : Int} (hx : InK k x) (hy : InK k y) (hx0 : 0 ≤ x) (hy0 : 0 ≤ y) : bits .or k x y = ((x.toNat ||| y.toNat : Nat) : Int) := by
  obtain ⟨m, hm, hb⟩ := max_pow k
  have a1 := lt_pow_of_le hx.2 hm
  have a2 := lt_pow_of_le hy.2 hm
  have hp : 2 ^ m ≤ 2 ^ k.bits := Nat.pow_le_pow_right (by decide) hb
  simp only [bits, BitVec.toNat_or]
  rw [ofInt_toNat hx0 (by omega), ofInt_toNat hy0 (by omega)]
  have : x.toNat ||| y.toNat < 2 ^ m := Nat.or_lt_two_pow a1 a2
  refine wrap_in (inK_bits ?_)
  have h2 : ((2 ^ m : Nat) : Int) = (2 : Int) ^ m := by simp
  omega
theorem bits_xor {k : IntKind} {x y : Int} (hx : InK k x) (hy : InK k y) (hx0 : 0 ≤ x) (hy0 : 0 ≤ y) : bits .xor k x y = ((x.toNat ^^^ y.toNat : Nat) : Int) := by
  obtain ⟨m, hm, hb⟩ := max_pow k
  have a1 := lt_pow_of_le hx.2 hm
  have a2 := lt_pow_of_le hy.2 hm
  have hp : 2 ^ m ≤ 2 ^ k.bits := Nat.pow_le_pow_right (by decide) hb
  simp only [bits, BitVec.toNat_xor]
  rw [ofInt_toNat hx0 (by omega), ofInt_toNat hy0 (by omega)]
  have : x.toNat ^^^ y.toNat < 2 ^ m := Nat.xor_lt_two_pow a1 a2
  refine wrap_in (inK_bits ?_)
  have h2 : ((2 ^ m : Nat) : Int) = (2 : Int) ^ m := by simp
  omega
theorem bits_and_in {k : IntKind} {x y : Nat} (hx : InK k x) (hy : InK k y) : InK k ((x &&& y : Nat) : Int) ∧ InK k ((x ||| y : Nat) : Int) ∧ InK k ((x ^^^ y : Nat) : Int) := by
  obtain ⟨m, hm, hb⟩ := max_pow k
  have a1 := lt_pow_of_le hx.2 hm
  have a2 := lt_pow_of_le hy.2 hm
  simp only [Int.toNat_natCast] at a1 a2
  have h2 : ((2 ^ m : Nat) : Int) = (2 : Int) ^ m := by simp
  have b1 : x &&& y < 2 ^ m := Nat.and_lt_two_pow _ a2
  have b2 : x ||| y < 2 ^ m := Nat.or_lt_two_pow a1 a2
  have b3 : x ^^^ y < 2 ^ m := Nat.xor_lt_two_pow a1 a2
  exact ⟨inK_bits (by omega), inK_bits (by omega), inK_bits (by omega)⟩

theorem sBin_int_sound {k : IntKind} {op : BinOp} {t : Nat} {xo yo : Operand} {a b : Int} (ha : InK k a) (hb : InK k b) {w2 : World} {r : Value} (h : (binOp op t (.int k a) (.int k b)).run P w2 = .ok r w2) :
    (do eqGuard op t xo yo (.int k a) (.int k b); binOp op t (.int k a) (.int k b) : Sem Value).run P w2 = .ok r w2 := by
  simp only [eqGuard_at_int, Sem.run_bind, Sem.run_pure, Result.andThen_ok, h]

theorem run_equalIn_slice_nil {t e : Nat} (hu : P.underlying t = some (.slice e)) (d : Nat) (a : Option Addr) (n cap : Nat) (w2 : World) : (Op.equalIn (d + 1) t (.slice a n cap) (.slice none 0 0)).run P w2 = .ok a.isNone w2 := by
  cases a <;> simp [Op.equalIn, run_underlying hu]
theorem run_eql_slice_nil' {t e : Nat} (hu : P.underlying t = some (.slice e)) (a : Option Addr) (n cap : Nat) (w2 : World) : (binOp .eql t (.slice a n cap) (.slice none 0 0)).run P w2 = .ok (.bool a.isNone) w2 := by
  have : (Op.equal t (.slice a n cap) (.slice none 0 0)).run P w2 = .ok a.isNone w2 := run_equalIn_slice_nil hu 9999 a n cap w2
  simp only [binOp, Sem.run_bind, this, Result.andThen_ok, Sem.run_pure]
theorem run_neq_slice_nil' {t e : Nat} (hu : P.underlying t = some (.slice e)) (a : Option Addr) (n cap : Nat) (w2 : World) : (binOp .neq t (.slice a n cap) (.slice none 0 0)).run P w2 = .ok (.bool (!a.isNone)) w2 := by
  have : (Op.equal t (.slice a n cap) (.slice none 0 0)).run P w2 = .ok a.isNone w2 := run_equalIn_slice_nil hu 9999 a n cap w2
  simp only [binOp, Sem.run_bind, this, Result.andThen_ok, Sem.run_pure]

set_option maxHeartbeats 1000000 in
theorem sBin_sound (hT : TOK P T) {op : BinOp} {t : Nat} {x y : I} {xo yo : Operand} {vx vy : Value} (hx : V S φ H w x vx) (hy : V S φ H w y vy) {vc : Prop} {z : I}
    (h : sBin T H op t x y = some (vc, z)) (hvc : vc) :
    ∃ v, V S φ H w z v ∧ ∀ w2, (do eqGuard op t xo yo vx vy; binOp op t vx vy : Sem Value).run P w2 = .ok v w2 := by
  unfold sBin at h
  split at h
  · rename_i ti hti
    have ht := hT _ _ hti
    split at h
    · rename_i k x y hk
      have hxz := hx.fz
      have hyz := hy.fz
      cases op <;> simp only [Option.some.injEq, Prod.mk.injEq, reduceCtorEq] at h <;> obtain ⟨rfl, rfl⟩ := h
      case add =>
        obtain ⟨_, rfl, kx⟩ := hxz.int_inv hvc.1
        obtain ⟨_, rfl, ky⟩ := hyz.int_inv hvc.2.1
        exact ⟨_, .d (.int hvc.2.2), fun w2 => sBin_int_sound kx ky (by simp [binOp_add, Op.intArith, wrap_in hvc.2.2])⟩
      case sub =>
        obtain ⟨_, rfl, kx⟩ := hxz.int_inv hvc.1
        obtain ⟨_, rfl, ky⟩ := hyz.int_inv hvc.2.1
        exact ⟨_, .d (.int hvc.2.2), fun w2 => sBin_int_sound kx ky (by simp [binOp_sub, Op.intArith, wrap_in hvc.2.2])⟩
      case mul =>
        obtain ⟨_, rfl, kx⟩ := hxz.int_inv hvc.1
        obtain ⟨_, rfl, ky⟩ := hyz.int_inv hvc.2.1
        exact ⟨_, .d (.int hvc.2.2), fun w2 => sBin_int_sound kx ky (by simp [binOp_mul, Op.intArith, wrap_in hvc.2.2])⟩
      case quo =>
        obtain ⟨_, rfl, kx⟩ := hxz.int_inv hvc.1
        obtain ⟨_, rfl, ky⟩ := hyz.int_inv hvc.2.1
        obtain ⟨_, _, h0, h1⟩ := hvc
        have hin : InK k (x.toInt / y.toInt) := inK_max (Int.ediv_nonneg h0 (by omega)) (Int.le_trans (Int.ediv_le_self _ h0) kx.2)
        refine ⟨_, .d (.int hin), fun w2 => sBin_int_sound kx ky ?_⟩
        simp only [binOp_quo, Op.intDiv]
        rw [if_neg (by omega), Int.tdiv_eq_ediv_of_nonneg h0, wrap_in hin]
        rfl
      case rem =>
        obtain ⟨_, rfl, kx⟩ := hxz.int_inv hvc.1
        obtain ⟨_, rfl, ky⟩ := hyz.int_inv hvc.2.1
        obtain ⟨_, _, h1⟩ := hvc
        have hin : InK k (remV x.toInt y.toInt) := by
          have hb := remV_bd x.toInt h1
          have hy := ky.2
          have hx := kx
          unfold InK at hx ⊢
          by_cases h0 : 0 ≤ x.toInt
          · have := hb.1 h0
            have := hx.1
            have hm : k.min ≤ 0 := by cases k <;> decide
            omega
          · have := hb.2 (by omega)
            omega
        refine ⟨_, .d (.int hin), fun w2 => sBin_int_sound kx ky ?_⟩
        simp only [binOp_rem, Op.intDiv]
        rw [if_neg (by omega)]
        rfl
      case and =>
        obtain ⟨_, rfl, kx⟩ := hxz.int_inv hvc.1
        obtain ⟨_, rfl, ky⟩ := hyz.int_inv hvc.2.1
        obtain ⟨_, _, h0, h1⟩ := hvc
        obtain ⟨m, hm⟩ := Int.eq_ofNat_of_zero_le h0
        obtain ⟨n, hn⟩ := Int.eq_ofNat_of_zero_le h1
        have hin := bits_and_in (k := k) (x := m) (y := n) (hm ▸ kx) (hn ▸ ky)
        refine ⟨_, .d (.int (by rw [hm, hn]; simpa using hin.1)), fun w2 => sBin_int_sound kx ky ?_⟩
        simp only [binOp_and, intBits_and, bits_and kx ky h0 h1, Sem.run_pure]
      case or =>
        obtain ⟨_, rfl, kx⟩ := hxz.int_inv hvc.1
        obtain ⟨_, rfl, ky⟩ := hyz.int_inv hvc.2.1
        obtain ⟨_, _, h0, h1⟩ := hvc
        obtain ⟨m, hm⟩ := Int.eq_ofNat_of_zero_le h0
        obtain ⟨n, hn⟩ := Int.eq_ofNat_of_zero_le h1
        have hin := bits_and_in (k := k) (x := m) (y := n) (hm ▸ kx) (hn ▸ ky)
        refine ⟨_, .d (.int (by rw [hm, hn]; simpa using hin.2.1)), fun w2 => sBin_int_sound kx ky ?_⟩
        simp only [binOp_or, intBits_or, bits_or kx ky h0 h1, Sem.run_pure]
      case xor =>
        obtain ⟨_, rfl, kx⟩ := hxz.int_inv hvc.1
        obtain ⟨_, rfl, ky⟩ := hyz.int_inv hvc.2.1
        obtain ⟨_, _, h0, h1⟩ := hvc
        obtain ⟨m, hm⟩ := Int.eq_ofNat_of_zero_le h0
        obtain ⟨n, hn⟩ := Int.eq_ofNat_of_zero_le h1
        have hin := bits_and_in (k := k) (x := m) (y := n) (hm ▸ kx) (hn ▸ ky)
        refine ⟨_, .d (.int (by rw [hm, hn]; simpa using hin.2.2)), fun w2 => sBin_int_sound kx ky ?_⟩
        simp only [binOp_xor, intBits_xor, bits_xor kx ky h0 h1, Sem.run_pure]
      case shl =>
        obtain ⟨_, rfl, kx⟩ := hxz.int_inv hvc.1
        obtain ⟨_, rfl, ky⟩ := hyz.int_inv hvc.2.1
        obtain ⟨_, _, h0, h1, hin⟩ := hvc
        refine ⟨_, .d (.int hin), fun w2 => ?_⟩
        simp only [eqGuard_at_int, Sem.run_bind, Sem.run_pure, Result.andThen_ok, binOp_shl, shift_shl k _ _ _ h0 h1, wrap_in hin]
      case shr =>
        obtain ⟨_, rfl, kx⟩ := hxz.int_inv hvc.1
        obtain ⟨_, rfl, ky⟩ := hyz.int_inv hvc.2.1
        obtain ⟨_, _, h0, h1⟩ := hvc
        have hp : (0 : Int) < 2 ^ y.toInt.toNat := Int.pow_pos (by decide)
        have hin : InK k (x.toInt / 2 ^ y.toInt.toNat) := by
          by_cases hx0 : 0 ≤ x.toInt
          · exact inK_max (Int.ediv_nonneg hx0 (by omega)) (Int.le_trans (Int.ediv_le_self _ hx0) kx.2)
          · refine ⟨Int.le_trans kx.1 ?_, ?_⟩
            · have h2 := Int.le_ediv_iff_mul_le (a := x.toInt) (b := x.toInt) hp
              rw [h2]
              have : x.toInt * 2 ^ y.toInt.toNat ≤ x.toInt * 1 := Int.mul_le_mul_of_nonpos_left (by omega) (by omega)
              omega
            · have : x.toInt / 2 ^ y.toInt.toNat < 0 := Int.ediv_neg_of_neg_of_pos (by omega) hp
              have : 0 ≤ k.max := by cases k <;> simp [IntKind.max, IntKind.bits, IntKind.signed]
              omega
        refine ⟨_, .d (.int hin), fun w2 => ?_⟩
        simp only [eqGuard_at_int, Sem.run_bind, Sem.run_pure, Result.andThen_ok, binOp_shr, shift_shr k _ _ _ h0 h1]
      all_goals
        obtain ⟨_, rfl, kx⟩ := hxz.int_inv hvc.1
        obtain ⟨_, rfl, ky⟩ := hyz.int_inv hvc.2
        refine ⟨_, .d .bool, fun w2 => sBin_int_sound kx ky ?_⟩
        simp only [binOp_eql, binOp_neq, binOp_lss, binOp_leq, binOp_gtr, binOp_geq, Sem.run_pure]
        all_goals first | rfl | (congr 2; done) | (congr 2; rw [Bool.eq_iff_iff]; simp)
    · rename_i x y hk
      cases op <;> simp only [Option.some.injEq, Prod.mk.injEq, reduceCtorEq] at h <;> obtain ⟨rfl, rfl⟩ := h
      all_goals
        obtain ⟨_, rfl⟩ := hx.fz.bool_inv hvc.1
        obtain ⟨_, rfl⟩ := hy.fz.bool_inv hvc.2
        refine ⟨_, .d .bool, fun w2 => ?_⟩
        simp only [eqGuard_at_bool, Sem.run_bind, Sem.run_pure, Result.andThen_ok, run_eql_bool w2 t _ _ (ht.und_bool hk), run_neq_bool w2 t _ _ (ht.und_bool hk)]
    · rename_i e x hk
      have hu := ht.und_slice hk
      have hyz := hy.fz
      cases hyz
      have key : ∀ (vcx : x.isSl ∧ (x = .nil ∨ x.elems ≠ [])), ∃ a n cap, vx = .slice a n cap ∧ a.isNone = x.isNil := by
        rintro ⟨h1, h2⟩
        have hxz := hx.fz
        cases hxz <;> simp [D.isSl] at h1
        · exact ⟨_, _, _, rfl, rfl⟩
        · simp [D.elems] at h2
        · exact ⟨_, _, _, rfl, rfl⟩
      cases op <;> simp only [Option.some.injEq, Prod.mk.injEq, reduceCtorEq] at h <;> obtain ⟨rfl, rfl⟩ := h
      all_goals
        obtain ⟨a, n, cap, rfl, hn⟩ := key hvc
        refine ⟨_, .d .bool, fun w2 => ?_⟩
        rw [← hn]
        simp only [eqGuard_at_slice, Sem.run_bind, Sem.run_pure, Result.andThen_ok, run_eql_slice_nil' hu, run_neq_slice_nil' hu]
    · rename_i e i g k lo n hk
      have hu := ht.und_slice hk
      have hyz := hy.fz
      cases hyz
      split at h
      · rename_i g' k' dp l hroot
        cases hx with
        | sl hlt hg hrel ho =>
          have key : (g = g' ∧ k = k' ∧ 0 < n) → ∃ a n cap, vx = .slice (some a) n cap := by
            rintro ⟨rfl, rfl, hn0⟩
            obtain ⟨hsl, hle⟩ := hrel dp l hroot
            rcases hsl with ⟨_, _, rfl, _⟩ | ⟨b, rest, cap, arr, ty, a, hfp, rfl, hn, hc, hlim, hb, hfit⟩
            · omega
            · obtain ⟨rfl, _⟩ := hfit (.inl (by omega))
              exact ⟨_, _, _, rfl⟩
          cases op <;> simp only [Option.some.injEq, Prod.mk.injEq, reduceCtorEq] at h <;> obtain ⟨rfl, rfl⟩ := h
          all_goals
            obtain ⟨a, n, cap, rfl⟩ := key hvc
            refine ⟨_, .d .bool, fun w2 => ?_⟩
            simp only [eqGuard_at_slice, Sem.run_bind, Sem.run_pure, Result.andThen_ok, run_eql_slice_nil' hu, run_neq_slice_nil' hu]
            rfl
      · simp at h
    · rename_i fs cs ds hk
      obtain ⟨fields, hu, hfs⟩ := ht.und_struct hk
      have hxz := hx.fz
      have hyz := hy.fz
      have hq := ht.eqs
      have key : (cs.length = fs.length ∧ ds.length = fs.length ∧ allI64 T 0 fs ∧ intCells cs ∧ intCells ds) → ∃ vs us, vx = .agg vs ∧ vy = .agg us ∧ P.stoodInHeld t = false ∧ P.eqGuardType P.depth t = false ∧
          ∀ w2, (Op.equalIn 10000 t (.agg vs) (.agg us)).run P w2 = .ok (eqInts cs ds) w2 := by
        rintro ⟨q1, q2, q3, q4, q5⟩
        cases hxz with
        | agg hl ho hf =>
          rename_i vs
          cases hyz with
          | agg hl2 ho2 hf2 =>
            rename_i us
            rw [hfs] at q3
            obtain ⟨r1, r2⟩ := allI64_flat hT q3
            simp only [eqChk, hu, r1, Bool.not_true, Bool.false_or, Bool.and_eq_true, Bool.not_eq_true', List.all_eq_true, decide_eq_true_eq] at hq
            obtain ⟨s1, s2, s3⟩ := hq
            have hfo : P.fieldsOf t = fields := by simp only [Program.fieldsOf, hu]
            have hlen : fields.toList.length = fs.length := by rw [hfs]; simp
            refine ⟨vs, us, rfl, rfl, s1, s2, fun w2 => ?_⟩
            rw [run_equalIn_agg w2 9999 t vs us (by rw [hfo]; exact hu) s1, hfo]
            exact eqFields_ints hl hl2 hf hf2 q4 q5 9998 w2 fields.toList 0 r1 s3 r2 (by omega) (by omega)
      cases op <;> simp only [Option.some.injEq, Prod.mk.injEq, reduceCtorEq] at h <;> obtain ⟨rfl, rfl⟩ := h
      all_goals
        obtain ⟨vs, us, rfl, rfl, s1, s2, hrun⟩ := key hvc
        refine ⟨_, .d .bool, fun w2 => ?_⟩
        simp only [Sem.run_bind, run_eqGuard_agg w2 _ t xo yo vs us s2, Result.andThen_ok, run_eql_struct, run_neq_struct, hrun]
    · simp at h
  · simp at h

end Go.VL
