/- Part 23: loops in the form in which the machine runs. Conditions: none; lemmas. -/
import Derived.Test.YtfinoodiofghkaaVL22
set_option linter.unusedVariables false
set_option linter.unusedSimpArgs false
namespace Go.VL

variable {E : Env} {Q : Post} {fr : Fr} {H : List R} {n : Nat}

variable {S : Nat → Prop} {φ : List (List Nat)} {w : World}

/-! ### Freezing -/
/-- The roots below 'n' are not looked at. -/
def killH : Nat → List R → List R
  | _, [] => []
  | 0, H => H
  | n + 1, r :: H => .dead r.gen :: killH n H
@[go_sem] theorem killH_zero {H : List R} : killH 0 H = H := by cases H <;> rfl
@[go_sem] theorem killH_nil {n : Nat} : killH n [] = [] := by cases n <;> rfl
@[go_sem] theorem killH_succ {n : Nat} {r : R} {H : List R} : killH (n + 1) (r :: H) = .dead r.gen :: killH n H := rfl
@[go_sem] theorem gen_box {cs : List I} : (R.box cs).gen = 0 := rfl
@[go_sem] theorem gen_row {g k : Nat} {dp : Bool} {l : List D} : (R.row g k dp l).gen = g := rfl
@[go_sem] theorem gen_map {es : List (D × D)} : (R.map es).gen = 0 := rfl
@[go_sem] theorem gen_dead {g : Nat} : (R.dead g).gen = g := rfl

theorem killH_length : ∀ (n : Nat) (H : List R), (killH n H).length = H.length
  | 0, H => by simp [go_sem]
  | n + 1, [] => rfl
  | n + 1, r :: H => by simp [killH, killH_length n H]
theorem killH_lt : ∀ (n : Nat) (H : List R) (i : Nat), i < n → i < H.length → ∃ g, (killH n H)[i]? = some (.dead g) ∧ g = (H.getD i (.dead 0)).gen
  | 0, H, i, h, _ => by omega
  | n + 1, [], i, _, h => by simp at h
  | n + 1, r :: H, 0, _, _ => ⟨_, rfl, rfl⟩
  | n + 1, r :: H, i + 1, h1, h2 => by simpa [killH] using killH_lt n H i (by omega) (by simpa using h2)
theorem killH_ge : ∀ (n : Nat) (H : List R) (i : Nat), n ≤ i → (killH n H)[i]? = H[i]?
  | 0, H, i, _ => by simp [go_sem]
  | n + 1, [], i, _ => rfl
  | n + 1, r :: H, 0, h => by omega
  | n + 1, r :: H, i + 1, h => by simpa [killH] using killH_ge n H i (by omega)

/-- The footprints of the roots below 'n' are left out. -/
def killF (n : Nat) (φ : List (List Nat)) : List (List Nat) := (List.range φ.length).map fun i => if i < n then [] else φ.getD i []
theorem killF_get (n : Nat) (φ : List (List Nat)) (i : Nat) : (killF n φ).getD i [] = if i < n then [] else φ.getD i [] := by
  simp only [killF, List.getD, List.getElem?_map]
  by_cases h : i < φ.length
  · simp [h]
  · simp [h]

theorem Sim.kill (s : Sim S φ H w) (n : Nat) : Sim S (killF n φ) (killH n H) w ∧ Tr H.length S φ H w S (killF n φ) (killH n H) w := by
  have hfoot : ∀ b, Foot (killF n φ) b → Foot φ b := by
    rintro b ⟨i, hi⟩
    rw [killF_get] at hi
    split at hi
    · simp at hi
    · exact ⟨i, hi⟩
  have hsome : ∀ i r, (killH n H)[i]? = some r → (∃ g, r = .dead g) ∨ n ≤ i ∧ H[i]? = some r := by
    intro i r hr
    by_cases h : i < n
    · have hl := (List.getElem?_eq_some_iff.1 hr).1
      rw [killH_length] at hl
      obtain ⟨g, hg, _⟩ := killH_lt n H i h hl
      rw [hg] at hr
      simp at hr
      exact .inl ⟨g, hr.symm⟩
    · rw [killH_ge n H i (by omega)] at hr
      exact .inr ⟨by omega, hr⟩
  have htr : Tr H.length S φ H w S (killF n φ) (killH n H) w := by
    refine ⟨fun _ h => h, fun _ _ => rfl, Nat.le_refl _, by rw [killH_length]; exact Nat.le_refl _, ?_, ?_, ?_, ?_, ?_⟩
    · intro i hi
      by_cases h : i < n
      · obtain ⟨g, hg, e⟩ := killH_lt n H i h hi
        have : (killH n H).getD i (.dead 0) = .dead g := by simp [List.getD, hg]
        rw [this, e]
        exact Nat.le_refl _
      · have : (killH n H).getD i (.dead 0) = H.getD i (.dead 0) := by simp only [List.getD, killH_ge n H i (by omega)]
        rw [this]
        exact Nat.le_refl _
    · intro i g k dp' l' hi hl'
      rcases hsome i _ hl' with ⟨_, h⟩ | ⟨h, h2⟩
      · cases h
      · exact .inr ⟨dp', l', h2, by rw [killF_get, if_neg (by omega)], Nat.le_refl _, fun b rest arr ty e1 e2 => ⟨arr, ty, e2, Nat.le_refl _⟩⟩
    · intro i cs hi hl'
      rcases hsome i _ hl' with ⟨_, h⟩ | ⟨h, h2⟩
      · cases h
      · exact ⟨cs, h2, by rw [killF_get, if_neg (by omega)]⟩
    · intro i cs hi hl'
      rcases hsome i _ hl' with ⟨_, h⟩ | ⟨h, h2⟩
      · cases h
      · exact ⟨cs, h2, by rw [killF_get, if_neg (by omega)]⟩
    · intro i x hi hl'
      rcases hsome i _ hl' with ⟨_, h⟩ | ⟨h, h2⟩
      · cases h
      · exact ⟨h2, by rw [killF_get, if_neg (by omega)], fun _ _ => rfl⟩
  refine ⟨⟨?_, ?_, ?_, fun b hb => s.lt b (hfoot b hb), fun b hb => s.off b (hfoot b hb), s.slt, ?_⟩, htr⟩
  · simp [killF, killH_length, s.len]
  · intro i
    rw [killF_get]
    split
    · simp
    · exact s.nd i
  · intro i j b hb hb'
    rw [killF_get] at hb hb'
    split at hb
    · simp at hb
    · split at hb'
      · simp at hb'
      · exact s.dj i j b hb hb'
  · intro i r hr
    rcases hsome i r hr with ⟨g, rfl⟩ | ⟨h, h2⟩
    · trivial
    · rw [killF_get, if_neg (by omega)]
      exact (s.rel i r h2).tr htr fun _ _ => rfl

theorem take_kill (s : Sim S φ H w) {n : Nat} (hn : n ≤ H.length) (hH : idltH n (H.take n)) :
    Sim (fun b => S b ∨ Foot (killF n φ) b) (φ.take n) (H.take n) w ∧ Tr n S φ H w (fun b => S b ∨ Foot (killF n φ) b) (φ.take n) (H.take n) w ∧ Ext S φ w (fun b => S b ∨ Foot (killF n φ) b) (φ.take n) w := by
  obtain ⟨S1, φ1, s1, hf1, he1, ht1⟩ := Ghost.drop (n := n) n (fr := ⟨0, []⟩) (H := H) (Nat.le_refl _) hn trivial hH S φ w { tmps := #[], defers := [] } hn s ⟨rfl, rfl, fun t => .junk⟩
  have hget : ∀ i, (φ.take n).getD i [] = if i < n then φ.getD i [] else [] := by
    intro i
    by_cases h : i < n
    · rw [if_pos h, getD_take _ _ _ _ h]
    · rw [if_neg h]
      simp [List.getD, List.getElem?_take, h]
  have hfoot : ∀ b, Foot (φ.take n) b → Foot φ b ∧ ¬ Foot (killF n φ) b := by
    rintro b ⟨i, hi⟩
    rw [hget] at hi
    split at hi
    · refine ⟨⟨i, hi⟩, ?_⟩
      rintro ⟨j, hj⟩
      rw [killF_get] at hj
      split at hj
      · simp at hj
      · have := s.dj i j b hi hj
        omega
    · simp at hi
  have hkill : ∀ b, Foot (killF n φ) b → Foot φ b := by
    rintro b ⟨i, hi⟩
    rw [killF_get] at hi
    split at hi
    · simp at hi
    · exact ⟨i, hi⟩
  -- the roots that stay
  have hsub : Tr n S φ H w (fun b => S b ∨ Foot (killF n φ) b) (φ.take n) (H.take n) w := by
    refine ⟨fun _ h => .inl h, fun _ _ => rfl, hn, by simp; omega, fun i hi => by rw [getD_take _ _ _ _ hi]; exact Nat.le_refl _, ?_, ?_, ?_, ?_⟩
    · intro i g k dp' l' hi hl'
      rw [take_get _ _ _ hi] at hl'
      exact .inr ⟨dp', l', hl', getD_take _ _ _ _ hi, Nat.le_refl _, fun b rest arr ty e1 e2 => ⟨arr, ty, e2, Nat.le_refl _⟩⟩
    · intro i cs hi hl'
      rw [take_get _ _ _ hi] at hl'
      exact ⟨cs, hl', getD_take _ _ _ _ hi⟩
    · intro i cs hi hl'
      rw [take_get _ _ _ hi] at hl'
      exact ⟨cs, hl', getD_take _ _ _ _ hi⟩
    · intro i x hi hl'
      rw [take_get _ _ _ hi] at hl'
      exact ⟨hl', getD_take _ _ _ _ hi, fun _ _ => rfl⟩
  refine ⟨⟨by simp [s.len], ?_, ?_, fun b hb => s.lt b (hfoot b hb).1, ?_, ?_, ?_⟩, hsub, ⟨rfl, rfl, rfl, Nat.le_refl _, fun _ _ _ => rfl, fun b hb => .inl (hfoot b hb).1, fun _ h => .inl h, ?_⟩⟩
  · intro i
    rw [hget]
    split
    · exact s.nd i
    · simp
  · intro i j b hb hb'
    rw [hget] at hb hb'
    split at hb
    · split at hb'
      · exact s.dj i j b hb hb'
      · simp at hb'
    · simp at hb
  · intro b hb h
    rcases h with h | h
    · exact s.off b (hfoot b hb).1 h
    · exact (hfoot b hb).2 h
  · intro b h
    rcases h with h | h
    · exact s.slt b h
    · exact s.lt b (hkill b h)
  · intro i r hr
    have hlt : i < n := by
      have := (List.getElem?_eq_some_iff.1 hr).1
      simp at this
      omega
    rw [hget, if_pos hlt]
    have hb := idltH_get hH i r hr
    rw [take_get _ _ _ hlt] at hr
    have h1 := (s.rel i r hr).take hn s.len hb
    -- more may be frozen
    have htr2 : Tr (H.take n).length S (φ.take n) (H.take n) w (fun b => S b ∨ Foot (killF n φ) b) (φ.take n) (H.take n) w := by
      refine ⟨fun _ h => .inl h, fun _ _ => rfl, Nat.le_refl _, Nat.le_refl _, fun _ _ => Nat.le_refl _, fun i g k dp' l' hi hl => .inr ⟨dp', l', hl, rfl, Nat.le_refl _, fun b rest arr ty e1 e2 => ⟨arr, ty, e2, Nat.le_refl _⟩⟩,
        fun i cs hi h => ⟨cs, h, rfl⟩, fun i es hi h => ⟨es, h, rfl⟩, fun i x hi h => ⟨h, rfl, fun _ _ => rfl⟩⟩
    exact h1.tr htr2 fun _ _ => rfl
  · intro b h
    rcases h with h | h
    · exact .inl h
    · exact .inr (.inl (hkill b h))


/-! ### Reading one description as another -/
/-- 'K': the roots that are frozen, the others dead. -/
def fit1 (K : List R) (x y : I) : Prop :=
  match y with
  | .d b => (match x with
    | .d a => wk a b
    | _ => (match view K 3 x with | some (vc, a) => vc ∧ wk a b | none => False))
  | _ => x = y
def fitF (K : List R) (fr : Fr) : List (Nat × I) → Prop
  | [] => True
  | (t, x) :: r => fit1 K (fr.get t) x ∧ fitF K fr r
/-- A row of numbers may be read as one of frozen data. -/
def fitR : R → R → Prop
  | .row g k true l, .row g' k' false l' => g = g' ∧ k = k' ∧ l = l' ∧ scalars l = true
  | x, y => x = y
def fitH : List R → List R → Prop
  | _, [] => True
  | x :: r, y :: s => fitR x y ∧ fitH r s
  | [], _ :: _ => False
def fit (n nt : Nat) (fr : Fr) (H : List R) (m : List (Nat × I)) (H' : List R) : Prop :=
  fr.n = nt ∧ n ≤ H'.length ∧ fitF (killH H'.length H) fr m ∧ fitH H H' ∧ idltM H'.length m ∧ idltH H'.length H'

theorem fitR_inv {x y : R} (h : fitR x y) : x = y ∨ ∃ g k l, x = .row g k true l ∧ y = .row g k false l ∧ scalars l = true := by
  unfold fitR at h
  split at h
  · obtain ⟨rfl, rfl, rfl, h⟩ := h
    exact .inr ⟨_, _, _, rfl, rfl, h⟩
  · exact .inl h
theorem fitH_len : ∀ {H H' : List R}, fitH H H' → H'.length ≤ H.length ∧ ∀ (i : Nat) (y : R), H'[i]? = some y → ∃ x : R, H[i]? = some x ∧ fitR x y
  | H, [], _ => by simp
  | x :: r, y :: s, h => by
    obtain ⟨h1, h2⟩ := fitH_len h.2
    refine ⟨by simp; omega, fun i z hz => ?_⟩
    cases i with
    | zero => simp at hz; subst hz; exact ⟨x, rfl, h.1⟩
    | succ i => simpa using h2 i z (by simpa using hz)
  | [], _ :: _, h => h.elim
theorem scalars_all : ∀ {l : List D}, scalars l = true → ∀ c ∈ flat l, c.scalar = true
  | [], _, c, hc => by simp [flat] at hc
  | x :: r, h, c, hc => by
    simp only [scalars, Bool.and_eq_true, List.all_eq_true] at h
    simp only [flat, List.flatMap_cons, List.mem_append] at hc
    rcases hc with hc | hc
    · exact h.1 c hc
    · exact scalars_all h.2 c (by simpa [flat] using hc)
theorem ow_scal {w : World} {x : D} {v : Value} {fp : List Nat} (h : OW w x v fp) (hx : x.scalar = true) : fp = [] := by
  cases h <;> simp [D.scalar] at hx <;> rfl
theorem Sim.fitR (s : Sim S φ H w) {H' : List R} (hl : H'.length = H.length) (h : ∀ (i : Nat) (y : R), H'[i]? = some y → ∃ x : R, H[i]? = some x ∧ fitR x y) : Sim S φ H' w ∧ Tr H.length S φ H w S φ H' w := by
  have htr : Tr H.length S φ H w S φ H' w := by
    refine ⟨fun _ h => h, fun _ _ => rfl, Nat.le_refl _, by omega, ?_, ?_, ?_, ?_, ?_⟩
    · intro i hi
      obtain ⟨x, hx, hxy⟩ := h i (H'.getD i (.dead 0)) (by simp [List.getD, show i < H'.length by omega])
      have e : H.getD i (.dead 0) = x := by simp [List.getD, hx]
      rw [e]
      rcases fitR_inv hxy with h1 | ⟨g, k, l, h1, h2, _⟩
      · rw [h1]; exact Nat.le_refl _
      · rw [h1, h2]; exact Nat.le_refl _
    · intro i g k dp' l' hi hl'
      obtain ⟨x, hx, hxy⟩ := h i _ hl'
      rcases fitR_inv hxy with rfl | ⟨g, k, l, rfl, h2, _⟩
      · exact .inr ⟨dp', l', hx, rfl, Nat.le_refl _, fun b rest arr ty e1 e2 => ⟨arr, ty, e2, Nat.le_refl _⟩⟩
      · cases h2
        exact .inr ⟨true, _, hx, rfl, Nat.le_refl _, fun b rest arr ty e1 e2 => ⟨arr, ty, e2, Nat.le_refl _⟩⟩
    · intro i cs hi hl'
      obtain ⟨x, hx, hxy⟩ := h i _ hl'
      rcases fitR_inv hxy with rfl | ⟨g, k, l, rfl, h2, _⟩
      · exact ⟨cs, hx, rfl⟩
      · cases h2
    · intro i cs hi hl'
      obtain ⟨x, hx, hxy⟩ := h i _ hl'
      rcases fitR_inv hxy with rfl | ⟨g, k, l, rfl, h2, _⟩
      · exact ⟨cs, hx, rfl⟩
      · cases h2
    · intro i z hi hl'
      obtain ⟨x, hx, hxy⟩ := h i _ hl'
      rcases fitR_inv hxy with rfl | ⟨g, k, l, rfl, h2, _⟩
      · exact ⟨hx, rfl, fun _ _ => rfl⟩
      · cases h2
  refine ⟨⟨by rw [s.len, hl], s.nd, s.dj, s.lt, s.off, s.slt, fun i y hy => ?_⟩, htr⟩
  obtain ⟨x, hx, hxy⟩ := h i y hy
  rcases fitR_inv hxy with rfl | ⟨g, k, l, rfl, rfl, hsc⟩
  · exact (s.rel i _ hx).tr htr fun _ _ => rfl
  · obtain ⟨h1, h2, h3, h4, h5⟩ := s.rel i _ hx
    refine ⟨h1, h2, h3, h4, ?_⟩
    rcases h5 with h5 | ⟨b, rest, arr, ty, e1, e2, e3, F, hF, hr⟩
    · exact .inl h5
    · have hall := scalars_all hsc
      have hz : ∀ j, j < (flat l).length → F j = [] := fun j hj => ow_scal (hr j hj) (hall _ (getD_mem hj))
      refine .inr ⟨b, rest, arr, ty, e1, e2, e3, ?_, fun j hj => ow_scalar (hr j hj) (hall _ (getD_mem hj)) S⟩
      rw [hF]
      refine List.flatMap_eq_nil_iff.2 fun j hj => hz j (List.mem_range.1 hj)

theorem fit1_v {m : Nat} (s : Sim S φ H w) (hm : m ≤ H.length) {x y : I} {v : Value} (h : fit1 (killH m H) x y) (hy : y.idlt m) (hv : V S φ H w x v) :
    V (fun b => S b ∨ Foot (killF m φ) b) (φ.take m) (H.take m) w y v := by
  have stay : ∀ {y : I}, V S φ H w y v → y.idlt m → V (fun b => S b ∨ Foot (killF m φ) b) (φ.take m) (H.take m) w y v := by
    intro y hv hy
    refine (hv.take hm s.len hy).tr ?_
    exact ⟨fun _ h => .inl h, fun _ _ => rfl, Nat.le_refl _, Nat.le_refl _, fun _ _ => Nat.le_refl _, fun i g k dp' l' hi hl => .inr ⟨dp', l', hl, rfl, Nat.le_refl _, fun b rest arr ty e1 e2 => ⟨arr, ty, e2, Nat.le_refl _⟩⟩,
        fun i cs hi h => ⟨cs, h, rfl⟩, fun i es hi h => ⟨es, h, rfl⟩, fun i x hi h => ⟨h, rfl, fun _ _ => rfl⟩⟩
  unfold fit1 at h
  split at h
  · rename_i b
    split at h
    · rename_i a
      exact .d (fz_wk h (hv.fz.mono (fun b hb => .inl hb) fun _ _ => rfl))
    · split at h
      · rename_i vc a hvw
        obtain ⟨s1, t1⟩ := s.kill m
        exact .d (fz_wk h.2 (view_sound s1 3 (hv.tr t1) hvw h.1))
      · exact h.elim
  · rw [h] at hv
    exact stay hv hy

theorem fitF_look {m : Nat} (s : Sim S φ H w) (hm : m ≤ H.length) {fr : Fr} {a : Act} (hf : FrR S φ H w fr a) : ∀ (l : List (Nat × I)), fitF (killH m H) fr l → idltM m l → ∀ t, V (fun b => S b ∨ Foot (killF m φ) b) (φ.take m) (H.take m) w (look t l) (a.tmps.getD t undef)
  | [], _, _, t => .junk
  | (u, x) :: r, h, hi, t => by
    simp only [look]
    split
    · rename_i hst
      subst hst
      exact fit1_v s hm h.1 hi.1 (hf.val u)
    · exact fitF_look s hm hf r h.2 hi.2 t

theorem take_of_fit {H H' : List R} (h : ∀ (i : Nat) (y : R), H'[i]? = some y → ∃ x : R, H[i]? = some x ∧ Go.VL.fitR x y) : ∀ (i : Nat) (y : R), H'[i]? = some y → ∃ x : R, (H.take H'.length)[i]? = some x ∧ Go.VL.fitR x y := by
  intro i y hy
  obtain ⟨x, hx, hxy⟩ := h i y hy
  exact ⟨x, by rw [take_get _ _ _ (List.getElem?_eq_some_iff.1 hy).1]; exact hx, hxy⟩
theorem idlt_of_fit {H' : List R} (m : Nat) : ∀ {K : List R}, K.length = H'.length → (∀ (i : Nat) (y : R), H'[i]? = some y → ∃ x : R, K[i]? = some x ∧ Go.VL.fitR x y) → idltH m H' → idltH m K := by
  intro K
  induction K generalizing H' with
  | nil => intro _ _ _; trivial
  | cons x r ih =>
    intro hl h hi
    cases H' with
    | nil => simp at hl
    | cons y s =>
      obtain ⟨x', hx, hxy⟩ := h 0 y rfl
      simp at hx
      subst hx
      refine ⟨?_, ih (by simpa using hl) (fun i z hz => by simpa using h (i + 1) z (by simpa using hz)) hi.2⟩
      rcases fitR_inv hxy with rfl | ⟨g, k, l, rfl, rfl, _⟩
      · exact hi.1
      · simp only [R.idlt]

theorem fit_ghost {nt : Nat} {m : List (Nat × I)} {H' : List R} (h : fit n nt fr H m H') : Ghost n fr H ⟨nt, m⟩ H' := by
  obtain ⟨h1, h2, h3, h4, h5, h6⟩ := h
  obtain ⟨e2, e1⟩ := fitH_len h4
  have hl : (H.take H'.length).length = H'.length := by simp; omega
  have e3 := take_of_fit e1
  intro S φ w a hn s hf
  obtain ⟨s2, t2, x2⟩ := take_kill s e2 (idlt_of_fit _ hl e3 h6)
  obtain ⟨s3, t3⟩ := s2.fitR hl.symm e3
  rw [hl] at t3
  refine ⟨_, _, s3, ⟨hf.defers, hf.size.trans h1, fun t => ?_⟩, x2, (t2.trans t3).weaken h2⟩
  have := fitF_look s e2 hf m h3 h5 t
  exact this.tr (by rw [hl]; exact t3)

/-! ### Nil slices as rows of one's own -/
def ownAll : List (Nat × Nat × Bool) → Fr → List R → Fr × List R
  | [], fr, H => (fr, H)
  | (t, k, dp) :: r, fr, H => ownAll r (fr.put (some t) (.sl H.length 0 k 0 0)) (H ++ [.row 0 k dp []])
def ownVC : List (Nat × Nat × Bool) → Fr → List R → Prop
  | [], _, _ => True
  | (t, k, dp) :: r, fr, H => fr.get t = .d .nil ∧ t < fr.n ∧ 0 < k ∧ ownVC r (fr.put (some t) (.sl H.length 0 k 0 0)) (H ++ [.row 0 k dp []])
theorem ownAll_ghost : ∀ (l : List (Nat × Nat × Bool)) {fr : Fr} {H : List R}, ownVC l fr H → Ghost n fr H (ownAll l fr H).1 (ownAll l fr H).2
  | [], fr, H, _ => Ghost.refl n fr H
  | (t, k, dp) :: r, fr, H, h => (Ghost.own t k dp h.1 h.2.1 h.2.2.1).trans (ownAll_ghost r h.2.2.2)

/-- The end of a round, or a way out of the loop. -/
def loopQ (E : Env) (ks : List Item) (Q : Post) (f : Nat) {σ : Type} (nt : Nat) (F : σ → List (Nat × I)) (Hp : σ → List R) (inv : σ → Prop) (mu : σ → Nat) (s : σ) : Post
  | .normal, fr, H => ∃ s', inv s' ∧ mu s' < mu s ∧ fit E.n nt fr H (F s') (Hp s')
  | .exit id, fr, H => execX E f (exK id ks) id ks Q fr H
  | e, fr, H => contQ E ks Q e fr H

theorem loop_of (hT : TOK E.P E.T) {σ : Type} (F : σ → List (Nat × I)) (Hp : σ → List R) (inv : σ → Prop) (mu : σ → Nat) (own : List (Nat × Nat × Bool)) (f1 f2 : Nat) {ks : List Item} {c : Code}
    (hvc : ownVC own fr H) (h0 : ∃ s, inv s ∧ fit E.n fr.n (ownAll own fr H).1 (ownAll own fr H).2 (F s) (Hp s))
    (hr : ∀ s, inv s → execC E f1 c [] (loopQ E ks Q f2 fr.n F Hp inv mu s) ⟨fr.n, F s⟩ (Hp s)) : iwp E.P E.n (.loop c) (contQ E ks Q) fr H := by
  obtain ⟨s0, hi0, hf0⟩ := h0
  refine iwp_loopG (fun m fr' H' => ∃ s, inv s ∧ mu s = m ∧ fr' = ⟨fr.n, F s⟩ ∧ H' = Hp s) (mu s0) ⟨_, _, (ownAll_ghost own hvc).trans (fit_ghost hf0), s0, hi0, rfl, rfl, rfl⟩ ?_
  rintro m fr' H' ⟨s, hi, rfl, rfl, rfl⟩
  refine iwp_mono (run_code hT f1 (hr s hi)) ?_
  intro e fr' H' hq
  cases e with
  | normal =>
    obtain ⟨s', hi', hmu, hfit⟩ := hq
    exact ⟨_, _, fit_ghost hfit, mu s', hmu, s', hi', rfl, rfl, rfl⟩
  | exit id =>
    simp only [loopQ] at hq
    refine contQ_exit id ks ?_
    generalize exK id ks = o at hq
    match f2, o with
    | 0, _ => simp only [execX] at hq
    | f + 1, some ks' =>
      simp only [execX] at hq
      exact run_cont hT f hq
    | f + 1, none =>
      simp only [execX] at hq
      exact hq
  | goto l => exact hq
  | ret => exact hq
  | panic ch => exact hq
  | outgrown => exact hq

section rules
variable {σ : Type} {F : σ → List (Nat × I)} {Hp : σ → List R} {inv : σ → Prop} {mu : σ → Nat} {s : σ} {ks : List Item} {f nt : Nat}
@[go_sem] theorem loopQ_normal : loopQ E ks Q f nt F Hp inv mu s .normal fr H = ∃ s', inv s' ∧ mu s' < mu s ∧ fit E.n nt fr H (F s') (Hp s') := rfl
@[go_sem] theorem loopQ_exit {id : Nat} : loopQ E ks Q f nt F Hp inv mu s (.exit id) fr H = execX E f (exK id ks) id ks Q fr H := rfl
@[go_sem] theorem loopQ_ret : loopQ E ks Q f nt F Hp inv mu s .ret fr H = contQ E ks Q .ret fr H := rfl
@[go_sem] theorem fit_eq {m : List (Nat × I)} {H' : List R} : fit n nt fr H m H' = (fr.n = nt ∧ n ≤ H'.length ∧ fitF (killH H'.length H) fr m ∧ fitH H H' ∧ idltM H'.length m ∧ idltH H'.length H') := rfl
@[go_sem] theorem fitF_nil {K : List R} : fitF K fr [] = True := rfl
@[go_sem] theorem fitF_cons {K : List R} {t : Nat} {x : I} {r : List (Nat × I)} : fitF K fr ((t, x) :: r) = (fit1 K (fr.get t) x ∧ fitF K fr r) := rfl
/-- A value read as data. -/
def frz1 (b : D) : Option (Prop × D) → Prop
  | some (vc, a) => vc ∧ wk a b
  | none => False
@[go_sem] theorem frz1_s {b a : D} {vc : Prop} : frz1 b (some (vc, a)) = (vc ∧ wk a b) := rfl
def fitS (K : List R) (x : I) : I → Prop
  | .d b => frz1 b (view K 3 x)
  | y => x = y
@[go_sem] theorem fitS_d {K : List R} {x : I} {b : D} : fitS K x (.d b) = frz1 b (view K 3 x) := rfl
@[go_sem] theorem fitS_sl {K : List R} {x : I} {i g k lo n : Nat} : fitS K x (.sl i g k lo n) = (x = .sl i g k lo n) := rfl
@[go_sem] theorem fitS_ptr {K : List R} {x : I} {i o : Nat} : fitS K x (.ptr i o) = (x = .ptr i o) := rfl
@[go_sem] theorem fitS_agg {K : List R} {x : I} {cs : List I} : fitS K x (.agg cs) = (x = .agg cs) := rfl
@[go_sem] theorem fitS_tup {K : List R} {x : I} {cs : List I} : fitS K x (.tup cs) = (x = .tup cs) := rfl
@[go_sem] theorem fitS_map {K : List R} {x : I} {i : Nat} : fitS K x (.map i) = (x = .map i) := rfl
@[go_sem] theorem fitS_fn {K : List R} {x : I} {f : Nat} {cs : List I} : fitS K x (.fn f cs) = (x = .fn f cs) := rfl
theorem fit1_S {K : List R} {x y : I} (hx : ∀ a, x ≠ .d a) : fit1 K x y = fitS K x y := by
  cases y <;> simp only [fit1, fitS, frz1]
@[go_sem] theorem fit1_d {K : List R} {x y : D} : fit1 K (.d x) (.d y) = wk x y := rfl
@[go_sem] theorem fit1_sl {K : List R} {i g k lo n : Nat} {y : I} : fit1 K (.sl i g k lo n) y = fitS K (.sl i g k lo n) y := fit1_S nofun
@[go_sem] theorem fit1_ptr {K : List R} {i off : Nat} {y : I} : fit1 K (.ptr i off) y = fitS K (.ptr i off) y := fit1_S nofun
@[go_sem] theorem fit1_agg {K : List R} {cs : List I} {y : I} : fit1 K (.agg cs) y = fitS K (.agg cs) y := fit1_S nofun
@[go_sem] theorem fitH_nil : fitH H [] = True := by cases H <;> rfl
@[go_sem] theorem fitH_cons {x y : R} {r q : List R} : fitH (x :: r) (y :: q) = (fitR x y ∧ fitH r q) := rfl
@[go_sem] theorem fitR_row {g k g' k' : Nat} {dp : Bool} {l l' : List D} : fitR (.row g k dp l) (.row g' k' dp l') = (g = g' ∧ k = k' ∧ l = l') := by cases dp <;> simp [fitR]
@[go_sem] theorem fitR_tf {g k g' k' : Nat} {l l' : List D} : fitR (.row g k true l) (.row g' k' false l') = (g = g' ∧ k = k' ∧ l = l' ∧ scalars l = true) := rfl
@[go_sem] theorem fitR_box {cs : List I} {y : R} : fitR (.box cs) y = (.box cs = y) := by cases y <;> rfl
@[go_sem] theorem fitR_map {es : List (D × D)} {y : R} : fitR (.map es) y = (.map es = y) := by cases y <;> rfl
@[go_sem] theorem fitR_dead {g : Nat} {y : R} : fitR (.dead g) y = (.dead g = y) := by cases y <;> rfl
@[go_sem] theorem idltM_nil {m : Nat} : idltM m [] = True := rfl
@[go_sem] theorem idltM_cons {m t : Nat} {x : I} {r : List (Nat × I)} : idltM m ((t, x) :: r) = (x.idlt m ∧ idltM m r) := rfl
@[go_sem] theorem idltH_nil {m : Nat} : idltH m [] = True := rfl
@[go_sem] theorem idltH_cons {m : Nat} {x : R} {r : List R} : idltH m (x :: r) = (x.idlt m ∧ idltH m r) := rfl
@[go_sem] theorem idltL_nil {m : Nat} : idltL m [] = True := rfl
@[go_sem] theorem idltL_cons {m : Nat} {x : I} {r : List I} : idltL m (x :: r) = (x.idlt m ∧ idltL m r) := rfl
@[go_sem] theorem idlt_d {m : Nat} {x : D} : (I.d x).idlt m = True := by simp only [I.idlt]
@[go_sem] theorem idlt_sl {m i g k lo n : Nat} : (I.sl i g k lo n).idlt m = (i < m) := by simp only [I.idlt]
@[go_sem] theorem idlt_ptr {m i off : Nat} : (I.ptr i off).idlt m = (i < m) := by simp only [I.idlt]
@[go_sem] theorem idlt_eptr {m i g k idx off : Nat} {z : D} : (I.eptr i g k idx off z).idlt m = (i < m) := by simp only [I.idlt]
@[go_sem] theorem idlt_agg {m : Nat} {cs : List I} : (I.agg cs).idlt m = idltL m cs := by simp only [I.idlt]
@[go_sem] theorem idlt_map {m i : Nat} : (I.map i).idlt m = (i < m) := by simp only [I.idlt]
@[go_sem] theorem idlt_fn {m f : Nat} {cs : List I} : (I.fn f cs).idlt m = idltL m cs := by simp only [I.idlt]
@[go_sem] theorem idltR_box {m : Nat} {cs : List I} : (R.box cs).idlt m = idltL m cs := by simp only [R.idlt]
@[go_sem] theorem idltR_row {m g k : Nat} {dp : Bool} {l : List D} : (R.row g k dp l).idlt m = True := by simp only [R.idlt]
@[go_sem] theorem idltR_map {m : Nat} {l : List (D × D)} : (R.map l).idlt m = True := by simp only [R.idlt]
@[go_sem] theorem idltR_dead {m g : Nat} : (R.dead g).idlt m = True := by simp only [R.idlt]
@[go_sem] theorem ownAll_nil : ownAll [] fr H = (fr, H) := rfl
@[go_sem] theorem ownAll_cons {t k : Nat} {dp : Bool} {r : List (Nat × Nat × Bool)} : ownAll ((t, k, dp) :: r) fr H = ownAll r (fr.put (some t) (.sl H.length 0 k 0 0)) (H ++ [.row 0 k dp []]) := rfl
@[go_sem] theorem ownVC_nil : ownVC [] fr H = True := rfl
@[go_sem] theorem ownVC_cons {t k : Nat} {dp : Bool} {r : List (Nat × Nat × Bool)} : ownVC ((t, k, dp) :: r) fr H = (fr.get t = .d .nil ∧ t < fr.n ∧ 0 < k ∧ ownVC r (fr.put (some t) (.sl H.length 0 k 0 0)) (H ++ [.row 0 k dp []])) := rfl
end rules
attribute [go_sem] I.d.injEq I.sl.injEq I.ptr.injEq I.agg.injEq R.row.injEq R.box.injEq R.map.injEq D.int.injEq D.bool.injEq D.lst.injEq D.agg.injEq D.tup.injEq

theorem inK_i64 {n : Int} : InK .i64 n ↔ -9223372036854775808 ≤ n ∧ n ≤ 9223372036854775807 := Iff.rfl
theorem inK_u8 {n : Int} : InK .u8 n ↔ 0 ≤ n ∧ n ≤ 255 := Iff.rfl

end Go.VL
