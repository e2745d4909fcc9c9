/- Part 19: a machine of verification conditions, with its continuation as data, so that it can be run by rewriting. Conditions: none; lemmas. -/
import Derived.Test.YtfinoodiofghkaaVL18
import Derived.Deep.Quiet
set_option linter.unusedVariables false
set_option linter.unusedSimpArgs false
namespace Go.VL

structure Env where
  P : Program
  T : Nat → Option TI
  pf : Nat → Kind
  n : Nat

inductive Item where
  | code (c : Code)
  | blk (id : Nat)

def contQ (E : Env) : List Item → Post → Post
  | [], Q => Q
  | .code c :: ks, Q => thenQ (fun fr H => iwp E.P E.n c (contQ E ks Q) fr H) (contQ E ks Q)
  | .blk id :: ks, Q => inBlockQ id (contQ E ks Q)

def exK (id : Nat) : List Item → Option (List Item)
  | [] => none
  | .code _ :: ks => exK id ks
  | .blk id' :: ks => if id = id' then some ks else exK id ks

/-- How an owned result is taken into the symbolic heap. -/
def Unp (x : D) (H : List R) (r : I) (H' : List R) : Prop :=
  ∀ (S : Nat → Prop) (φ : List (List Nat)) (w w' : World) (v : Value) (fp : List Nat), Sim S φ H w → OW w' x v fp → fp.Nodup → (∀ b ∈ fp, w.heap.size ≤ b) → Grow w w' →
    ∃ S' φ', Sim S' φ' H' w' ∧ Tr H.length S φ H w S' φ' H' w' ∧ Ext S φ w S' φ' w' ∧ V S' φ' H' w' r v

def retK (x : D) (H : List R) (k : I → List R → Prop) : Prop := k (.d x) H ∨ ∃ r H', Unp x H r H' ∧ k r H'

/-- A call of a function with a contract on data. -/
def pcall (E : Env) (f : Nat) (ds : List D) (H : List R) (k : I → List R → Prop) : Prop := ∃ ψ, PureE E.P f ds ψ ∧ ∀ x, ψ x → retK x H k
def fcall (E : Env) (f : Nat) (ds : List D) (H : List R) (k : I → List R → Prop) : Prop := ∃ ψ, PureFE E.P f ds ψ ∧ ∀ x, ψ x → k (.d x) H
def gcall (E : Env) (e : Bool) (f : Nat) (ds : List D) (k : I → Prop) : Prop := ∃ x, (e = true → Pure E.P f ds x) ∧ k (.cond e (.d x))

def callM (E : Env) (c : Prop) (fn : Option (Nat × List I)) (args : List I) (H : List R) (K : I → List R → Prop) : Prop :=
  match fn with
  | some (f, caps) =>
    match E.pf f with
    | .own =>
      match views H (args ++ caps) with
      | some (vc, ds) => c ∧ vc ∧ pcall E f ds H K
      | none => False
    | .fz =>
      match datas (args ++ caps) with
      | some (vc, ds) => c ∧ vc ∧ fcall E f ds H K
      | none => False
    | .proc => c ∧ ICall E.P f (args ++ caps) H K
  | none => False

def callN (E : Env) (c : Prop) (e : Bool) (fn : Option (Nat × List I)) (args : List I) (H : List R) (K : List R → I → Prop) : Prop :=
  match fn with
  | some (f, caps) =>
    match E.pf f with
    | .own =>
      match views H (args ++ caps) with
      | some (vc, ds) => (e = true → c ∧ vc) ∧ gcall E e f ds (K H)
      | none => False
    | .proc => (e = false → ∃ x, K H (.cond e x)) ∧ (e = true → c ∧ ICall E.P f (args ++ caps) H (fun r H' => K H' (.cond e r)))
    | .fz => False
  | none => False

/-! ### Freezing a row -/
section frz
variable {S : Nat → Prop} {φ : List (List Nat)} {H : List R} {w : World}
theorem Sim.freeze (s : Sim S φ H w) {i g k : Nat} {dp : Bool} {l : List D} (hi : H[i]? = some (.row g k dp l)) :
    Sim (fun b => S b ∨ b ∈ φ.getD i []) (φ.set i []) (H.set i (.dead g)) w ∧ Tr H.length S φ H w (fun b => S b ∨ b ∈ φ.getD i []) (φ.set i []) (H.set i (.dead g)) w ∧
    Ext S φ w (fun b => S b ∨ b ∈ φ.getD i []) (φ.set i []) w ∧
    ∀ {lo n : Nat} {v : Value}, V S φ H w (.sl i g k lo n) v → FZ (fun b => S b ∨ b ∈ φ.getD i []) w (.lst k ((l.drop lo).take n)) v := by
  have hlt : i < H.length := (List.getElem?_eq_some_iff.1 hi).1
  have hget : ∀ j, (φ.set i []).getD j [] = if i = j ∧ j < φ.length then [] else φ.getD j [] := fun j => getD_set φ i j []
  have hne : ∀ j, j ≠ i → (φ.set i []).getD j [] = φ.getD j [] := fun j h => by rw [hget, if_neg (by omega)]
  have heq : (φ.set i []).getD i [] = [] := by rw [hget, if_pos ⟨rfl, by rw [s.len]; exact hlt⟩]
  have hfoot : ∀ b, Foot (φ.set i []) b → Foot φ b ∧ b ∉ φ.getD i [] := by
    rintro b ⟨j, hj⟩
    by_cases h : j = i
    · subst h; rw [heq] at hj; simp at hj
    · rw [hne j h] at hj
      exact ⟨⟨j, hj⟩, fun h2 => h (s.dj j i b hj h2)⟩
  have hsome : ∀ j r, (H.set i (.dead g))[j]? = some r → (j = i ∧ r = .dead g) ∨ (j ≠ i ∧ H[j]? = some r) := by
    intro j r hr
    rw [List.getElem?_set] at hr
    split at hr
    · rename_i h
      simp at hr
      exact .inl ⟨h.symm, hr.symm⟩
    · rename_i h
      exact .inr ⟨fun h2 => h h2.symm, hr⟩
  have htr : Tr H.length S φ H w (fun b => S b ∨ b ∈ φ.getD i []) (φ.set i []) (H.set i (.dead g)) w := by
    refine ⟨fun _ h => .inl h, fun _ _ => rfl, Nat.le_refl _, by simp, ?_, ?_, ?_, ?_, ?_⟩
    · intro j hj
      by_cases h : j = i
      · subst h
        have e1 : H.getD j (.dead 0) = .row g k dp l := by simp only [List.getD, hi, Option.getD_some]
        have e2 : (H.set j (.dead g)).getD j (.dead 0) = .dead g := by simp [List.getD, hlt]
        rw [e1, e2]
        exact Nat.le_refl _
      · have e1 : (H.set i (.dead g)).getD j (.dead 0) = H.getD j (.dead 0) := by simp [List.getD, List.getElem?_set, Ne.symm h]
        rw [e1]
        exact Nat.le_refl _
    · intro j g2 k2 dp' l' hj hl'
      rcases hsome j _ hl' with ⟨_, h⟩ | ⟨h, h2⟩
      · cases h
      · exact .inr ⟨dp', l', h2, hne j h, Nat.le_refl _, fun b rest arr ty e1 e2 => ⟨arr, ty, e2, Nat.le_refl _⟩⟩
    · intro j cs hj hl'
      rcases hsome j _ hl' with ⟨_, h⟩ | ⟨h, h2⟩
      · cases h
      · exact ⟨cs, h2, hne j h⟩
    · intro j cs hj hl'
      rcases hsome j _ hl' with ⟨_, h⟩ | ⟨h, h2⟩
      · cases h
      · exact ⟨cs, h2, hne j h⟩
    · intro j x hj hl'
      rcases hsome j _ hl' with ⟨_, h⟩ | ⟨h, h2⟩
      · cases h
      · exact ⟨h2, hne j h, fun _ _ => rfl⟩
  refine ⟨⟨by simp [s.len], ?_, ?_, fun b hb => s.lt b (hfoot b hb).1, ?_, ?_, ?_⟩, htr, ⟨rfl, rfl, rfl, Nat.le_refl _, fun _ _ _ => rfl, fun b hb => .inl (hfoot b hb).1, fun _ h => .inl h, ?_⟩, ?_⟩
  · intro j
    by_cases h : j = i
    · subst h; rw [heq]; simp
    · rw [hne j h]; exact s.nd j
  · intro j m b hb hb'
    by_cases h : j = i
    · subst h; rw [heq] at hb; simp at hb
    · by_cases h' : m = i
      · subst h'; rw [heq] at hb'; simp at hb'
      · rw [hne j h] at hb; rw [hne m h'] at hb'; exact s.dj j m b hb hb'
  · rintro b hb (h | h)
    · exact s.off b (hfoot b hb).1 h
    · exact (hfoot b hb).2 h
  · rintro b (h | h)
    · exact s.slt b h
    · exact s.lt b ⟨i, h⟩
  · intro j r hr
    rcases hsome j r hr with ⟨rfl, rfl⟩ | ⟨h, h2⟩
    · trivial
    · rw [hne j h]
      exact (s.rel j r h2).tr htr fun _ _ => rfl
  · rintro b (h | h)
    · exact .inl h
    · exact .inr (.inl ⟨i, h⟩)
  · intro lo n v hv
    cases hv with
    | sl hlt hg hrel h1 =>
      obtain ⟨hsl, hle⟩ := hrel dp l hi
      obtain ⟨hk, he, ho, hlim, hr⟩ := s.rel i _ hi
      have hlen : ((l.drop lo).take n).length = n := by simp; omega
      rcases hsl with ⟨hfp, rfl, rfl, rfl⟩ | ⟨b, rest, cap, arr, ty, a, hfp, rfl, hn, hcp, hlim', hb, hfit⟩
      · simp only [List.take_zero]
        exact .lst0 hk
      · by_cases hn0 : n = 0
        · subst hn0
          simp only [List.take_zero]
          exact .lst0 hk
        · obtain ⟨rfl, hfit'⟩ := hfit (.inl hn0)
          rcases hr with ⟨e, _⟩ | ⟨b', rest', arr', ty', e, hb', hsz, hrr⟩
          · rw [hfp] at e; simp at e
          · have e2 := e
            rw [hfp] at e
            simp at e
            obtain ⟨rfl, rfl⟩ := e
            rw [hb] at hb'
            simp at hb'
            obtain ⟨rfl, rfl⟩ := hb'
            have hz : ∀ j, j < (flat l).length → FZ (fun b => S b ∨ b ∈ φ.getD i []) w ((flat l).getD j .nil) (arr.getD j undef) := by
              cases dp with
              | false => exact fun j hj => (hrr.2 j hj).mono (fun b hb => .inl hb) (fun _ _ => rfl)
              | true =>
                obtain ⟨F, hF0, hF⟩ := hrr
                exact fun j hj => (hF j hj).fz fun b2 hb2 => .inr (by rw [hfp, hF0]; exact List.mem_cons_of_mem _ (mem_flatMap_range hj hb2))
            have hmemE : ∀ x ∈ (l.drop lo).take n, x ∈ l := fun x hx => List.mem_of_mem_drop (List.mem_of_mem_take hx)
            have g1 : ∀ x ∈ (l.drop lo).take n, x.cells.length = k := fun x hx => he x (hmemE x hx)
            have hfl' := flat_length g1
            rw [hlen] at hfl'
            have hnk : n * k ≤ cap * k := Nat.mul_le_mul_right _ hn
            have := FZ.lst (S := fun b => S b ∨ b ∈ φ.getD i []) (w := w) (k := k) (l := (l.drop lo).take n) (b := b) (off := lo * k) (cap := cap) (fun j => arr.getD (lo * k + j) undef) hk g1 ?_ (by omega) (by omega) (.inr (by rw [hfp]; simp)) ?_ ?_
            · rw [hlen] at this
              exact this
            · intro c hc'
              obtain ⟨x, hx, hcx⟩ := mem_flat.1 hc'
              exact ho c (mem_flat.2 ⟨x, hmemE x hx, hcx⟩)
            · intro j hj
              have : lo * k + j < arr.size := by omega
              rw [cell_of_row w b _ arr ty (0, 0) hb]
              simp [Array.getD, this]
            · intro j hj
              obtain ⟨f1, f2⟩ := flat_sub hk he hle j (by omega)
              rw [f2]
              exact hz _ f1
end frz
/-- A slice that goes into a new one is frozen. -/
def frzOp (fr : Fr) (H : List R) : Op → Option (Prop × Fr × List R)
  | .buildSlice _ _ parts =>
    match parts.toList with
    | [(_, .tmp t)] =>
      match fr.get t with
      | .sl i g k lo n =>
        match H[i]? with
        | some (.row g' k' _ l) => some (g = g' ∧ k = k', fr.put (some t) (.d (.lst k ((l.drop lo).take n))), H.set i (.dead g'))
        | _ => none
      | _ => none
    | _ => none
  | _ => none

theorem frzOp_sound {S : Nat → Prop} {φ : List (List Nat)} {H : List R} {w : World} {fr : Fr} {a : Act} (s : Sim S φ H w) (hf : FrR S φ H w fr a) {op : Op} {fc : Prop} {fr' : Fr} {H' : List R} (h : frzOp fr H op = some (fc, fr', H')) (hfc : fc) :
    ∃ S' φ', Sim S' φ' H' w ∧ FrR S' φ' H' w fr' a ∧ Ext S φ w S' φ' w ∧ Tr H.length S φ H w S' φ' H' w := by
  unfold frzOp at h
  split at h
  · split at h
    · rename_i t _
      split at h
      · rename_i i g k lo n hg
        split at h
        · rename_i g' k' dp l hi
          simp only [Option.some.injEq, Prod.mk.injEq] at h
          obtain ⟨rfl, rfl, rfl⟩ := h
          obtain ⟨rfl, rfl⟩ := hfc
          obtain ⟨s1, t1, e1, z1⟩ := s.freeze hi
          have hv := hf.val t
          rw [hg] at hv
          have hz := z1 hv
          have hf1 := hf.tr t1
          refine ⟨_, _, s1, ⟨hf1.defers, ?_, ?_⟩, e1, t1⟩
          · rw [hf1.size]
            simp only [Fr.put]
            split <;> rfl
          · intro t'
            simp only [Fr.put]
            split
            · simp only [Fr.get, look]
              split
              · rename_i ht
                subst ht
                exact .d hz
              · exact hf1.val t'
            · exact hf1.val t'
        · cases h
      · cases h
    · cases h
  · cases h
theorem frzOp_build {fr : Fr} {H : List R} {op : Op} {p : Prop × Fr × List R} (h : frzOp fr H op = some p) : ∃ t n q, op = .buildSlice t n q := by
  unfold frzOp at h
  split at h
  · exact ⟨_, _, _, rfl⟩
  · cases h
/-! ### Regions that draw their order, where every operation only reads -/
/-- Data with one real value only. -/
def scal : D → Prop
  | .int k n => InK k n
  | .bool _ => True
  | _ => False
/-- Operations that the walk of such a region knows. -/
def quietO : Op → Bool
  | .move _ | .assign _ | .pick _ _ _ | .build _ _ | .load _ _ | .nilCheck _ | .binOp _ _ _ _ _ | .unOp _ _ _ | .convert _ _ _ | .slice _ _ _ _ _ | .fieldAddr _ _ _ | .field _ _ _ | .indexAddr _ _ _ | .index _ _ _ | .extract _ _ => true
  | .makeFunc _ _ _ => true
  | .call ⟨.builtin .len, _, _⟩ => true
  | .call ⟨.builtin .min, _, _⟩ => true
  | .call ⟨.builtin .max, _, _⟩ => true
  | .call ⟨.value _, _, _⟩ => true
  | _ => false
def quietL : List Oper → Bool
  | [] => true
  | o :: r => quietO o.op && quietL r

/-- Calls in it have one number or truth value for a result. -/
def scalTI : Option TI → Bool
  | some ⟨.int _, _, _, _⟩ => true
  | some ⟨.bool, _, _, _⟩ => true
  | _ => false
def scalO (T : Nat → Option TI) (ty : Nat) : Op → Bool
  | .call ⟨.value _, _, _⟩ => scalTI (T ty)
  | _ => true
def scalL (T : Nat → Option TI) : List Oper → Bool
  | [] => true
  | o :: r => scalO T o.type o.op && scalL T r
def quiet (T : Nat → Option TI) (l : List Oper) : Bool := quietL l && scalL T l

def qcall (E : Env) (e : Bool) (f : Nat) (ds : List D) (k : D → Prop) : Prop := ∃ x, (e = true → Pure E.P f ds x ∧ scal x) ∧ k x
def callQ (E : Env) (c : Prop) (e : Bool) (fn : Option (Nat × List I)) (args : List I) (H : List R) (K : D → Prop) : Prop :=
  match fn with
  | some (f, caps) =>
    match views H (args ++ caps) with
    | some (vc, ds) => (e = true → c ∧ vc) ∧ qcall E e f ds K
    | none => False
  | none => False

def opsQ (E : Env) (all : List Oper) (H : List R) (K : Fr → Prop) : List Oper → Fr → Prop
  | [], fr => K fr
  | o :: rest, fr =>
    match o.guard with
    | none =>
      match isCall o.op with
      | some (g, args) => callQ E (evc fr g ∧ evcs fr args) true (fnOf (evx fr g)) (evs fr args) H (fun x => opsQ E all H K rest (fr.put o.dst (.d x)))
      | none =>
        match sopP E.T fr H o.op with
        | some (vc, x) => vc ∧ opsQ E all H K rest (fr.put o.dst x)
        | none => False
    | some (j, want) =>
      match guardOf all fr j want with
      | some (gc, e) =>
        match isCall o.op with
        | some (g, args) => gc ∧ callQ E (evc fr g ∧ evcs fr args) e (fnOf (evx fr g)) (evs fr args) H (fun x => opsQ E all H K rest (fr.put o.dst (.cond e (.d x))))
        | none =>
          match sopP E.T fr H o.op with
          | some (vc, x) => gc ∧ (e = true → vc) ∧ opsQ E all H K rest (fr.put o.dst (.cond e x))
          | none => False
      | none => False

theorem scal_det {S : Nat → Prop} {w : World} {x : D} (h : scal x) : ∃ v, FZ S w x v ∧ ∀ (w2 : World) (v2 : Value) (fp : List Nat), OW w2 x v2 fp → v2 = v := by
  cases x <;> simp only [scal] at h
  · exact ⟨_, .int h, fun w2 v2 fp h => by cases h; rfl⟩
  · exact ⟨_, .bool, fun w2 v2 fp h => by cases h; rfl⟩

theorem Grow.draw (w : World) : Grow w { w with drawn := w.drawn + 1 } := ⟨rfl, rfl, rfl, Nat.le_refl _, fun _ _ => rfl⟩
theorem Grow.agree {w w' : World} (g : Grow w w') : Agree w w' := g.keep
theorem Grow.trans' {w w' w'' : World} (g : Grow w w') (g' : Grow w' w'') : Grow w w'' :=
  ⟨g'.os.trans g.os, g'.tape.trans g.tape, g'.output.trans g.output, Nat.le_trans g.size g'.size, fun b hb => (g'.keep b (Nat.lt_of_lt_of_le hb g.size)).trans (g.keep b hb)⟩

theorem opsQ_sound {E : Env} (hT : TOK E.P E.T) {all : List Oper} {H : List R} {K : Fr → Prop} {S : Nat → Prop} {φ : List (List Nat)} {w : World} (s : Sim S φ H w) {K' : Act → Prop}
    (hK : ∀ fr a, FrR S φ H w fr a → K fr → K' a) : ∀ (l : List Oper) {fr : Fr} {a : Act}, FrR S φ H w fr a → opsQ E all H K l fr → wpQuiet E.P all.toArray (Grow w) K' l a := by
  intro l
  induction l with
  | nil => exact fun {fr a} hf h => hK fr a hf h
  | cons o rest ih =>
    intro fr a hf h
    have reads : ∀ {vc : Prop} {x : I}, sopP E.T fr H o.op = some (vc, x) → vc → ∃ v, V S φ H w x v ∧ ∀ w', Grow w w' → o.quietAt E.P a (Grow w) w' v := by
      intro vc x hp hvc
      obtain ⟨v, hv, hr⟩ := sopP_sound hT s hf hp hvc
      refine ⟨v, hv, fun w' hw' => ?_⟩
      unfold Oper.quietAt
      rw [hr w' fun _ => hw'.agree]
      exact ⟨rfl, rfl⟩
    have calls : ∀ {g : Operand} {args : List Operand} {f : Nat} {caps : List I} {vc : Prop} {ds : List D} {x : D}, isCall o.op = some (g, args) → fnOf (evx fr g) = some (f, caps) → views H (evs fr args ++ caps) = some (vc, ds) →
        (evc fr g ∧ evcs fr args) → vc → Pure E.P f ds x → scal x → ∃ v, V S φ H w (.d x) v ∧ ∀ w', Grow w w' → o.quietAt E.P a (Grow w) w' v := by
      intro g args f caps vc ds x ho hfn hv hc hvc hp hx
      obtain ⟨hc1, hc2⟩ := hc
      obtain ⟨vs, e1, e2, e3⟩ := fnOf_sound (hf.evx g hc1) hfn
      obtain ⟨l1, l2⟩ := evs_sound hf args hc2
      obtain ⟨m1, m2⟩ := args_sound (va := (args.map a.eval).toArray) (by simp [l1]) (fun j hj => l2 j (by omega)) e2 e3
      have hargs := viewF_args (fun x v vc d h1 h2 h3 => view_sound s 3 h1 h2 h3) m1 m2 hv hvc
      have hlt : ∀ b, Lent S φ b → b < w.heap.size := fun b hb => hb.elim (s.slt b) (s.lt b)
      have hargs' : ∀ w', Grow w w' → ArgsFZ (Lent S φ) w' ds ((args.map a.eval).toArray ++ vs) := fun w' hw' => ⟨hargs.1, fun j hj => (hargs.2 j hj).mono (fun _ h => h) (fun b hb => hw'.keep b (hlt b hb))⟩
      have hcall : ∀ w', Grow w w' → Calls E.P f ((args.map a.eval).toArray ++ vs) w' (fun e w'' => ∃ v fp, e = .returned v ∧ OW w'' x v fp ∧ Grow w w'') := fun w' hw' =>
        hp.2 (Lent S φ) _ w' _ (fun b hb => Nat.lt_of_lt_of_le (hlt b hb) hw'.size) (hargs' w' hw') fun v w'' fp how _ _ hg => ⟨v, fp, rfl, how, hw'.trans' hg⟩
      obtain ⟨v, hvv, hdet⟩ := scal_det (S := S) (w := w) hx
      refine ⟨v, .d hvv, fun w' hw' => ?_⟩
      unfold Oper.quietAt
      rw [run_call ho e1 hp.1 w']
      refine ⟨rfl, (hcall w' hw').mono ?_⟩
      rintro e w'' ⟨v2, fp, rfl, how, hg⟩
      exact ⟨by rw [hdet _ _ _ how], hg⟩
    simp only [opsQ] at h
    split at h
    · rename_i hgd
      have hw : Region.wanted o (yielded all.toArray a.tmps) = true := by simp only [Region.wanted, hgd]
      simp only [wpQuiet, hw, if_true]
      split at h
      · rename_i g args ho
        unfold callQ at h
        split at h
        · rename_i f caps hfn
          split at h
          · rename_i vc ds hv
            obtain ⟨hc, x, hp, hk⟩ := h
            obtain ⟨v, hvv, hq⟩ := calls ho hfn hv (hc rfl).1 (hc rfl).2 (hp rfl).1 (hp rfl).2
            exact ⟨v, hq, ih (hf.put o.dst hvv) hk⟩
          · exact h.elim
        · exact h.elim
      · split at h
        · rename_i vc x hp
          obtain ⟨v, hvv, hq⟩ := reads hp h.1
          exact ⟨v, hq, ih (hf.put o.dst hvv) h.2⟩
        · exact h.elim
    · rename_i j want hgd
      split at h
      · rename_i gc e hg
        have wanted : gc → Region.wanted o (yielded all.toArray a.tmps) = e := by
          intro hgc
          exact guardOf_sound hf hgd hg hgc
        split at h
        · rename_i g args ho
          obtain ⟨hgc, h⟩ := h
          have hw := wanted hgc
          unfold callQ at h
          split at h
          · rename_i f caps hfn
            split at h
            · rename_i vc ds hv
              obtain ⟨hc, x, hp, hk⟩ := h
              cases e with
              | false =>
                simp only [wpQuiet, hw, Bool.false_eq_true, if_false]
                exact ih (hf.skip o.dst rfl _) hk
              | true =>
                simp only [wpQuiet, hw, if_true]
                obtain ⟨v, hvv, hq⟩ := calls ho hfn hv (hc rfl).1 (hc rfl).2 (hp rfl).1 (hp rfl).2
                exact ⟨v, hq, ih (hf.put o.dst (.cond (fun _ => hvv) fun h => by cases h)) hk⟩
            · exact h.elim
          · exact h.elim
        · split at h
          · rename_i vc x hp
            obtain ⟨hgc, hvc, hk⟩ := h
            have hw := wanted hgc
            cases e with
            | false =>
              simp only [wpQuiet, hw, Bool.false_eq_true, if_false]
              exact ih (hf.skip o.dst rfl _) hk
            | true =>
              simp only [wpQuiet, hw, if_true]
              obtain ⟨v, hvv, hq⟩ := reads hp (hvc rfl)
              exact ⟨v, hq, ih (hf.put o.dst (.cond (fun _ => hvv) fun h => by cases h)) hk⟩
          · exact h.elim
      · exact h.elim

theorem opsQ_mono {E : Env} {all : List Oper} {H : List R} {K K' : Fr → Prop} (hK : ∀ fr, K fr → K' fr) : ∀ (l : List Oper) {fr : Fr}, opsQ E all H K l fr → opsQ E all H K' l fr := by
  intro l
  have cq : ∀ {c : Prop} {e : Bool} {fn : Option (Nat × List I)} {args : List I} {K K' : D → Prop}, (∀ x, K x → K' x) → callQ E c e fn args H K → callQ E c e fn args H K' := by
    intro c e fn args K K' hk h
    unfold callQ at *
    split at h
    · split at h
      · rename_i hv
        try simp only [hv]
        obtain ⟨h1, x, h2, h3⟩ := h
        exact ⟨h1, x, h2, hk x h3⟩
      · exact h.elim
    · exact h.elim
  induction l with
  | nil => exact fun {fr} h => hK fr h
  | cons o rest ih =>
    intro fr h
    simp only [opsQ] at h ⊢
    split at h
    · rename_i hgd
      try simp only [hgd]
      split at h
      · rename_i ho
        try simp only [ho]
        exact cq (fun x hx => ih hx) h
      · rename_i ho
        try simp only [ho]
        split at h
        · rename_i hp
          try simp only [hp]
          exact ⟨h.1, ih h.2⟩
        · exact h.elim
    · rename_i hgd
      try simp only [hgd]
      split at h
      · rename_i hg
        try simp only [hg]
        split at h
        · rename_i ho
          try simp only [ho]
          exact ⟨h.1, cq (fun x hx => ih hx) h.2⟩
        · rename_i ho
          try simp only [ho]
          split at h
          · rename_i hp
            try simp only [hp]
            exact ⟨h.1, h.2.1, ih h.2.2⟩
          · exact h.elim
      · exact h.elim

theorem iwp_draw {E : Env} (hT : TOK E.P E.T) (hm : E.P.follows .mixedOrders = true) {id : Nat} {ops : Array Oper} (hB : Region.lexB .any ops = true) {Q : Post} {H : List R} {fr : Fr}
    (h : opsQ E ops.toList H (fun fr' => Q .normal fr' H) ops.toList fr) : iwp E.P E.n (.region id ops true) Q fr H := by
  intro S φ a w Qr hn s hf hq
  refine wp_region_quiet (C := Grow w) hm hB (Grow.draw w) ?_
  have := opsQ_sound hT s (K := fun fr' => Q .normal fr' H) (K' := fun a' => ∀ w', Grow w w' → Qr .normal a' w') (fun fr' a' hf' hk w' hg => by
    obtain ⟨s1, s2, s3⟩ := grow_ext s hg S (fun b h => h) (fun b h => .inl h) (fun b h => Nat.lt_of_lt_of_le (s.slt b h) hg.size)
    exact hq _ a' w' S φ fr' H s1 (hf'.tr s2) s3 (s2.weaken hn) hk) ops.toList hf h
  simpa using this

mutual
def exec (E : Env) : Nat → List Item → Post → Fr → List R → Prop
  | 0, _, _, _, _ => False
  | _ + 1, [], Q, fr, H => Q .normal fr H
  | f + 1, .blk _ :: ks, Q, fr, H => exec E f ks Q fr H
  | f + 1, .code c :: ks, Q, fr, H => execC E f c ks Q fr H
def execC (E : Env) : Nat → Code → List Item → Post → Fr → List R → Prop
  | 0, _, _, _, _, _ => False
  | f + 1, .skip, ks, Q, fr, H => exec E f ks Q fr H
  | f + 1, .label _, ks, Q, fr, H => exec E f ks Q fr H
  | f + 1, .seq x y, ks, Q, fr, H => execC E f x (.code y :: ks) Q fr H
  | f + 1, .block id c, ks, Q, fr, H => execC E f c (.blk id :: ks) Q fr H
  | f + 1, .exit id, ks, Q, fr, H => execX E f (exK id ks) id ks Q fr H
  | f + 1, .ret, ks, Q, fr, H => Q .ret fr H
  | f + 1, .cond c x y, ks, Q, fr, H => execB E f (ev fr c) x y ks Q fr H
  | f + 1, .region _ ops false, ks, Q, fr, H => ops' E f ops.toList ops.toList ks Q fr H
  | f + 1, .region id ops true, ks, Q, fr, H =>
    if quiet E.T ops.toList = true then E.P.follows .mixedOrders = true ∧ Region.lexB .any ops = true ∧ opsQ E ops.toList H (fun fr' => exec E f ks Q fr' H) ops.toList fr
    else iwp E.P E.n (.region id ops true) (contQ E ks Q) fr H
  | f + 1, .loop c, ks, Q, fr, H => iwp E.P E.n (.loop c) (contQ E ks Q) fr H
  | f + 1, .scope c, ks, Q, fr, H => iwp E.P E.n (.scope c) (contQ E ks Q) fr H
  | f + 1, .goto l, ks, Q, fr, H => iwp E.P E.n (.goto l) (contQ E ks Q) fr H
  | f + 1, .refuse s, ks, Q, fr, H => iwp E.P E.n (.refuse s) (contQ E ks Q) fr H
  | f + 1, .rangeFunc g ps c1 c2, ks, Q, fr, H => iwp E.P E.n (.rangeFunc g ps c1 c2) (contQ E ks Q) fr H
def execX (E : Env) : Nat → Option (List Item) → Nat → List Item → Post → Fr → List R → Prop
  | 0, _, _, _, _, _, _ => False
  | f + 1, some ks', _, _, Q, fr, H => exec E f ks' Q fr H
  | _ + 1, none, id, _, Q, fr, H => Q (.exit id) fr H
def execB (E : Env) : Nat → I → Code → Code → List Item → Post → Fr → List R → Prop
  | 0, _, _, _, _, _, _, _ => False
  | f + 1, .d d, x, y, ks, Q, fr, H => d.isBool ∧ (d.toBool = true → execC E f x ks Q fr H) ∧ (d.toBool = false → execC E f y ks Q fr H)
  | _ + 1, _, _, _, _, _, _, _ => False
def ops' (E : Env) : Nat → List Oper → List Oper → List Item → Post → Fr → List R → Prop
  | 0, _, _, _, _, _, _ => False
  | f + 1, _, [], ks, Q, fr, H => exec E f ks Q fr H
  | f + 1, all, o :: rest, ks, Q, fr, H =>
    match o.guard with
    | none =>
      match isCall o.op with
      | some (g, args) => callM E (evc fr g ∧ evcs fr args) (fnOf (evx fr g)) (evs fr args) H (opsK E f all rest ks Q fr o.dst)
      | none =>
        match sopP E.T fr H o.op with
        | some (vc, x) => vc ∧ ops' E f all rest ks Q (fr.put o.dst x) H
        | none =>
          match sopI E.T fr H o.op with
          | some (vc, x, H') => vc ∧ ops' E f all rest ks Q (fr.put o.dst x) H'
          | none =>
            match frzOp fr H o.op with
            | some (fc, fr', H') =>
              match sopI E.T fr' H' o.op with
              | some (vc, x, H'') => fc ∧ vc ∧ ops' E f all rest ks Q (fr'.put o.dst x) H''
              | none => False
            | none => False
    | some (j, want) =>
      match guardOf all fr j want with
      | some (gc, e) =>
        match isCall o.op with
        | some (g, args) => gc ∧ callN E (evc fr g ∧ evcs fr args) e (fnOf (evx fr g)) (evs fr args) H (opsG E f all rest ks Q fr o.dst)
        | none =>
          match sopP E.T fr H o.op with
          | some (vc, x) => gc ∧ (e = true → vc) ∧ ops' E f all rest ks Q (fr.put o.dst (.cond e x)) H
          | none =>
            match sopI E.T fr H o.op with
            | some (vc, x, H') => gc ∧ (e = false → ∃ y, ops' E f all rest ks Q (fr.put o.dst (.cond e y)) H) ∧ (e = true → vc ∧ ops' E f all rest ks Q (fr.put o.dst (.cond e x)) H')
            | none => False
      | none => False
def opsK (E : Env) : Nat → List Oper → List Oper → List Item → Post → Fr → Option Tmp → I → List R → Prop
  | 0, _, _, _, _, _, _, _, _ => False
  | f + 1, all, rest, ks, Q, fr, dst, r, H => ops' E f all rest ks Q (fr.put dst r) H
def opsG (E : Env) : Nat → List Oper → List Oper → List Item → Post → Fr → Option Tmp → List R → I → Prop
  | 0, _, _, _, _, _, _, _, _ => False
  | f + 1, all, rest, ks, Q, fr, dst, H, r => ops' E f all rest ks Q (fr.put dst r) H
end

variable {E : Env} {Q : Post} {fr : Fr} {H : List R}

theorem contQ_ret : ∀ (ks : List Item), Q .ret fr H → contQ E ks Q .ret fr H
  | [], h => h
  | .code c :: ks, h => contQ_ret ks h
  | .blk id :: ks, h => contQ_ret ks h

theorem contQ_exit (id : Nat) : ∀ (ks : List Item), (match exK id ks with | some ks' => contQ E ks' Q .normal fr H | none => Q (.exit id) fr H) → contQ E ks Q (.exit id) fr H
  | [], h => h
  | .code c :: ks, h => contQ_exit id ks h
  | .blk id' :: ks, h => by
    simp only [contQ, inBlockQ]
    simp only [exK] at h
    by_cases hid : id = id'
    · rw [if_pos hid]
      rw [if_pos hid] at h
      exact h
    · rw [if_neg hid]
      rw [if_neg hid] at h
      exact contQ_exit id ks h

/-- Operations with what follows them. -/
def opsW (E : Env) (all : List Oper) (l : List Oper) (ks : List Item) (Q : Post) (fr : Fr) (H : List R) : Prop :=
  iops E.P E.n all.toArray l (fun fr H => contQ E ks Q .normal fr H) fr H

variable {S : Nat → Prop} {φ : List (List Nat)} {w : World} {a : Act}

theorem callM_sound {f : Operand} {args : List Operand} {o : Oper} (ho : isCall o.op = some (f, args)) (s : Sim S φ H w) (hf : FrR S φ H w fr a)
    {Kc : I → List R → Prop} (h : callM E (evc fr f ∧ evcs fr args) (fnOf (evx fr f)) (evs fr args) H Kc) {Qr : Exit → Act → World → Prop} {Kr : Act → World → Prop}
    (hK : ∀ S' φ' H' w' r v, Sim S' φ' H' w' → FrR S' φ' H' w' fr a → V S' φ' H' w' r v → Ext S φ w S' φ' w' → Tr H.length S φ H w S' φ' H' w' → Kc r H' → Kr (a.put o.dst v) w') : o.wp E.P a w Kr Qr := by
  unfold callM at h
  split at h
  · rename_i g caps hfn
    have common : (evc fr f ∧ evcs fr args) → ∃ vs, a.eval f = .func (.func g) #[] vs ∧ ((args.map a.eval).toArray ++ vs).size = (evs fr args ++ caps).length ∧
        ∀ j, j < (evs fr args ++ caps).length → V S φ H w ((evs fr args ++ caps).getD j .junk) (((args.map a.eval).toArray ++ vs).getD j undef) := by
      rintro ⟨hc1, hc2⟩
      obtain ⟨vs, e1, e2, e3⟩ := fnOf_sound (hf.evx f hc1) hfn
      obtain ⟨l1, l2⟩ := evs_sound hf args hc2
      obtain ⟨m1, m2⟩ := args_sound (va := (args.map a.eval).toArray) (by simp [l1]) (fun j hj => l2 j (by omega)) e2 e3
      exact ⟨vs, e1, m1, m2⟩
    split at h
    · split at h
      · rename_i vc ds hv
        obtain ⟨hc, hvc, ψ, hp, hk⟩ := h
        obtain ⟨vs, e1, e2, e3⟩ := common hc
        refine oper_wp_enter (run_call ho e1 hp.1 w) (hp.2 (Lent S φ) _ w _ (fun b hb => hb.elim (s.slt b) (s.lt b)) (viewF_args (fun x v vc d h1 h2 h3 => view_sound s 3 h1 h2 h3) e2 e3 hv hvc) ?_)
        intro x v w' fp hx how hnd hfp hg
        rcases hk x hx with hk | ⟨r, H', hu, hk⟩
        · obtain ⟨s1, s2, s3⟩ := grow_ext s hg (fun b => S b ∨ b ∈ fp) (fun b h => .inl h) (fun b h => h.imp id (hfp b)) (fun b h => h.elim (fun h => Nat.lt_of_lt_of_le (s.slt b h) hg.size) (how.lt b))
          exact hK _ _ _ _ _ _ s1 (hf.tr s2) (.d (how.fz fun b hb => .inr hb)) s3 s2 hk
        · obtain ⟨S', φ', s1, s2, s3, hv⟩ := hu S φ w w' v fp s how hnd hfp hg
          exact hK _ _ _ _ _ _ s1 (hf.tr s2) hv s3 s2 hk
      · exact h.elim
    · split at h
      · rename_i vc ds hv
        obtain ⟨hc, hvc, ψ, hp, hk⟩ := h
        obtain ⟨vs, e1, e2, e3⟩ := common hc
        refine oper_wp_enter (run_call ho e1 hp.1 w) (hp.2 S _ w _ s.slt (viewF_args datas_fz e2 e3 hv hvc) ?_)
        intro x v w' S' hx h1 h2 h3 hz hg
        obtain ⟨s1, s2, s3⟩ := grow_ext s hg S' h1 h2 h3
        exact hK _ _ _ _ _ _ s1 (hf.tr s2) (.d hz) s3 s2 (hk x hx)
      · exact h.elim
    · obtain ⟨hc, hp⟩ := h
      obtain ⟨vs, e1, e2, e3⟩ := common hc
      refine oper_wp_enter (run_call ho e1 hp.1 w) (hp.2 S φ _ w _ s e2 e3 ?_)
      intro v w' S' φ' r H' s1 hv s3 s2 hk
      exact hK _ _ _ _ _ _ s1 (hf.tr s2) hv s3 s2 hk
  · exact h.elim

set_option maxHeartbeats 1000000 in
/-- What the machine says is so. -/
theorem exec_sound (hT : TOK E.P E.T) : ∀ (f : Nat),
    (∀ (ks : List Item) {fr : Fr} {H : List R}, exec E f ks Q fr H → contQ E ks Q .normal fr H) ∧
    (∀ (c : Code) (ks : List Item) {fr : Fr} {H : List R}, execC E f c ks Q fr H → iwp E.P E.n c (contQ E ks Q) fr H) ∧
    (∀ (all l : List Oper) (ks : List Item) {fr : Fr} {H : List R}, ops' E f all l ks Q fr H → opsW E all l ks Q fr H) := by
  intro f
  induction f using Nat.strongRecOn with
  | _ f ih =>
  refine ⟨?_, ?_, ?_⟩
  · intro ks fr H h
    match f, ks with
    | 0, _ => simp only [exec] at h
    | f + 1, [] =>
      simp only [exec] at h
      exact h
    | f + 1, .blk id :: ks =>
      simp only [exec] at h
      exact (ih f (Nat.lt_succ_self f)).1 ks h
    | f + 1, .code c :: ks =>
      simp only [exec] at h
      exact (ih f (Nat.lt_succ_self f)).2.1 c ks h
  · intro c ks fr H h
    match f with
    | 0 => simp only [execC] at h
    | f + 1 =>
      have ih0 := ih f (Nat.lt_succ_self f)
      cases c with
      | skip => simp only [execC] at h; exact iwp_skip (ih0.1 ks h)
      | label l => simp only [execC] at h; exact iwp_label (ih0.1 ks h)
      | exit id =>
        simp only [execC] at h
        refine iwp_exit (contQ_exit id ks ?_)
        generalize exK id ks = o at h
        match f, o with
        | 0, _ => simp only [execX] at h
        | f + 1, some ks' =>
          simp only [execX] at h
          exact (ih f (by omega)).1 ks' h
        | f + 1, none =>
          simp only [execX] at h
          exact h
      | ret => simp only [execC] at h; exact iwp_ret (contQ_ret ks h)
      | seq x y => simp only [execC] at h; exact iwp_seq (ih0.2.1 x (.code y :: ks) h)
      | block id c => simp only [execC] at h; exact iwp_block (ih0.2.1 c (.blk id :: ks) h)
      | cond c x y =>
        simp only [execC] at h
        generalize hev : ev fr c = i at h
        match f, i with
        | 0, _ => simp only [execB] at h
        | f + 1, .d d =>
          simp only [execB] at h
          exact iwp_cond hev h.1 (fun e => (ih f (by omega)).2.1 x ks (h.2.1 e)) (fun e => (ih f (by omega)).2.1 y ks (h.2.2 e))
        | f + 1, .agg _ | f + 1, .sl .. | f + 1, .ptr .. | f + 1, .eptr .. | f + 1, .bor .. | f + 1, .bptr .. | f + 1, .map _ | f + 1, .fn .. | f + 1, .tup _ | f + 1, .own _ | f + 1, .cond .. | f + 1, .junk => simp only [execB] at h
      | region id ops draw =>
        cases draw with
        | false =>
          simp only [execC] at h
          exact iwp_region (by have := ih0.2.2 ops.toList ops.toList ks h; unfold opsW at this; simpa using this)
        | true =>
          simp only [execC] at h
          split at h
          · obtain ⟨hm, hB, h⟩ := h
            refine iwp_draw hT hm hB (opsQ_mono (fun fr' h => ih0.1 ks h) _ h)
          · exact h
      | loop c => simpa only [execC] using h
      | scope c => simpa only [execC] using h
      | goto l => simpa only [execC] using h
      | refuse s => simpa only [execC] using h
      | rangeFunc g ps c1 c2 => simpa only [execC] using h
  · intro all l ks fr H h
    match f, l with
    | 0, _ => simp only [ops'] at h
    | f + 1, [] =>
      simp only [ops'] at h
      intro S φ a w Qr hn s hf hq
      exact hq a w S φ fr H s hf (Ext.refl ..) (Tr.refl hn) ((ih f (Nat.lt_succ_self f)).1 ks h)
    | f + 1, o :: rest =>
      have ih0 := (ih f (Nat.lt_succ_self f)).2.2
      intro S φ a w Qr hn s hf hq
      simp only [ops'] at h
      split at h
      · rename_i hgd
        refine wpList_plain hgd fun Kr hKr => ?_
        split at h
        · rename_i g args ho
          refine callM_sound ho s hf h fun S' φ' H' w' r v s' hf' hv he ht hk => hKr _ _ ?_
          match f with
          | 0 => simp only [opsK] at hk
          | f + 1 =>
            simp only [opsK] at hk
            exact (ih f (by omega)).2.2 all rest ks hk S' φ' _ w' Qr (Nat.le_trans hn ht.len) s' (hf'.put o.dst hv) fun a2 w2 S2 φ2 fr2 H2 a3 a4 a5 a6 a7 => hq a2 w2 S2 φ2 fr2 H2 a3 a4 (he.trans a5) ((ht.weaken hn).trans a6) a7
        · split at h
          · rename_i vc x hp
            obtain ⟨hvc, hk⟩ := h
            obtain ⟨v, hv, hr⟩ := sopP_sound hT s hf hp hvc
            unfold Oper.wp
            rw [hr w (fun _ => Agree.refl w), Oper.upon_value]
            exact hKr _ _ (ih0 all rest ks hk S φ _ w Qr hn s (hf.put o.dst hv) hq)
          · split at h
            · rename_i vc x H' hp
              obtain ⟨hvc, hk⟩ := h
              obtain ⟨v, w', φ', hr, s', ht, he, hv⟩ := sopI_sound hT s hf hp hvc
              have fin : Kr (a.put o.dst v) w' := hKr _ _ (ih0 all rest ks hk S φ' _ w' Qr (Nat.le_trans hn ht.len) s' ((hf.tr ht).put o.dst hv) fun a2 w2 S2 φ2 fr2 H2 a3 a4 a5 a6 a7 =>
                hq a2 w2 S2 φ2 fr2 H2 a3 a4 (he.trans a5) ((ht.weaken hn).trans a6) a7)
              unfold Oper.wp
              rcases hr with hr | ⟨hr, rfl⟩
              · rw [hr, Oper.upon_value]; exact fin
              · rw [hr, Oper.upon_skip]; exact fin
            · split at h
              · rename_i fc fr' H' hfz
                split at h
                · rename_i vc x H'' hp
                  obtain ⟨hfc, hvc, hk⟩ := h
                  obtain ⟨S1, φ1, s1, hf1, e1, t1⟩ := frzOp_sound s hf hfz hfc
                  obtain ⟨v, w', φ', hr, s', ht, he, hv⟩ := sopI_sound hT s1 hf1 hp hvc
                  have hn1 := Nat.le_trans hn t1.len
                  have fin : Kr (a.put o.dst v) w' := hKr _ _ (ih0 all rest ks hk S1 φ' _ w' Qr (Nat.le_trans hn1 ht.len) s' ((hf1.tr ht).put o.dst hv) fun a2 w2 S2 φ2 fr2 H2 a3 a4 a5 a6 a7 =>
                    hq a2 w2 S2 φ2 fr2 H2 a3 a4 (e1.trans (he.trans a5)) ((t1.weaken hn).trans ((ht.weaken hn1).trans a6)) a7)
                  unfold Oper.wp
                  rcases hr with hr | ⟨hr, rfl⟩
                  · rw [hr, Oper.upon_value]; exact fin
                  · rw [hr, Oper.upon_skip]; exact fin
                · exact h.elim
              · exact h.elim
      · rename_i j want hgd
        split at h
        · rename_i gc e hg
          have wanted : gc → Region.wanted o (yielded all.toArray a.tmps) = e := by
            intro hgc
            exact guardOf_sound hf hgd hg hgc
          split at h
          · rename_i g args ho
            obtain ⟨hgc, h⟩ := h
            have hw := wanted hgc
            unfold wpList
            rw [hw]
            unfold callN at h
            split at h
            · rename_i g caps hfn
              split at h
              · rename_i hpf
                split at h
                · rename_i vc ds hv
                  obtain ⟨hc, x, hp, hk⟩ := h
                  match f with
                  | 0 => simp only [opsG] at hk
                  | f + 1 =>
                  simp only [opsG] at hk
                  have ih1 := (ih f (by omega)).2.2
                  cases e with
                  | false =>
                    simp only [Bool.false_eq_true, if_false]
                    exact ih1 all rest ks hk S φ _ w Qr hn s (hf.skip o.dst rfl _) hq
                  | true =>
                    simp only [if_true]
                    left
                    obtain ⟨hc, hvc⟩ := hc rfl
                    have hp := hp rfl
                    refine callM_sound (E := E) ho s hf (Kc := fun r H' => H' = H ∧ r = .d x) ?_ ?_
                    · simp only [callM, hfn, hpf, hv]
                      exact ⟨hc, hvc, fun y => y = x, hp.toE, fun y hy => .inl ⟨rfl, by rw [hy]⟩⟩
                    · rintro S' φ' H' w' r v s' hf' hv' he ht ⟨rfl, rfl⟩
                      exact ih1 all rest ks hk S' φ' _ w' Qr (Nat.le_trans hn ht.len) s' (hf'.put o.dst (.cond (fun _ => hv') fun h => by cases h)) fun a2 w2 S2 φ2 fr2 H2 a3 a4 a5 a6 a7 => hq a2 w2 S2 φ2 fr2 H2 a3 a4 (he.trans a5) ((ht.weaken hn).trans a6) a7
                · exact h.elim
              · rename_i hpf
                cases e with
                | false =>
                  obtain ⟨x, hk⟩ := h.1 rfl
                  simp only [Bool.false_eq_true, if_false]
                  match f with
                  | 0 => simp only [opsG] at hk
                  | f + 1 =>
                  simp only [opsG] at hk
                  exact (ih f (by omega)).2.2 all rest ks hk S φ _ w Qr hn s (hf.skip o.dst rfl _) hq
                | true =>
                  simp only [if_true]
                  left
                  obtain ⟨hc, hp⟩ := h.2 rfl
                  refine callM_sound (E := E) ho s hf (Kc := fun r H' => opsG E f all rest ks Q fr o.dst H' (.cond true r)) ?_ ?_
                  · simp only [callM, hfn, hpf]
                    exact ⟨hc, hp⟩
                  · intro S' φ' H' w' r v s' hf' hv' he ht hk
                    match f with
                    | 0 => simp only [opsG] at hk
                    | f + 1 =>
                    simp only [opsG] at hk
                    exact (ih f (by omega)).2.2 all rest ks hk S' φ' _ w' Qr (Nat.le_trans hn ht.len) s' (hf'.put o.dst (.cond (fun _ => hv') fun h => by cases h)) fun a2 w2 S2 φ2 fr2 H2 a3 a4 a5 a6 a7 => hq a2 w2 S2 φ2 fr2 H2 a3 a4 (he.trans a5) ((ht.weaken hn).trans a6) a7
              · exact h.elim
            · exact h.elim
          · split at h
            · rename_i vc x hp
              obtain ⟨hgc, hvc, hk⟩ := h
              have hw := wanted hgc
              unfold wpList
              rw [hw]
              cases e with
              | false =>
                simp only [Bool.false_eq_true, if_false]
                exact ih0 all rest ks hk S φ _ w Qr hn s (hf.skip o.dst rfl _) hq
              | true =>
                simp only [if_true]
                left
                obtain ⟨v, hv, hr⟩ := sopP_sound hT s hf hp (hvc rfl)
                unfold Oper.wp
                rw [hr w (fun _ => Agree.refl w), Oper.upon_value]
                exact ih0 all rest ks hk S φ _ w Qr hn s (hf.put o.dst (.cond (fun _ => hv) fun h => by cases h)) hq
            · split at h
              · rename_i vc x H' hp
                obtain ⟨hgc, hk0, hk1⟩ := h
                have hw := wanted hgc
                unfold wpList
                rw [hw]
                cases e with
                | false =>
                  obtain ⟨y, hk⟩ := hk0 rfl
                  simp only [Bool.false_eq_true, if_false]
                  exact ih0 all rest ks hk S φ _ w Qr hn s (hf.skip o.dst rfl _) hq
                | true =>
                  obtain ⟨hvc, hk⟩ := hk1 rfl
                  simp only [if_true]
                  left
                  obtain ⟨v, w', φ', hr, s', ht, he, hv⟩ := sopI_sound hT s hf hp hvc
                  unfold Oper.wp
                  have fin := ih0 all rest ks hk S φ' _ w' Qr (Nat.le_trans hn ht.len) s' ((hf.tr ht).put o.dst (.cond (fun _ => hv) fun h => by cases h)) fun a2 w2 S2 φ2 fr2 H2 a3 a4 a5 a6 a7 =>
                    hq a2 w2 S2 φ2 fr2 H2 a3 a4 (he.trans a5) ((ht.weaken hn).trans a6) a7
                  rcases hr with hr | ⟨hr, rfl⟩
                  · rw [hr, Oper.upon_value]; exact fin
                  · rw [hr, Oper.upon_skip]; exact fin
              · exact h.elim
        · exact h.elim

theorem run_code (hT : TOK E.P E.T) (f : Nat) {c : Code} (h : execC E f c [] Q fr H) : iwp E.P E.n c Q fr H := (exec_sound hT f).2.1 c [] h
theorem run_cont (hT : TOK E.P E.T) (f : Nat) {ks : List Item} (h : exec E f ks Q fr H) : contQ E ks Q .normal fr H := (exec_sound hT f).1 ks h
theorem run_exit (hT : TOK E.P E.T) (f : Nat) {id : Nat} {ks ks' : List Item} (hk : exK id ks = some ks') (h : exec E f ks' Q fr H) : contQ E ks Q (.exit id) fr H :=
  contQ_exit id ks (by rw [hk]; exact (exec_sound hT f).1 ks' h)

end Go.VL
