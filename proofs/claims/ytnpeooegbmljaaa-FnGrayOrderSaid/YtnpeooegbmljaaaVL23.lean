/- Part 23: loops in the form in which the machine runs. Conditions: none; lemmas. -/
import Derived.Test.YtnpeooegbmljaaaVL22
set_option linter.unusedVariables false
set_option linter.unusedSimpArgs false
namespace Go.VL

variable {E : Env} {Q : Post} {fr : Fr} {H : List R} {n : Nat}

/-! ### Reading one description as another -/
def fit1 : I → I → Prop
  | .d x, .d y => wk x y
  | x, y => x = y
def fitF (fr : Fr) : List (Nat × I) → Prop
  | [] => True
  | (t, x) :: r => fit1 (fr.get t) x ∧ fitF fr r
def fitH : List R → List R → Prop
  | _, [] => True
  | x :: r, y :: s => x = y ∧ fitH r s
  | [], _ :: _ => False
def fit (n nt : Nat) (fr : Fr) (H : List R) (m : List (Nat × I)) (H' : List R) : Prop :=
  fr.n = nt ∧ n ≤ H'.length ∧ fitF fr m ∧ fitH H H' ∧ idltM H'.length m ∧ idltH H'.length H'

theorem fit1_v {S : Nat → Prop} {φ : List (List Nat)} {w : World} {x y : I} {v : Value} (h : fit1 x y) (hv : V S φ H w x v) : V S φ H w y v := by
  unfold fit1 at h
  split at h
  · exact .d (fz_wk h hv.fz)
  · rw [← h]; exact hv

theorem fitF_look {fr : Fr} {S : Nat → Prop} {φ : List (List Nat)} {w : World} {a : Act} (hf : FrR S φ H w fr a) : ∀ (m : List (Nat × I)), fitF fr m → ∀ t, V S φ H w (look t m) (a.tmps.getD t undef)
  | [], _, t => .junk
  | (s, x) :: r, h, t => by
    simp only [look]
    split
    · rename_i hst
      subst hst
      exact fit1_v h.1 (hf.val s)
    · exact fitF_look hf r h.2 t

theorem fitH_take : ∀ {H H' : List R}, fitH H H' → H.take H'.length = H' ∧ H'.length ≤ H.length
  | H, [], _ => by simp
  | x :: r, y :: s, h => by
    obtain ⟨h1, h2⟩ := fitH_take h.2
    simp only [List.length_cons, List.take_succ_cons, h.1, h1]
    exact ⟨trivial, by omega⟩
  | [], _ :: _, h => h.elim

theorem fit_ghost {nt : Nat} {m : List (Nat × I)} {H' : List R} (h : fit n nt fr H m H') : Ghost n fr H ⟨nt, m⟩ H' := by
  obtain ⟨h1, h2, h3, h4, h5, h6⟩ := h
  obtain ⟨e1, e2⟩ := fitH_take h4
  have g1 : Ghost n fr H ⟨nt, m⟩ H := fun S φ w a hn s hf => ⟨S, φ, s, ⟨hf.defers, hf.size.trans h1, fun t => fitF_look hf m h3 t⟩, Ext.refl .., Tr.refl hn⟩
  refine g1.trans ?_
  have := Ghost.drop (n := n) H'.length (fr := ⟨nt, m⟩) (H := H) h2 e2 h5 (by rw [e1]; exact h6)
  rwa [e1] at this

/-! ### Nil slices as rows of one's own -/
def ownAll : List (Nat × Nat × Bool) → Fr → List R → Fr × List R
  | [], fr, H => (fr, H)
  | (t, k, dp) :: r, fr, H => ownAll r (fr.put (some t) (.sl H.length 0 k 0 0)) (H ++ [.row 0 k dp []])
def ownVC : List (Nat × Nat × Bool) → Fr → List R → Prop
  | [], _, _ => True
  | (t, k, dp) :: r, fr, H => fr.get t = .d .nil ∧ t < fr.n ∧ 0 < k ∧ ownVC r (fr.put (some t) (.sl H.length 0 k 0 0)) (H ++ [.row 0 k dp []])
theorem ownAll_ghost : ∀ (l : List (Nat × Nat × Bool)) {fr : Fr} {H : List R}, ownVC l fr H → Ghost n fr H (ownAll l fr H).1 (ownAll l fr H).2
  | [], fr, H, _ => Ghost.refl n fr H
  | (t, k, dp) :: r, fr, H, h => (Ghost.own t k dp h.1 h.2.1 h.2.2.1).trans (ownAll_ghost r h.2.2.2)

/-- The end of a round, or a way out of the loop. -/
def loopQ (E : Env) (ks : List Item) (Q : Post) (f : Nat) {σ : Type} (nt : Nat) (F : σ → List (Nat × I)) (Hp : σ → List R) (inv : σ → Prop) (mu : σ → Nat) (s : σ) : Post
  | .normal, fr, H => ∃ s', inv s' ∧ mu s' < mu s ∧ fit E.n nt fr H (F s') (Hp s')
  | .exit id, fr, H => execX E f (exK id ks) id ks Q fr H
  | e, fr, H => contQ E ks Q e fr H

theorem loop_of (hT : TOK E.P E.T) {σ : Type} (F : σ → List (Nat × I)) (Hp : σ → List R) (inv : σ → Prop) (mu : σ → Nat) (own : List (Nat × Nat × Bool)) (f1 f2 : Nat) {ks : List Item} {c : Code}
    (hvc : ownVC own fr H) (h0 : ∃ s, inv s ∧ fit E.n fr.n (ownAll own fr H).1 (ownAll own fr H).2 (F s) (Hp s))
    (hr : ∀ s, inv s → execC E f1 c [] (loopQ E ks Q f2 fr.n F Hp inv mu s) ⟨fr.n, F s⟩ (Hp s)) : iwp E.P E.n (.loop c) (contQ E ks Q) fr H := by
  obtain ⟨s0, hi0, hf0⟩ := h0
  refine iwp_loopG (fun m fr' H' => ∃ s, inv s ∧ mu s = m ∧ fr' = ⟨fr.n, F s⟩ ∧ H' = Hp s) (mu s0) ⟨_, _, (ownAll_ghost own hvc).trans (fit_ghost hf0), s0, hi0, rfl, rfl, rfl⟩ ?_
  rintro m fr' H' ⟨s, hi, rfl, rfl, rfl⟩
  refine iwp_mono (run_code hT f1 (hr s hi)) ?_
  intro e fr' H' hq
  cases e with
  | normal =>
    obtain ⟨s', hi', hmu, hfit⟩ := hq
    exact ⟨_, _, fit_ghost hfit, mu s', hmu, s', hi', rfl, rfl, rfl⟩
  | exit id =>
    simp only [loopQ] at hq
    refine contQ_exit id ks ?_
    generalize exK id ks = o at hq
    match f2, o with
    | 0, _ => simp only [execX] at hq
    | f + 1, some ks' =>
      simp only [execX] at hq
      exact run_cont hT f hq
    | f + 1, none =>
      simp only [execX] at hq
      exact hq
  | goto l => exact hq
  | ret => exact hq
  | panic ch => exact hq
  | outgrown => exact hq

section rules
variable {σ : Type} {F : σ → List (Nat × I)} {Hp : σ → List R} {inv : σ → Prop} {mu : σ → Nat} {s : σ} {ks : List Item} {f nt : Nat}
@[go_sem] theorem loopQ_normal : loopQ E ks Q f nt F Hp inv mu s .normal fr H = ∃ s', inv s' ∧ mu s' < mu s ∧ fit E.n nt fr H (F s') (Hp s') := rfl
@[go_sem] theorem loopQ_exit {id : Nat} : loopQ E ks Q f nt F Hp inv mu s (.exit id) fr H = execX E f (exK id ks) id ks Q fr H := rfl
@[go_sem] theorem loopQ_ret : loopQ E ks Q f nt F Hp inv mu s .ret fr H = contQ E ks Q .ret fr H := rfl
@[go_sem] theorem fit_eq {m : List (Nat × I)} {H' : List R} : fit n nt fr H m H' = (fr.n = nt ∧ n ≤ H'.length ∧ fitF fr m ∧ fitH H H' ∧ idltM H'.length m ∧ idltH H'.length H') := rfl
@[go_sem] theorem fitF_nil : fitF fr [] = True := rfl
@[go_sem] theorem fitF_cons {t : Nat} {x : I} {r : List (Nat × I)} : fitF fr ((t, x) :: r) = (fit1 (fr.get t) x ∧ fitF fr r) := rfl
@[go_sem] theorem fit1_d {x y : D} : fit1 (.d x) (.d y) = wk x y := rfl
@[go_sem] theorem fit1_sl {i g k lo n : Nat} {y : I} : fit1 (.sl i g k lo n) y = (.sl i g k lo n = y) := by cases y <;> rfl
@[go_sem] theorem fit1_ptr {i off : Nat} {y : I} : fit1 (.ptr i off) y = (.ptr i off = y) := by cases y <;> rfl
@[go_sem] theorem fit1_agg {cs : List I} {y : I} : fit1 (.agg cs) y = (.agg cs = y) := by cases y <;> rfl
@[go_sem] theorem fitH_nil : fitH H [] = True := by cases H <;> rfl
@[go_sem] theorem fitH_cons {x y : R} {r q : List R} : fitH (x :: r) (y :: q) = (x = y ∧ fitH r q) := rfl
@[go_sem] theorem idltM_nil {m : Nat} : idltM m [] = True := rfl
@[go_sem] theorem idltM_cons {m t : Nat} {x : I} {r : List (Nat × I)} : idltM m ((t, x) :: r) = (x.idlt m ∧ idltM m r) := rfl
@[go_sem] theorem idltH_nil {m : Nat} : idltH m [] = True := rfl
@[go_sem] theorem idltH_cons {m : Nat} {x : R} {r : List R} : idltH m (x :: r) = (x.idlt m ∧ idltH m r) := rfl
@[go_sem] theorem idltL_nil {m : Nat} : idltL m [] = True := rfl
@[go_sem] theorem idltL_cons {m : Nat} {x : I} {r : List I} : idltL m (x :: r) = (x.idlt m ∧ idltL m r) := rfl
@[go_sem] theorem idlt_d {m : Nat} {x : D} : (I.d x).idlt m = True := by simp only [I.idlt]
@[go_sem] theorem idlt_sl {m i g k lo n : Nat} : (I.sl i g k lo n).idlt m = (i < m) := by simp only [I.idlt]
@[go_sem] theorem idlt_ptr {m i off : Nat} : (I.ptr i off).idlt m = (i < m) := by simp only [I.idlt]
@[go_sem] theorem idlt_eptr {m i g k idx off : Nat} {z : D} : (I.eptr i g k idx off z).idlt m = (i < m) := by simp only [I.idlt]
@[go_sem] theorem idlt_agg {m : Nat} {cs : List I} : (I.agg cs).idlt m = idltL m cs := by simp only [I.idlt]
@[go_sem] theorem idlt_map {m i : Nat} : (I.map i).idlt m = (i < m) := by simp only [I.idlt]
@[go_sem] theorem idlt_fn {m f : Nat} {cs : List I} : (I.fn f cs).idlt m = idltL m cs := by simp only [I.idlt]
@[go_sem] theorem idltR_box {m : Nat} {cs : List I} : (R.box cs).idlt m = idltL m cs := by simp only [R.idlt]
@[go_sem] theorem idltR_row {m g k : Nat} {dp : Bool} {l : List D} : (R.row g k dp l).idlt m = True := by simp only [R.idlt]
@[go_sem] theorem idltR_map {m : Nat} {l : List (D × D)} : (R.map l).idlt m = True := by simp only [R.idlt]
@[go_sem] theorem idltR_dead {m g : Nat} : (R.dead g).idlt m = True := by simp only [R.idlt]
@[go_sem] theorem ownAll_nil : ownAll [] fr H = (fr, H) := rfl
@[go_sem] theorem ownAll_cons {t k : Nat} {dp : Bool} {r : List (Nat × Nat × Bool)} : ownAll ((t, k, dp) :: r) fr H = ownAll r (fr.put (some t) (.sl H.length 0 k 0 0)) (H ++ [.row 0 k dp []]) := rfl
@[go_sem] theorem ownVC_nil : ownVC [] fr H = True := rfl
@[go_sem] theorem ownVC_cons {t k : Nat} {dp : Bool} {r : List (Nat × Nat × Bool)} : ownVC ((t, k, dp) :: r) fr H = (fr.get t = .d .nil ∧ t < fr.n ∧ 0 < k ∧ ownVC r (fr.put (some t) (.sl H.length 0 k 0 0)) (H ++ [.row 0 k dp []])) := rfl
end rules
attribute [go_sem] I.d.injEq I.sl.injEq I.ptr.injEq I.agg.injEq R.row.injEq R.box.injEq R.map.injEq D.int.injEq D.bool.injEq D.lst.injEq D.agg.injEq D.tup.injEq

theorem inK_i64 {n : Int} : InK .i64 n ↔ -9223372036854775808 ≤ n ∧ n ≤ 9223372036854775807 := Iff.rfl
theorem inK_u8 {n : Int} : InK .u8 n ↔ 0 ≤ n ∧ n ≤ 255 := Iff.rfl

end Go.VL
