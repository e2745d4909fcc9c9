/- A value-level logic over the kit's Code.wp, part 1: data trees, symbolic values, symbolic heaps, and how they relate to a world. Conditions: none; plain definitions and lemmas. -/
import Derived.Laws.Append
import Derived.Laws.AppendOwn
import Derived.Laws.Small
import Derived.WalkKit
set_option linter.unusedVariables false
set_option linter.unusedSimpArgs false
namespace Go.VL

/-- Data trees. -/
inductive D where
  | int (k : IntKind) (n : Int)
  | bool (b : Bool)
  | raw (v : Value)
  | agg (cs : List D)
  | lst (k : Nat) (l : List D)
  | nil
  | ptr (cs : List D)
  | fn (f : Nat) (caps : List D)
  | tup (vs : List D)

instance : Inhabited D := ⟨.nil⟩

def D.cells : D → List D
  | .agg cs => cs
  | x => [x]
def D.cellAt : D → Nat → D
  | .agg cs, j => cs.getD j .nil
  | x, 0 => x
  | _, _ + 1 => .nil
def D.toInt : D → Int
  | .int _ n => n
  | _ => 0
def D.toBool : D → Bool
  | .bool b => b
  | _ => false
def D.elems : D → List D
  | .lst _ l => l
  | _ => []
def D.ptrs : D → List D
  | .ptr cs => cs
  | _ => []
def D.isInt (k : IntKind) : D → Prop
  | .int k' _ => k' = k
  | _ => False
def D.isBool : D → Prop
  | .bool _ => True
  | _ => False
def D.isLst (k : Nat) : D → Prop
  | .lst k' _ => k' = k
  | .nil => True
  | _ => False
def D.isAgg (n : Nat) : D → Prop
  | .agg cs => cs.length = n
  | _ => False
def D.isPtr : D → Prop
  | .ptr _ => True
  | _ => False
def D.isSl : D → Prop
  | .lst _ _ => True
  | .nil => True
  | _ => False
def D.isTup (n : Nat) : D → Prop
  | .tup xs => xs.length = n
  | _ => False
def D.tupAt : D → Nat → D
  | .tup xs, j => xs.getD j .nil
  | _, _ => .nil
def D.tupLen : D → Nat
  | .tup xs => xs.length
  | _ => 0
def D.notTup : D → Prop
  | .tup _ => False
  | _ => True
def D.isNil : D → Bool
  | .nil => true
  | _ => false
def cellsFrom (x : D) (j : Nat) : Nat → List D
  | 0 => []
  | n + 1 => x.cellAt j :: cellsFrom x (j + 1) n
def D.one : D → Bool
  | .agg _ => false
  | .tup _ => false
  | _ => true
def D.scalar : D → Bool
  | .int _ _ => true
  | .bool _ => true
  | .raw _ => true
  | .nil => true
  | _ => false

def flat (l : List D) : List D := l.flatMap D.cells
def InK (k : IntKind) (n : Int) : Prop := k.min ≤ n ∧ n ≤ k.max
def lim : Nat := 281474976710656
def rawOk : Value → Bool
  | .pointer none => true
  | .map none => true
  | .nilFunc => true
  | .string _ => true
  | _ => false

/-- 'v' reads as 'x' in the blocks 'S', which nobody writes. -/
inductive FZ (S : Nat → Prop) (w : World) : D → Value → Prop
  | int {k : IntKind} {n : Int} (h : InK k n) : FZ S w (.int k n) (.int k n)
  | bool {b : Bool} : FZ S w (.bool b) (.bool b)
  | raw {v : Value} (h : rawOk v = true) : FZ S w (.raw v) v
  | agg {cs : List D} {vs : Array Value} (hl : cs.length = vs.size) (h1 : ∀ c ∈ cs, c.one = true)
      (h : ∀ j, j < cs.length → FZ S w (cs.getD j .nil) (vs.getD j undef)) : FZ S w (.agg cs) (.agg vs)
  | nil : FZ S w .nil (.slice none 0 0)
  | lst0 {k : Nat} {a : Option Addr} {cap : Nat} (hk : 0 < k) : FZ S w (.lst k []) (.slice a 0 cap)
  | lst {k : Nat} {l : List D} {b off cap : Nat} (f : Nat → Value) (hk : 0 < k) (he : ∀ x ∈ l, x.cells.length = k) (h1 : ∀ c ∈ flat l, c.one = true)
      (hn : l.length ≤ cap) (hlim : l.length ≤ lim) (hS : S b) (hc : ∀ j, j < (flat l).length → w.cell? ⟨b, off + j, none⟩ = some (f j))
      (hf : ∀ j, j < (flat l).length → FZ S w ((flat l).getD j .nil) (f j)) : FZ S w (.lst k l) (.slice (some ⟨b, off, none⟩) l.length cap)
  | ptr {cs : List D} {b off : Nat} (f : Nat → Value) (hS : S b) (h1 : ∀ c ∈ cs, c.one = true) (hc : ∀ j, j < cs.length → w.cell? ⟨b, off + j, none⟩ = some (f j))
      (hf : ∀ j, j < cs.length → FZ S w (cs.getD j .nil) (f j)) : FZ S w (.ptr cs) (.pointer (some ⟨b, off, none⟩))
  | fn {f : Nat} {caps : List D} {vs : Array Value} (hl : caps.length = vs.size) (h : ∀ j, j < caps.length → FZ S w (caps.getD j .nil) (vs.getD j undef)) :
      FZ S w (.fn f caps) (.func (.func f) #[] vs)
  | tup {xs : List D} {vs : Array Value} (hl : xs.length = vs.size) (h : ∀ j, j < xs.length → FZ S w (xs.getD j .nil) (vs.getD j undef)) : FZ S w (.tup xs) (.tuple vs)

/-- 'v' reads as 'x', and every list in it lies in a block of its own: the blocks 'fp'. -/
inductive OW (w : World) : D → Value → List Nat → Prop
  | int {k : IntKind} {n : Int} (h : InK k n) : OW w (.int k n) (.int k n) []
  | bool {b : Bool} : OW w (.bool b) (.bool b) []
  | raw {v : Value} (h : rawOk v = true) : OW w (.raw v) v []
  | agg {cs : List D} {vs : Array Value} (F : Nat → List Nat) (hl : cs.length = vs.size) (h1 : ∀ c ∈ cs, c.one = true)
      (h : ∀ j, j < cs.length → OW w (cs.getD j .nil) (vs.getD j undef) (F j)) : OW w (.agg cs) (.agg vs) ((List.range cs.length).flatMap F)
  | nil : OW w .nil (.slice none 0 0) []
  | lst0 {k : Nat} (hk : 0 < k) : OW w (.lst k []) (.slice none 0 0) []
  | lst {k : Nat} {l : List D} {b cap : Nat} {arr : Array Value} {ty : TypeId} (F : Nat → List Nat) (hk : 0 < k) (he : ∀ x ∈ l, x.cells.length = k) (h1 : ∀ c ∈ flat l, c.one = true)
      (hn : l.length ≤ cap) (hcap : cap ≤ maxLen) (hlim : l.length ≤ lim) (hb : w.heap[b]? = some (.cells arr ty (0, 0))) (hfit : cap * k ≤ arr.size)
      (hf : ∀ j, j < (flat l).length → OW w ((flat l).getD j .nil) (arr.getD j undef) (F j)) :
      OW w (.lst k l) (.slice (some ⟨b, 0, none⟩) l.length cap) (b :: (List.range (flat l).length).flatMap F)
  | tup {xs : List D} {vs : Array Value} (F : Nat → List Nat) (hl : xs.length = vs.size)
      (h : ∀ j, j < xs.length → OW w (xs.getD j .nil) (vs.getD j undef) (F j)) : OW w (.tup xs) (.tuple vs) ((List.range xs.length).flatMap F)

/-- Symbolic values in a frame. -/
inductive I where
  | d (x : D)
  | agg (cs : List I)
  | sl (i g k lo n : Nat)
  | ptr (i off : Nat)
  | eptr (i g k idx off : Nat) (z : D)
  | bor (i g k idx c lo n : Nat)
  | bptr (i g k idx c k2 m off : Nat)
  | map (i : Nat)
  | fn (f : Nat) (caps : List I)
  | tup (vs : List I)
  | own (i : Nat)
  | cond (e : Bool) (x : I)
  | junk

instance : Inhabited I := ⟨.junk⟩

/-- Roots of the symbolic heap. -/
inductive R where
  | box (cs : List I)
  | row (g k : Nat) (dp : Bool) (l : List D)
  | map (es : List (D × D))
  | val (x : D)
  | dead (g : Nat)

instance : Inhabited R := ⟨.dead 0⟩

def R.gen : R → Nat
  | .row g _ _ _ => g
  | .dead g => g
  | _ => 0

/-- A slice of a row whose root's footprint is 'fp'. -/
def SlRel (w : World) (fp : List Nat) (k lo n : Nat) (v : Value) : Prop :=
  (fp = [] ∧ lo = 0 ∧ n = 0 ∧ v = .slice none 0 0) ∨
  ∃ b rest cap arr ty a, fp = b :: rest ∧ v = .slice a n cap ∧ n ≤ cap ∧ cap ≤ maxLen ∧ n ≤ lim ∧ w.heap[b]? = some (.cells arr ty (0, 0)) ∧
    ((n ≠ 0 ∨ lo = 0) → a = some ⟨b, lo * k, none⟩ ∧ lo * k + cap * k ≤ arr.size)

inductive V (S : Nat → Prop) (φ : List (List Nat)) (H : List R) (w : World) : I → Value → Prop
  | d {x : D} {v : Value} (h : FZ S w x v) : V S φ H w (.d x) v
  | agg {cs : List I} {vs : Array Value} (hl : cs.length = vs.size) (h1 : ∀ j, j < cs.length → (vs.getD j undef).oneCell' = true)
      (h : ∀ j, j < cs.length → V S φ H w (cs.getD j .junk) (vs.getD j undef)) : V S φ H w (.agg cs) (.agg vs)
  | sl {i g k lo n : Nat} {v : Value} (hi : i < H.length) (hg : g ≤ (H.getD i (.dead 0)).gen)
      (h : ∀ dp l, H[i]? = some (.row g k dp l) → SlRel w (φ.getD i []) k lo n v ∧ lo + n ≤ l.length) (h1 : v.oneCell' = true) : V S φ H w (.sl i g k lo n) v
  | ptr {i off : Nat} {v : Value} (hi : i < H.length) (h : ∀ cs, H[i]? = some (.box cs) → ∃ b, φ.getD i [] = [b] ∧ v = .pointer (some ⟨b, off, none⟩)) (h1 : v.oneCell' = true) :
      V S φ H w (.ptr i off) v
  | eptr {i g k idx off : Nat} {z : D} {v : Value} (hi : i < H.length) (hg : g ≤ (H.getD i (.dead 0)).gen)
      (h : ∀ dp l, H[i]? = some (.row g k dp l) → ∃ b rest, φ.getD i [] = b :: rest ∧ v = .pointer (some ⟨b, idx * k + off, none⟩)) (h1 : v.oneCell' = true) : V S φ H w (.eptr i g k idx off z) v
  | map {i : Nat} {v : Value} (hi : i < H.length) (h : ∀ es, H[i]? = some (.map es) → ∃ b, φ.getD i [] = [b] ∧ v = .map (some b)) (h1 : v.oneCell' = true) : V S φ H w (.map i) v
  | fn {f : Nat} {caps : List I} {vs : Array Value} (hl : caps.length = vs.size) (h : ∀ j, j < caps.length → V S φ H w (caps.getD j .junk) (vs.getD j undef)) :
      V S φ H w (.fn f caps) (.func (.func f) #[] vs)
  | tup {xs : List I} {vs : Array Value} (hl : xs.length = vs.size) (h : ∀ j, j < xs.length → V S φ H w (xs.getD j .junk) (vs.getD j undef)) : V S φ H w (.tup xs) (.tuple vs)
  | own {i : Nat} {v : Value} (hi : i < H.length) (h : ∀ x, H[i]? = some (.val x) → OW w x v (φ.getD i [])) : V S φ H w (.own i) v
  | cond {e : Bool} {x : I} {v : Value} (h : e = true → V S φ H w x v) (h0 : e = false → v = undef) : V S φ H w (.cond e x) v
  | junk {v : Value} : V S φ H w .junk v

/-- The real entries of a map. -/
def MapRel (es : List (D × D)) (ents : Array MapEntry) : Prop :=
  es.length = ents.size ∧ ∀ j, j < es.length → ∃ e, ents[j]? = some e ∧ (∀ S w, FZ S w (es.getD j (.nil, .nil)).1 e.key) ∧ (∀ S w, FZ S w (es.getD j (.nil, .nil)).2 e.val)

/-- The cells of a row. -/
def RowRel (S : Nat → Prop) (w : World) (dp : Bool) (cells : List D) (arr : Array Value) (rest : List Nat) : Prop :=
  match dp with
  | true => ∃ F : Nat → List Nat, rest = (List.range cells.length).flatMap F ∧ ∀ j, j < cells.length → OW w (cells.getD j .nil) (arr.getD j undef) (F j)
  | false => rest = [] ∧ ∀ j, j < cells.length → FZ S w (cells.getD j .nil) (arr.getD j undef)

def RRel (S : Nat → Prop) (φ : List (List Nat)) (H : List R) (w : World) (fp : List Nat) : R → Prop
  | .box cs => ∃ b arr ty, fp = [b] ∧ w.heap[b]? = some (.cells arr ty (0, 0)) ∧ arr.size = cs.length ∧
      ∀ j, j < cs.length → (arr.getD j undef).oneCell' = true ∧ V S φ H w (cs.getD j .junk) (arr.getD j undef)
  | .row _ k dp l => 0 < k ∧ (∀ x ∈ l, x.cells.length = k) ∧ (∀ c ∈ flat l, c.one = true) ∧ l.length ≤ lim ∧
      ((fp = [] ∧ l = []) ∨ ∃ b rest arr ty, fp = b :: rest ∧ w.heap[b]? = some (.cells arr ty (0, 0)) ∧ l.length * k ≤ arr.size ∧ RowRel S w dp (flat l) arr rest)
  | .map es => ∃ b ents clock, fp = [b] ∧ w.heap[b]? = some (.map ents clock) ∧ MapRel es ents
  | .val _ => True
  | .dead _ => True

/-- The blocks that the roots own. -/
def Foot (φ : List (List Nat)) (b : Nat) : Prop := ∃ i, b ∈ φ.getD i []

structure Sim (S : Nat → Prop) (φ : List (List Nat)) (H : List R) (w : World) : Prop where
  len : φ.length = H.length
  nd : ∀ i, (φ.getD i []).Nodup
  dj : ∀ i j b, b ∈ φ.getD i [] → b ∈ φ.getD j [] → i = j
  lt : ∀ b, Foot φ b → b < w.heap.size
  off : ∀ b, Foot φ b → ¬ S b
  slt : ∀ b, S b → b < w.heap.size
  rel : ∀ i r, H[i]? = some r → RRel S φ H w (φ.getD i []) r

/-- What a piece of code may have done to the world. -/
structure Ext (S : Nat → Prop) (φ : List (List Nat)) (w : World) (S' : Nat → Prop) (φ' : List (List Nat)) (w' : World) : Prop where
  os : w'.os = w.os
  tape : w'.tape = w.tape
  output : w'.output = w.output
  size : w.heap.size ≤ w'.heap.size
  keep : ∀ b, b < w.heap.size → ¬ Foot φ b → w'.heap[b]? = w.heap[b]?
  fp : ∀ b, Foot φ' b → Foot φ b ∨ w.heap.size ≤ b
  sub : ∀ b, S b → S' b
  sfp : ∀ b, S' b → S b ∨ Foot φ b ∨ w.heap.size ≤ b

theorem Ext.refl (S : Nat → Prop) (φ : List (List Nat)) (w : World) : Ext S φ w S φ w :=
  ⟨rfl, rfl, rfl, Nat.le_refl _, fun _ _ _ => rfl, fun _ h => .inl h, fun _ h => h, fun _ h => .inl h⟩

theorem Ext.trans {S φ w S' φ' w' S'' φ'' w''} (h : Ext S φ w S' φ' w') (h' : Ext S' φ' w' S'' φ'' w'') : Ext S φ w S'' φ'' w'' := by
  refine ⟨h'.os.trans h.os, h'.tape.trans h.tape, h'.output.trans h.output, Nat.le_trans h.size h'.size, ?_, ?_, fun b hb => h'.sub b (h.sub b hb), ?_⟩
  · intro b hb hn
    have h1 := h.keep b hb hn
    have hlt : b < w'.heap.size := Nat.lt_of_lt_of_le hb h.size
    rw [h'.keep b hlt (fun hm => by rcases h.fp b hm with h2 | h2; exact hn h2; omega), h1]
  · intro b hb
    rcases h'.fp b hb with h1 | h1
    · exact h.fp b h1
    · exact .inr (Nat.le_trans h.size h1)
  · intro b hb
    rcases h'.sfp b hb with h1 | h1 | h1
    · exact h.sfp b h1
    · exact .inr (h.fp b h1)
    · exact .inr (.inr (Nat.le_trans h.size h1))

/-- Symbolic frames. -/
structure Fr where
  n : Nat
  m : List (Nat × I)

def look (t : Nat) : List (Nat × I) → I
  | [] => .junk
  | (s, x) :: r => if s = t then x else look t r
def Fr.get (fr : Fr) (t : Nat) : I := look t fr.m
def Fr.put (fr : Fr) (dst : Option Tmp) (x : I) : Fr :=
  match dst with
  | some t => if t < fr.n then { fr with m := (t, x) :: fr.m } else fr
  | none => fr

structure FrR (S : Nat → Prop) (φ : List (List Nat)) (H : List R) (w : World) (fr : Fr) (a : Act) : Prop where
  defers : a.defers = []
  size : a.tmps.size = fr.n
  val : ∀ t, V S φ H w (fr.get t) (a.tmps.getD t undef)

/-! ### Stability -/

theorem cell_of_heap {w w' : World} {b : Nat} (h : w'.heap[b]? = w.heap[b]?) (o : Nat) : w'.cell? ⟨b, o, none⟩ = w.cell? ⟨b, o, none⟩ := by
  simp [World.cell?, h]

theorem FZ.mono {S S' : Nat → Prop} {w w' : World} (hS : ∀ b, S b → S' b) (hw : ∀ b, S b → w'.heap[b]? = w.heap[b]?) {x : D} {v : Value} (h : FZ S w x v) : FZ S' w' x v := by
  induction h with
  | int h => exact .int h
  | bool => exact .bool
  | raw h => exact .raw h
  | agg hl h1 _ ih => exact .agg hl h1 ih
  | nil => exact .nil
  | lst0 hk => exact .lst0 hk
  | lst f hk he h1 hn hlim hb hc _ ih => exact .lst f hk he h1 hn hlim (hS _ hb) (fun j hj => by rw [cell_of_heap (hw _ hb)]; exact hc j hj) ih
  | ptr f hb h1 hc _ ih => exact .ptr f (hS _ hb) h1 (fun j hj => by rw [cell_of_heap (hw _ hb)]; exact hc j hj) ih
  | fn hl _ ih => exact .fn hl ih
  | tup hl _ ih => exact .tup hl ih

theorem FZ.cast {S : Nat → Prop} {w : World} {x : D} {v v' : Value} (h : FZ S w x v) (e : v = v') : FZ S w x v' := e ▸ h

theorem OW.lt {w : World} {x : D} {v : Value} {fp : List Nat} (h : OW w x v fp) : ∀ b ∈ fp, b < w.heap.size := by
  induction h with
  | int h => simp
  | bool => simp
  | raw h => simp
  | nil => simp
  | lst0 hk => simp
  | agg F hl h1 _ ih =>
    intro b hb
    obtain ⟨j, hj, hb⟩ := List.mem_flatMap.1 hb
    exact ih j (List.mem_range.1 hj) b hb
  | tup F hl _ ih =>
    intro b hb
    obtain ⟨j, hj, hb⟩ := List.mem_flatMap.1 hb
    exact ih j (List.mem_range.1 hj) b hb
  | lst F hk he h1 hn hcap hlim hb hfit _ ih =>
    intro b hbm
    rcases List.mem_cons.1 hbm with rfl | hbm
    · exact (Array.getElem?_eq_some_iff.1 hb).1
    · obtain ⟨j, hj, hbm⟩ := List.mem_flatMap.1 hbm
      exact ih j (List.mem_range.1 hj) b hbm

theorem mem_flatMap_range {F : Nat → List Nat} {n j b : Nat} (hj : j < n) (hb : b ∈ F j) : b ∈ (List.range n).flatMap F :=
  List.mem_flatMap.2 ⟨j, List.mem_range.2 hj, hb⟩

theorem OW.keep {w w' : World} {x : D} {v : Value} {fp : List Nat} (h : OW w x v fp) (hw : ∀ b ∈ fp, w'.heap[b]? = w.heap[b]?) : OW w' x v fp := by
  induction h with
  | int h => exact .int h
  | bool => exact .bool
  | raw h => exact .raw h
  | nil => exact .nil
  | lst0 hk => exact .lst0 hk
  | agg F hl h1 _ ih => exact .agg F hl h1 fun j hj => ih j hj fun b hb => hw b (mem_flatMap_range hj hb)
  | tup F hl _ ih => exact .tup F hl fun j hj => ih j hj fun b hb => hw b (mem_flatMap_range hj hb)
  | lst F hk he h1 hn hcap hlim hb hfit _ ih =>
    exact .lst F hk he h1 hn hcap hlim ((hw _ (by simp)).trans hb) hfit fun j hj => ih j hj fun b hb => hw b (List.mem_cons_of_mem _ (mem_flatMap_range hj hb))

theorem flat_length {k : Nat} {l : List D} (he : ∀ x ∈ l, x.cells.length = k) : (flat l).length = l.length * k := by
  unfold flat
  induction l with
  | nil => simp
  | cons x r ih =>
    simp only [List.flatMap_cons, List.length_append, List.length_cons]
    rw [ih (fun x hx => he x (List.mem_cons_of_mem _ hx)), he x (by simp), Nat.add_mul]
    omega

theorem OW.fz {S : Nat → Prop} {w : World} {x : D} {v : Value} {fp : List Nat} (h : OW w x v fp) (hS : ∀ b ∈ fp, S b) : FZ S w x v := by
  induction h with
  | int h => exact .int h
  | bool => exact .bool
  | raw h => exact .raw h
  | nil => exact .nil
  | lst0 hk => exact .lst0 hk
  | agg F hl h1 _ ih => exact .agg hl h1 fun j hj => ih j hj fun b hb => hS b (mem_flatMap_range hj hb)
  | tup F hl _ ih => exact .tup hl fun j hj => ih j hj fun b hb => hS b (mem_flatMap_range hj hb)
  | @lst k l b cap arr ty F hk he h1 hn hcap hlim hb hfit _ ih =>
    refine .lst (fun j => arr.getD j undef) hk he h1 hn hlim (hS _ (by simp)) ?_ fun j hj => ih j hj fun b hb => hS b (List.mem_cons_of_mem _ (mem_flatMap_range hj hb))
    intro j hj
    have hfl : (flat l).length = l.length * k := by
      exact flat_length he
    have hja : j < arr.size := by
      have : l.length * k ≤ cap * k := Nat.mul_le_mul_right _ hn
      omega
    simp [World.cell?, hb, Array.getD, hja]

theorem flat_append (l r : List D) : flat (l ++ r) = flat l ++ flat r := by simp [flat]

end Go.VL
