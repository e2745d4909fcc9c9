/- A value-level logic over the kit's Code.wp, part 1: data trees, symbolic values, symbolic heaps, and how they relate to a world. Conditions: none; plain definitions and lemmas. -/
import Derived.Laws.Append
import Derived.Laws.AppendOwn
import Derived.Laws.Small
import Derived.WalkKit
import Derived.Laws.StructEq
import Derived.Laws.Slices
set_option linter.unusedVariables false
set_option linter.unusedSimpArgs false
namespace Go.VL
inductive D where
 | int (k:IntKind) (n:Int)
 | bool (b:Bool)
 | raw (v:Value)
 | agg (cs:List D)
 | lst (k:Nat) (l:List D)
 | nil
 | ptr (cs:List D)
 | fn (f:Nat) (caps:List D)
 | tup (vs:List D)
instance:Inhabited D:=⟨.nil⟩
def D.cells:D→List D
 | .agg cs=>cs
 | x=>[x]
def D.cellAt:D→Nat→D
 | .agg cs,j=>cs.getD j .nil
 | x,0=>x
 | _,_+1=>.nil
def D.toInt:D→Int
 | .int _ n=>n
 | _=>0
def D.toBool:D→Bool
 | .bool b=>b
 | _=>false
def D.elems:D→List D
 | .lst _ l=>l
 | _=>[]
def D.ptrs:D→List D
 | .ptr cs=>cs
 | _=>[]
def D.isInt (k:IntKind):D→Prop
 | .int k' _=>k'=k
 | _=>False
def D.isBool:D→Prop
 | .bool _=>True
 | _=>False
def D.isLst (k:Nat):D→Prop
 | .lst k' _=>k'=k
 | .nil=>True
 | _=>False
def D.isAgg (n:Nat):D→Prop
 | .agg cs=>cs.length=n
 | _=>False
def D.isPtr:D→Prop
 | .ptr _=>True
 | _=>False
def D.isSl:D→Prop
 | .lst _ _=>True
 | .nil=>True
 | _=>False
def D.isTup (n:Nat):D→Prop
 | .tup xs=>xs.length=n
 | _=>False
def D.tupAt:D→Nat→D
 | .tup xs,j=>xs.getD j .nil
 | _,_=>.nil
def D.tupLen:D→Nat
 | .tup xs=>xs.length
 | _=>0
def D.notTup:D→Prop
 | .tup _=>False
 | _=>True
def D.isNil:D→Bool
 | .nil=>true
 | _=>false
def qab (x:D) (j:Nat):Nat→List D
 | 0=>[]
 | n+1=>x.cellAt j::qab x (j+1) n
def D.one:D→Bool
 | .agg _=>false
 | .tup _=>false
 | _=>true
def D.scalar:D→Bool
 | .int _ _=>true
 | .bool _=>true
 | .raw _=>true
 | .nil=>true
 | _=>false
def flat (l:List D):List D:=l.flatMap D.cells
def InK (k:IntKind) (n:Int):Prop:=k.min≤n∧n≤k.max
def lim:Nat:=281474976710656
def qiZ:Value→Bool
 | .pointer none=>true
 | .map none=>true
 | .nilFunc=>true
 | .string _=>true
 | _=>false
inductive FZ (S:Nat→Prop) (w:World):D→Value→Prop
 | int {k:IntKind}{n:Int}(h:InK k n):FZ S w (.int k n) (.int k n)
 | bool {b:Bool}:FZ S w (.bool b) (.bool b)
 | raw {v:Value}(h:qiZ v=true):FZ S w (.raw v) v
 | agg {cs:List D}{vs:Array Value}(hl:cs.length=vs.size) (h1 : ∀ c∈cs,c.one=true)
   (h : ∀ j,j<cs.length→FZ S w (cs.getD j .nil) (vs.getD j undef)):FZ S w (.agg cs) (.agg vs)
 | nil:FZ S w .nil (.slice none 0 0)
 | lst0 {k:Nat}{a:Option Addr}{cap:Nat}(hk:0<k):FZ S w (.lst k []) (.slice a 0 cap)
 | lst {k:Nat}{l:List D}{b off cap:Nat}(f:Nat→Value) (hk:0<k) (he : ∀ x∈l,x.cells.length=k) (h1 : ∀ c∈flat l,c.one=true)
   (hn:l.length≤cap) (hlim:l.length≤lim) (hS:S b) (hc : ∀ j,j<(flat l).length→w.cell? ⟨b,off+j,none⟩=some (f j))
   (hf : ∀ j,j<(flat l).length→FZ S w ((flat l).getD j .nil) (f j)):FZ S w (.lst k l) (.slice (some ⟨b,off,none⟩) l.length cap)
 | ptr {cs:List D}{b off:Nat}(f:Nat→Value) (hS:S b) (h1 : ∀ c∈cs,c.one=true) (hc : ∀ j,j<cs.length→w.cell? ⟨b,off+j,none⟩=some (f j))
   (hf : ∀ j,j<cs.length→FZ S w (cs.getD j .nil) (f j)):FZ S w (.ptr cs) (.pointer (some ⟨b,off,none⟩))
 | fn {f:Nat}{caps:List D}{vs:Array Value}(hl:caps.length=vs.size) (h : ∀ j,j<caps.length→FZ S w (caps.getD j .nil) (vs.getD j undef)) :
   FZ S w (.fn f caps) (.func (.func f) #[] vs)
 | tup {xs:List D}{vs:Array Value}(hl:xs.length=vs.size) (h : ∀ j,j<xs.length→FZ S w (xs.getD j .nil) (vs.getD j undef)):FZ S w (.tup xs) (.tuple vs)
inductive OW (w:World):D→Value→List Nat→Prop
 | int {k:IntKind}{n:Int}(h:InK k n):OW w (.int k n) (.int k n) []
 | bool {b:Bool}:OW w (.bool b) (.bool b) []
 | raw {v:Value}(h:qiZ v=true):OW w (.raw v) v []
 | agg {cs:List D}{vs:Array Value}(F:Nat→List Nat) (hl:cs.length=vs.size) (h1 : ∀ c∈cs,c.one=true)
   (h : ∀ j,j<cs.length→OW w (cs.getD j .nil) (vs.getD j undef) (F j)):OW w (.agg cs) (.agg vs) ((List.range cs.length).flatMap F)
 | nil:OW w .nil (.slice none 0 0) []
 | lst0 {k:Nat}(hk:0<k):OW w (.lst k []) (.slice none 0 0) []
 | lst {k:Nat}{l:List D}{b cap:Nat}{arr:Array Value}{ty:TypeId}(F:Nat→List Nat) (hk:0<k) (he : ∀ x∈l,x.cells.length=k) (h1 : ∀ c∈flat l,c.one=true)
   (hn:l.length≤cap) (hcap:cap≤maxLen) (hlim:l.length≤lim) (hb:w.heap[b]?=some (.cells arr ty (0,0))) (hfit:cap*k≤arr.size)
   (hf : ∀ j,j<(flat l).length→OW w ((flat l).getD j .nil) (arr.getD j undef) (F j)) :
   OW w (.lst k l) (.slice (some ⟨b,0,none⟩) l.length cap) (b::(List.range (flat l).length).flatMap F)
 | tup {xs:List D}{vs:Array Value}(F:Nat→List Nat) (hl:xs.length=vs.size)
   (h : ∀ j,j<xs.length→OW w (xs.getD j .nil) (vs.getD j undef) (F j)):OW w (.tup xs) (.tuple vs) ((List.range xs.length).flatMap F)
inductive I where
 | d (x:D)
 | agg (cs:List I)
 | sl (i g k lo n:Nat)
 | ptr (i off:Nat)
 | eptr (i g k idx off:Nat) (z:D)
 | bor (i g k idx c lo n:Nat)
 | bptr (i g k idx c k2 m off:Nat)
 | map (i:Nat)
 | fn (f:Nat) (caps:List I)
 | tup (vs:List I)
 | own (i:Nat)
 | cond (e:Bool) (x:I)
 | junk
instance:Inhabited I:=⟨.junk⟩
inductive DP where
 | fz
 | own (hs:List (Nat×Nat×I))
def DP.o:DP→Bool
 | .fz=>false
 | .own _=>true
def DP.shut:DP→Bool
 | .fz=>true
 | .own []=>true
 | .own (_::_)=>false
def DP.ofB:Bool→DP
 | true=>.own []
 | false=>.fz
instance:Coe Bool DP:=⟨DP.ofB⟩
def qan (k:Nat):List (Nat×Nat×I)→Nat→Option I
 | [],_=>none
 | (i,o,x)::r,j=>if i*k+o=j then some x else qan k r j
inductive R where
 | box (cs:List I)
 | row (g k:Nat) (dp:DP) (l:List D)
 | map (es:List (D×D))
 | val (x:D)
 | dead (g:Nat)
instance:Inhabited R:=⟨.dead 0⟩
def R.gen:R→Nat
 | .row g _ _ _=>g
 | .dead g=>g
 | _=>0
def qhd (w:World) (fp:List Nat) (k lo n:Nat) (v:Value):Prop:=
 (fp=[]∧lo=0∧n=0∧v=.slice none 0 0)∨
 ∃ b rest cap arr ty a,fp=b::rest∧v=.slice a n cap∧n≤cap∧cap≤maxLen∧n≤lim∧w.heap[b]?=some (.cells arr ty (0,0))∧
  ((n≠0∨lo=0)→a=some ⟨b,lo*k,none⟩∧lo*k+cap*k≤arr.size)
inductive V (S:Nat→Prop) (φ : List (List Nat)) (H:List R) (w:World):I→Value→Prop
 | d {x:D}{v:Value}(h:FZ S w x v):V S φ H w (.d x) v
 | agg {cs:List I}{vs:Array Value}(hl:cs.length=vs.size) (h1 : ∀ j,j<cs.length→(vs.getD j undef).oneCell'=true)
   (h : ∀ j,j<cs.length→V S φ H w (cs.getD j .junk) (vs.getD j undef)):V S φ H w (.agg cs) (.agg vs)
 | sl {i g k lo n:Nat}{v:Value}(hi:i<H.length) (hg:g≤(H.getD i (.dead 0)).gen)
   (h : ∀ dp l,H[i]?=some (.row g k dp l)→qhd w (φ.getD i []) k lo n v∧lo+n≤l.length) (h1:v.oneCell'=true):V S φ H w (.sl i g k lo n) v
 | ptr {i off:Nat}{v:Value}(hi:i<H.length) (h : ∀ cs,H[i]?=some (.box cs)→∃ b,φ.getD i []=[b]∧v=.pointer (some ⟨b,off,none⟩)) (h1:v.oneCell'=true) :
   V S φ H w (.ptr i off) v
 | eptr {i g k idx off:Nat}{z:D}{v:Value}(hi:i<H.length) (hg:g≤(H.getD i (.dead 0)).gen)
   (h : ∀ dp l,H[i]?=some (.row g k dp l)→∃ b rest,φ.getD i []=b::rest∧v=.pointer (some ⟨b,idx*k+off,none⟩)) (h1:v.oneCell'=true):V S φ H w (.eptr i g k idx off z) v
 | map {i:Nat}{v:Value}(hi:i<H.length) (h : ∀ es,H[i]?=some (.map es)→∃ b,φ.getD i []=[b]∧v=.map (some b)) (h1:v.oneCell'=true):V S φ H w (.map i) v
 | fn {f:Nat}{caps:List I}{vs:Array Value}(hl:caps.length=vs.size) (h : ∀ j,j<caps.length→V S φ H w (caps.getD j .junk) (vs.getD j undef)) :
   V S φ H w (.fn f caps) (.func (.func f) #[] vs)
 | tup {xs:List I}{vs:Array Value}(hl:xs.length=vs.size) (h : ∀ j,j<xs.length→V S φ H w (xs.getD j .junk) (vs.getD j undef)):V S φ H w (.tup xs) (.tuple vs)
 | own {i:Nat}{v:Value}(hi:i<H.length) (h : ∀ x,H[i]?=some (.val x)→OW w x v (φ.getD i [])):V S φ H w (.own i) v
 | cond {e:Bool}{x:I}{v:Value}(h:e=true→V S φ H w x v) (h0:e=false→v=undef):V S φ H w (.cond e x) v
 | junk {v:Value}:V S φ H w .junk v
def qeG:List (D×D)→List MapEntry→Prop
 | [],[]=>True
 | x::r,e::l=>((∀ S w,FZ S w x.1 e.key)∧(∀ S w,FZ S w x.2 e.val))∧qeG r l
 | _,_=>False
def qmr (es:List (D×D)) (ents:Array MapEntry):Prop:=qeG es ents.toList
def CellRel (S:Nat→Prop) (φ : List (List Nat)) (H:List R) (w:World) (c:D) (v:Value) (fp:List Nat):Option I→Prop
 | none=>OW w c v fp
 | some x=>fp=[]∧c.scalar=false∧v.oneCell'=true∧V S φ H w x v
def RowRel (S:Nat→Prop) (φ : List (List Nat)) (H:List R) (w:World) (k:Nat) (dp:DP) (cells:List D) (arr:Array Value) (rest:List Nat):Prop:=
 match dp with
 | .own hs=>∃ F:Nat→List Nat,rest=(List.range cells.length).flatMap F∧(∀ h∈hs,h.1*k+h.2.1<cells.length)∧∀ j,j<cells.length→CellRel S φ H w (cells.getD j .nil) (arr.getD j undef) (F j) (qan k hs j)
 | .fz=>rest=[]∧∀ j,j<cells.length→FZ S w (cells.getD j .nil) (arr.getD j undef)
def RRel (S:Nat→Prop) (φ : List (List Nat)) (H:List R) (w:World) (fp:List Nat):R→Prop
 | .box cs=>∃ b arr ty,fp=[b]∧w.heap[b]?=some (.cells arr ty (0,0))∧arr.size=cs.length∧
   ∀ j,j<cs.length→(arr.getD j undef).oneCell'=true∧V S φ H w (cs.getD j .junk) (arr.getD j undef)
 | .row _ k dp l=>0<k∧(∀ x∈l,x.cells.length=k)∧(∀ c∈flat l,c.one=true)∧l.length≤lim∧
   ((fp=[]∧l=[])∨∃ b rest arr ty,fp=b::rest∧w.heap[b]?=some (.cells arr ty (0,0))∧l.length*k≤arr.size∧RowRel S φ H w k dp (flat l) arr rest)
 | .map es=>∃ b ents clock,fp=[b]∧w.heap[b]?=some (.map ents clock)∧qmr es ents
 | .val _=>True
 | .dead _=>True
def Foot (φ : List (List Nat)) (b:Nat):Prop:=∃ i,b∈φ.getD i []
structure Sim (S:Nat→Prop) (φ : List (List Nat)) (H:List R) (w:World):Prop where
 len : φ.length=H.length
 nd : ∀ i,(φ.getD i []).Nodup
 dj : ∀ i j b,b∈φ.getD i []→b∈φ.getD j []→i=j
 lt : ∀ b,Foot φ b→b<w.heap.size
 off : ∀ b,Foot φ b→¬ S b
 slt : ∀ b,S b→b<w.heap.size
 rel : ∀ i r,H[i]?=some r→RRel S φ H w (φ.getD i []) r
structure Ext (S:Nat→Prop) (φ : List (List Nat)) (w:World) (S':Nat→Prop) (φ':List (List Nat)) (w':World):Prop where
 os:w'.os=w.os
 tape:w'.tape=w.tape
 output:w'.output=w.output
 size:w.heap.size≤w'.heap.size
 keep : ∀ b,b<w.heap.size→¬ Foot φ b→w'.heap[b]?=w.heap[b]?
 fp : ∀ b,Foot φ' b→Foot φ b∨w.heap.size≤b
 sub : ∀ b,S b→S' b
 sfp : ∀ b,S' b→S b∨Foot φ b∨w.heap.size≤b
theorem Ext.refl (S:Nat→Prop) (φ : List (List Nat)) (w:World):Ext S φ w S φ w:=
 ⟨rfl,rfl,rfl,Nat.le_refl _,fun _ _ _=>rfl,fun _ h=>.inl h,fun _ h=>h,fun _ h=>.inl h⟩
theorem Ext.trans {S φ w S' φ' w' S'' φ'' w''}(h:Ext S φ w S' φ' w') (h':Ext S' φ' w' S'' φ'' w''):Ext S φ w S'' φ'' w'':=by
 refine⟨h'.os.trans h.os,h'.tape.trans h.tape,h'.output.trans h.output,Nat.le_trans h.size h'.size,?_,?_,fun b hb=>h'.sub b (h.sub b hb),?_⟩
 ·intro b hb hn
  have h1:=h.keep b hb hn
  have hlt:b<w'.heap.size:=Nat.lt_of_lt_of_le hb h.size
  rw[h'.keep b hlt (fun hm=>by rcases h.fp b hm with h2|h2;exact hn h2;omega),h1]
 ·intro b hb
  rcases h'.fp b hb with h1|h1
  ·exact h.fp b h1
  ·exact .inr (Nat.le_trans h.size h1)
 ·intro b hb
  rcases h'.sfp b hb with h1|h1|h1
  ·exact h.sfp b h1
  ·exact .inr (h.fp b h1)
  ·exact .inr (.inr (Nat.le_trans h.size h1))
structure Fr where
 n:Nat
 m:List (Nat×I)
def look (t:Nat):List (Nat×I)→I
 | []=>.junk
 | (s,x)::r=>if s=t then x else look t r
def Fr.get (fr:Fr) (t:Nat):I:=look t fr.m
def Fr.put (fr:Fr) (dst:Option Tmp) (x:I):Fr:=
 match dst with
 | some t=>if t<fr.n then { fr with m:=(t,x)::fr.m } else fr
 | none=>fr
structure FrR (S:Nat→Prop) (φ : List (List Nat)) (H:List R) (w:World) (fr:Fr) (a:Act):Prop where
 defers:a.defers=[]
 size:a.tmps.size=fr.n
 val : ∀ t,V S φ H w (fr.get t) (a.tmps.getD t undef)
theorem cell_of_heap {w w':World}{b:Nat}(h:w'.heap[b]?=w.heap[b]?) (o:Nat):w'.cell? ⟨b,o,none⟩=w.cell? ⟨b,o,none⟩:=by
 simp[World.cell?,h]
theorem FZ.mono {S S':Nat→Prop}{w w':World}(hS : ∀ b,S b→S' b) (hw : ∀ b,S b→w'.heap[b]?=w.heap[b]?) {x:D}{v:Value}(h:FZ S w x v):FZ S' w' x v:=by
 induction h with
 | int h=>exact .int h
 | bool=>exact .bool
 | raw h=>exact .raw h
 | agg hl h1 _ ih=>exact .agg hl h1 ih
 | nil=>exact .nil
 | lst0 hk=>exact .lst0 hk
 | lst f hk he h1 hn hlim hb hc _ ih=>exact .lst f hk he h1 hn hlim (hS _ hb) (fun j hj=>by rw[cell_of_heap (hw _ hb)];exact hc j hj) ih
 | ptr f hb h1 hc _ ih=>exact .ptr f (hS _ hb) h1 (fun j hj=>by rw[cell_of_heap (hw _ hb)];exact hc j hj) ih
 | fn hl _ ih=>exact .fn hl ih
 | tup hl _ ih=>exact .tup hl ih
theorem OW.lt {w:World}{x:D}{v:Value}{fp:List Nat}(h:OW w x v fp) : ∀ b∈fp,b<w.heap.size:=by
 induction h with
 | int h=>simp
 | bool=>simp
 | raw h=>simp
 | nil=>simp
 | lst0 hk=>simp
 | agg F hl h1 _ ih=>
  intro b hb
  obtain⟨j,hj,hb⟩:=List.mem_flatMap.1 hb
  exact ih j (List.mem_range.1 hj) b hb
 | tup F hl _ ih=>
  intro b hb
  obtain⟨j,hj,hb⟩:=List.mem_flatMap.1 hb
  exact ih j (List.mem_range.1 hj) b hb
 | lst F hk he h1 hn hcap hlim hb hfit _ ih=>
  intro b hbm
  rcases List.mem_cons.1 hbm with rfl|hbm
  ·exact(Array.getElem?_eq_some_iff.1 hb).1
  ·obtain⟨j,hj,hbm⟩:=List.mem_flatMap.1 hbm
   exact ih j (List.mem_range.1 hj) b hbm
theorem qal {F:Nat→List Nat}{n j b:Nat}(hj:j<n) (hb:b∈F j):b∈(List.range n).flatMap F:=
 List.mem_flatMap.2 ⟨j,List.mem_range.2 hj,hb⟩
theorem OW.keep {w w':World}{x:D}{v:Value}{fp:List Nat}(h:OW w x v fp) (hw : ∀ b∈fp,w'.heap[b]?=w.heap[b]?):OW w' x v fp:=by
 induction h with
 | int h=>exact .int h
 | bool=>exact .bool
 | raw h=>exact .raw h
 | nil=>exact .nil
 | lst0 hk=>exact .lst0 hk
 | agg F hl h1 _ ih=>exact .agg F hl h1 fun j hj=>ih j hj fun b hb=>hw b (qal hj hb)
 | tup F hl _ ih=>exact .tup F hl fun j hj=>ih j hj fun b hb=>hw b (qal hj hb)
 | lst F hk he h1 hn hcap hlim hb hfit _ ih=>
  exact .lst F hk he h1 hn hcap hlim ((hw _ (by simp)).trans hb) hfit fun j hj=>ih j hj fun b hb=>hw b (List.mem_cons_of_mem _ (qal hj hb))
theorem flat_length {k:Nat}{l:List D}(he : ∀ x∈l,x.cells.length=k):(flat l).length=l.length*k:=by
 unfold flat
 induction l with
 | nil=>simp
 | cons x r ih=>
  simp only[List.flatMap_cons,List.length_append,List.length_cons]
  rw[ih (fun x hx=>he x (List.mem_cons_of_mem _ hx)),he x (by simp),Nat.add_mul]
  omega
theorem OW.fz {S:Nat→Prop}{w:World}{x:D}{v:Value}{fp:List Nat}(h:OW w x v fp) (hS : ∀ b∈fp,S b):FZ S w x v:=by
 induction h with
 | int h=>exact .int h
 | bool=>exact .bool
 | raw h=>exact .raw h
 | nil=>exact .nil
 | lst0 hk=>exact .lst0 hk
 | agg F hl h1 _ ih=>exact .agg hl h1 fun j hj=>ih j hj fun b hb=>hS b (qal hj hb)
 | tup F hl _ ih=>exact .tup hl fun j hj=>ih j hj fun b hb=>hS b (qal hj hb)
 | @lst k l b cap arr ty F hk he h1 hn hcap hlim hb hfit _ ih=>
  refine .lst (fun j=>arr.getD j undef) hk he h1 hn hlim (hS _ (by simp)) ?_ fun j hj=>ih j hj fun b hb=>hS b (List.mem_cons_of_mem _ (qal hj hb))
  intro j hj
  have hfl:(flat l).length=l.length*k:=by
   exact flat_length he
  have hja:j<arr.size:=by
   have:l.length*k≤cap*k:=Nat.mul_le_mul_right _ hn
   omega
  simp[World.cell?,hb,Array.getD,hja]
theorem qcn (l r:List D):flat (l++r)=flat l++flat r:=by simp[flat]
end Go.VL
namespace Go.VL
structure Tr (n:Nat) (S:Nat→Prop) (φ : List (List Nat)) (H:List R) (w:World) (S':Nat→Prop) (φ':List (List Nat)) (H':List R) (w':World):Prop where
 sub : ∀ b,S b→S' b
 keep : ∀ b,S b→w'.heap[b]?=w.heap[b]?
 le:n≤H.length
 len:n≤H'.length
 gen : ∀ i,i<n→(H.getD i (.dead 0)).gen≤(H'.getD i (.dead 0)).gen
 row : ∀ i g k dp' l',i<n→H'[i]?=some (.row g k dp' l')→(H.getD i (.dead 0)).gen<g∨
  ∃ dp l,H[i]?=some (.row g k dp l)∧(φ'.getD i []).head?=(φ.getD i []).head?∧l.length≤l'.length∧
   ∀ b rest arr ty,φ.getD i []=b::rest→w.heap[b]?=some (.cells arr ty (0,0))→∃ arr' ty',w'.heap[b]?=some (.cells arr' ty' (0,0))∧arr.size≤arr'.size
 box : ∀ i cs',i<n→H'[i]?=some (.box cs')→∃ cs,H[i]?=some (.box cs)∧φ'.getD i [] = φ.getD i []
 map : ∀ i es',i<n→H'[i]?=some (.map es')→∃ es,H[i]?=some (.map es)∧φ'.getD i [] = φ.getD i []
 val : ∀ i x,i<n→H'[i]?=some (.val x)→H[i]?=some (.val x)∧φ'.getD i [] = φ.getD i []∧∀ b∈φ.getD i [],w'.heap[b]?=w.heap[b]?
variable {S S':Nat→Prop}{φ φ':List (List Nat)}{H H':List R}{w w':World}
theorem qkW {a b:List Nat}(h:a.head?=b.head?) (hb:b=[]):a=[]:=by
 subst hb;cases a <;> simp at h ⊢
theorem qeH {a b:List Nat}(h:a.head?=b.head?) {x:Nat}{r:List Nat}(hb:b=x::r) : ∃ r',a=x::r':=by
 subst hb;cases a <;> simp at h ⊢;exact h
theorem V.tr (t:Tr H.length S φ H w S' φ' H' w') {x:I}{v:Value}(h:V S φ H w x v):V S' φ' H' w' x v:=by
 induction h with
 | d h=>exact .d (h.mono t.sub t.keep)
 | agg hl h1 _ ih=>exact .agg hl h1 ih
 | @sl i g k lo n v hi hg h h1=>
  refine .sl (Nat.lt_of_lt_of_le hi t.len) (Nat.le_trans hg (t.gen i hi)) ?_ h1
  intro dp' l' hl'
  rcases t.row i g k dp' l' hi hl' with hlt|⟨dp,l,hl,hfp,hle,hb⟩
  ·omega
  ·obtain⟨hr,hle'⟩:=h dp l hl
   refine⟨?_,by omega⟩
   rcases hr with hr|⟨b,rest,cap,arr,ty,a,e1,e2,hn,hc,hlim,hbk,hfit⟩
   ·exact .inl ⟨qkW hfp hr.1,hr.2⟩
   ·obtain⟨arr',ty',hb',hsz⟩:=hb b rest arr ty e1 hbk
    obtain⟨rest',e1'⟩:=qeH hfp e1
    exact .inr ⟨b,rest',cap,arr',ty',a,e1',e2,hn,hc,hlim,hb',fun hh=>⟨(hfit hh).1,Nat.le_trans (hfit hh).2 hsz⟩⟩
 | @ptr i off v hi h h1=>
  refine .ptr (Nat.lt_of_lt_of_le hi t.len) ?_ h1
  intro cs' hcs'
  obtain⟨cs,hcs,hfp⟩:=t.box i cs' hi hcs'
  rw[hfp]
  exact h cs hcs
 | @eptr i g k idx off z v hi hg h h1=>
  refine .eptr (Nat.lt_of_lt_of_le hi t.len) (Nat.le_trans hg (t.gen i hi)) ?_ h1
  intro dp' l' hl'
  rcases t.row i g k dp' l' hi hl' with hlt|⟨dp,l,hl,hfp,hle,hb⟩
  ·omega
  ·obtain⟨b,rest,e1,e2⟩:=h dp l hl
   obtain⟨rest',e1'⟩:=qeH hfp e1
   exact⟨b,rest',e1',e2⟩
 | @map i v hi h h1=>
  refine .map (Nat.lt_of_lt_of_le hi t.len) ?_ h1
  intro es' hes'
  obtain⟨es,hes,hfp⟩:=t.map i es' hi hes'
  rw[hfp]
  exact h es hes
 | fn hl _ ih=>exact .fn hl ih
 | tup hl _ ih=>exact .tup hl ih
 | @own i v hi h=>
  refine .own (Nat.lt_of_lt_of_le hi t.len) ?_
  intro x hx
  obtain⟨hx',hfp,hb⟩:=t.val i x hi hx
  rw[hfp]
  exact(h x hx').keep hb
 | cond _ h0 ih=>exact .cond ih h0
 | junk=>exact .junk
theorem CellRel.tr (t:Tr H.length S φ H w S' φ' H' w') {c:D}{v:Value}{fp:List Nat}{o:Option I}(hb : ∀ b∈fp,w'.heap[b]?=w.heap[b]?)
  (h:CellRel S φ H w c v fp o):CellRel S' φ' H' w' c v fp o:=by
 cases o with
 | none=>exact OW.keep h hb
 | some x=>exact⟨h.1,h.2.1,h.2.2.1,h.2.2.2.tr t⟩
theorem RowRel.keep {k:Nat}{dp:DP}{cells:List D}{arr:Array Value}{rest:List Nat}(t:Tr H.length S φ H w S' φ' H' w')
  (hr : ∀ b∈rest,w'.heap[b]?=w.heap[b]?) (h:RowRel S φ H w k dp cells arr rest):RowRel S' φ' H' w' k dp cells arr rest:=by
 cases dp with
 | fz=>exact⟨h.1,fun j hj=>(h.2 j hj).mono t.sub t.keep⟩
 | own hs=>
  obtain⟨F,rfl,hw,hF⟩:=h
  exact⟨F,rfl,hw,fun j hj=>(hF j hj).tr t fun b hb=>hr b (qal hj hb)⟩
theorem RRel.tr (t:Tr H.length S φ H w S' φ' H' w') {fp:List Nat}{r:R}(hb : ∀ b∈fp,w'.heap[b]?=w.heap[b]?) (h:RRel S φ H w fp r):RRel S' φ' H' w' fp r:=by
 cases r with
 | box cs=>
  obtain⟨b,arr,ty,rfl,hh,hs,hv⟩:=h
  exact⟨b,arr,ty,rfl,(hb b (by simp)).trans hh,hs,fun j hj=>⟨(hv j hj).1,(hv j hj).2.tr t⟩⟩
 | row g k dp l=>
  obtain⟨hk,he,h1,hlim,h⟩:=h
  refine⟨hk,he,h1,hlim,?_⟩
  rcases h with h|⟨b,rest,arr,ty,rfl,hh,hs,hr⟩
  ·exact .inl h
  ·exact .inr ⟨b,rest,arr,ty,rfl,(hb b (by simp)).trans hh,hs,hr.keep t fun b hm=>hb b (by simp[hm])⟩
 | map es=>
  obtain⟨b,ents,clock,rfl,hh,hm⟩:=h
  exact⟨b,ents,clock,rfl,(hb b (by simp)).trans hh,hm⟩
 | val x=>trivial
 | dead g=>trivial
theorem FrR.tr (t:Tr H.length S φ H w S' φ' H' w') {fr:Fr}{a:Act}(h:FrR S φ H w fr a):FrR S' φ' H' w' fr a:=
 ⟨h.defers,h.size,fun i=>(h.val i).tr t⟩
theorem qcZ (l:List (List Nat)) (i j:Nat) (x:List Nat):(l.set i x).getD j []=if i=j∧j<l.length then x else l.getD j []:=by
 simp only[List.getD,List.getElem?_set]
 by_cases h:i=j
 ·subst h
  by_cases h2:i<l.length <;> simp[h2]
 ·simp[h]
theorem qcK (l:List (List Nat)) (j:Nat) (x:List Nat):(l ++ [x]).getD j []=if j=l.length then x else l.getD j []:=by
 simp only[List.getD,List.getElem?_append]
 by_cases h:j<l.length
 ·simp[h,Nat.ne_of_lt h]
 ·by_cases h2:j=l.length
  ·subst h2;simp
  ·have:l.length<j:=by omega
   simp[h2,List.getElem?_eq_none (Nat.le_of_not_lt h),show([x]:List (List Nat))[j-l.length]?=none from by simp;omega]
theorem qi0 (l:List R) (i j:Nat) (x d:R) (h:i≠j):(l.set i x).getD j d=l.getD j d:=by
 simp[List.getD,List.getElem?_set,h]
structure Upd (φ : List (List Nat)) (w:World) (i:Nat) (fp':List Nat) (w':World):Prop where
 os:w'.os=w.os
 tape:w'.tape=w.tape
 output:w'.output=w.output
 size:w.heap.size≤w'.heap.size
 keep : ∀ b,b<w.heap.size→b∉φ.getD i []→w'.heap[b]?=w.heap[b]?
 nd:fp'.Nodup
 new : ∀ b∈fp',(b∈φ.getD i []∨w.heap.size≤b)∧b<w'.heap.size
theorem Sim.update (s:Sim S φ H w) {i:Nat}(hi:i<H.length) {r':R}{fp':List Nat}(u:Upd φ w i fp' w')
  (hgen:(H.getD i (.dead 0)).gen≤r'.gen)
  (hrow : ∀ g k dp' l',r'=.row g k dp' l'→(H.getD i (.dead 0)).gen<g∨∃ dp l,H[i]?=some (.row g k dp l)∧fp'.head?=(φ.getD i []).head?∧l.length≤l'.length∧
   ∀ b rest arr ty,φ.getD i []=b::rest→w.heap[b]?=some (.cells arr ty (0,0))→∃ arr' ty',w'.heap[b]?=some (.cells arr' ty' (0,0))∧arr.size≤arr'.size)
  (hbox : ∀ cs',r'=.box cs'→∃ cs,H[i]?=some (.box cs)∧fp' = φ.getD i [])
  (hmap : ∀ es',r'=.map es'→∃ es,H[i]?=some (.map es)∧fp' = φ.getD i [])
  (hval : ∀ x,r'≠.val x)
  (hr:Tr H.length S φ H w S (φ.set i fp') (H.set i r') w'→RRel S (φ.set i fp') (H.set i r') w' fp' r') :
  Sim S (φ.set i fp') (H.set i r') w'∧Tr H.length S φ H w S (φ.set i fp') (H.set i r') w'∧Ext S φ w S (φ.set i fp') w':=by
 have hφ : i < φ.length:=by rw[s.len];exact hi
 have hkeepS : ∀ b,S b→w'.heap[b]?=w.heap[b]?:=fun b hb=>u.keep b (s.slt b hb) fun hm=>s.off b ⟨i,hm⟩ hb
 have hother : ∀ j,j≠i→∀ b∈φ.getD j [],w'.heap[b]?=w.heap[b]?:=fun j hj b hb=>
  u.keep b (s.lt b ⟨j,hb⟩) fun hm=>hj (s.dj j i b hb hm)
 have hget : ∀ j,(φ.set i fp').getD j []=if j=i then fp' else φ.getD j []:=by
  intro j
  rw[qcZ]
  by_cases h:j=i
  ·subst h;simp[hφ]
  ·simp[h,Ne.symm h]
 have hH : ∀ j,j≠i→(H.set i r')[j]?=H[j]?:=fun j hj=>by simp[List.getElem?_set,Ne.symm hj]
 have hHi:(H.set i r')[i]?=some r':=by simp[hi]
 have htr:Tr H.length S φ H w S (φ.set i fp') (H.set i r') w':=by
  refine⟨fun _ h=>h,hkeepS,Nat.le_refl _,by simp,?_,?_,?_,?_,?_⟩
  ·intro j hj
   by_cases h:j=i
   ·subst h
    simpa [List.getD,hi] using hgen
   ·rw[qi0 _ _ _ _ _ (Ne.symm h)]
    exact Nat.le_refl _
  ·intro j g k dp' l' hj hl'
   by_cases h:j=i
   ·subst h
    rw[hHi] at hl'
    have:=hrow g k dp' l' (by simpa using hl')
    rw[hget,if_pos rfl]
    exact this
   ·rw[hH j h] at hl'
    right
    refine⟨dp',l',hl',by rw[hget,if_neg h],Nat.le_refl _,fun b rest arr ty e1 e2=>⟨arr,ty,?_,Nat.le_refl _⟩⟩
    rw[hother j h b (by rw[e1];simp)]
    exact e2
  ·intro j cs' hj hl'
   by_cases h:j=i
   ·subst h
    rw[hHi] at hl'
    rw[hget,if_pos rfl]
    exact hbox cs' (by simpa using hl')
   ·rw[hH j h] at hl'
    exact⟨cs',hl',by rw[hget,if_neg h]⟩
  ·intro j es' hj hl'
   by_cases h:j=i
   ·subst h
    rw[hHi] at hl'
    rw[hget,if_pos rfl]
    exact hmap es' (by simpa using hl')
   ·rw[hH j h] at hl'
    exact⟨es',hl',by rw[hget,if_neg h]⟩
  ·intro j x hj hl'
   by_cases h:j=i
   ·subst h
    rw[hHi] at hl'
    exact absurd (by simpa using hl') (hval x)
   ·rw[hH j h] at hl'
    exact⟨hl',by rw[hget,if_neg h],hother j h⟩
 have hfoot : ∀ b,Foot (φ.set i fp') b→Foot φ b∨w.heap.size≤b:=by
  rintro b ⟨j,hj⟩
  rw[hget] at hj
  by_cases h:j=i
  ·rw[if_pos h] at hj
   rcases(u.new b hj).1 with h1|h1
   ·exact .inl ⟨i,h1⟩
   ·exact .inr h1
  ·rw[if_neg h] at hj
   exact .inl ⟨j,hj⟩
 refine⟨⟨by simp[s.len],?_,?_,?_,?_,fun b hb=>Nat.lt_of_lt_of_le (s.slt b hb) u.size,?_⟩,htr,⟨u.os,u.tape,u.output,u.size,fun b hb hn=>u.keep b hb fun hm=>hn ⟨i,hm⟩,hfoot,fun _ h=>h,fun b hb=>.inl hb⟩⟩
 ·intro j
  rw[hget]
  split
  ·exact u.nd
  ·exact s.nd j
 ·intro j j' b hb hb'
  rw[hget] at hb hb'
  by_cases h:j=i <;> by_cases h':j'=i
  ·rw[h,h']
  ·rw[if_pos h] at hb
   rw[if_neg h'] at hb'
   rcases(u.new b hb).1 with h1|h1
   ·rw[h];exact s.dj i j' b h1 hb'
   ·have:=s.lt b ⟨j',hb'⟩;omega
  ·rw[if_neg h] at hb
   rw[if_pos h'] at hb'
   rcases(u.new b hb').1 with h1|h1
   ·rw[h'];exact s.dj j i b hb h1
   ·have:=s.lt b ⟨j,hb⟩;omega
  ·rw[if_neg h] at hb
   rw[if_neg h'] at hb'
   exact s.dj j j' b hb hb'
 ·rintro b ⟨j,hj⟩
  rw[hget] at hj
  by_cases h:j=i
  ·rw[if_pos h] at hj
   exact(u.new b hj).2
  ·rw[if_neg h] at hj
   exact Nat.lt_of_lt_of_le (s.lt b ⟨j,hj⟩) u.size
 ·intro b hb hS
  rcases hfoot b hb with h1|h1
  ·exact s.off b h1 hS
  ·have:=s.slt b hS;omega
 ·intro j r hj
  rw[hget]
  by_cases h:j=i
  ·subst h
   rw[hHi] at hj
   obtain rfl:r'=r:=by simpa using hj
   rw[if_pos rfl]
   exact hr htr
  ·rw[hH j h] at hj
   rw[if_neg h]
   exact(s.rel j r hj).tr htr (hother j h)
theorem Sim.push (s:Sim S φ H w) {r':R}{fp':List Nat}(u:Upd φ w H.length fp' w')
  (hr:Tr H.length S φ H w S (φ ++ [fp']) (H ++ [r']) w'→RRel S (φ ++ [fp']) (H ++ [r']) w' fp' r') :
  Sim S (φ ++ [fp']) (H ++ [r']) w'∧Tr H.length S φ H w S (φ ++ [fp']) (H ++ [r']) w'∧Ext S φ w S (φ ++ [fp']) w':=by
 have h0 : φ.getD H.length []=[]:=by simp[List.getD,←s.len]
 have hnew : ∀ b∈fp',w.heap.size≤b:=fun b hb=>by
  rcases(u.new b hb).1 with h1|h1
  ·rw[h0] at h1;simp at h1
  ·exact h1
 have hkeep : ∀ b,b<w.heap.size→w'.heap[b]?=w.heap[b]?:=fun b hb=>u.keep b hb (by rw[h0];simp)
 have hget : ∀ j,(φ ++ [fp']).getD j []=if j=H.length then fp' else φ.getD j []:=by
  intro j
  rw[qcK,s.len]
 have hH : ∀ j,j<H.length→(H ++ [r'])[j]?=H[j]?:=fun j hj=>by simp[List.getElem?_append,hj]
 have htr:Tr H.length S φ H w S (φ ++ [fp']) (H ++ [r']) w':=by
  refine⟨fun _ h=>h,fun b hb=>hkeep b (s.slt b hb),Nat.le_refl _,by simp,?_,?_,?_,?_,?_⟩
  ·intro j hj
   simp only[List.getD,hH j hj]
   exact Nat.le_refl _
  ·intro j g k dp' l' hj hl'
   rw[hH j hj] at hl'
   right
   refine⟨dp',l',hl',by rw[hget,if_neg (Nat.ne_of_lt hj)],Nat.le_refl _,fun b rest arr ty e1 e2=>⟨arr,ty,?_,Nat.le_refl _⟩⟩
   rw[hkeep b (s.lt b ⟨j,by rw[e1];simp⟩)]
   exact e2
  ·intro j cs' hj hl'
   rw[hH j hj] at hl'
   exact⟨cs',hl',by rw[hget,if_neg (Nat.ne_of_lt hj)]⟩
  ·intro j cs' hj hl'
   rw[hH j hj] at hl'
   exact⟨cs',hl',by rw[hget,if_neg (Nat.ne_of_lt hj)]⟩
  ·intro j x hj hl'
   rw[hH j hj] at hl'
   exact⟨hl',by rw[hget,if_neg (Nat.ne_of_lt hj)],fun b hb=>hkeep b (s.lt b ⟨j,hb⟩)⟩
 have hfoot : ∀ b,Foot (φ ++ [fp']) b→Foot φ b∨w.heap.size≤b:=by
  rintro b ⟨j,hj⟩
  rw[hget] at hj
  by_cases h:j=H.length
  ·rw[if_pos h] at hj
   exact .inr (hnew b hj)
  ·rw[if_neg h] at hj
   exact .inl ⟨j,hj⟩
 refine⟨⟨by simp[s.len],?_,?_,?_,?_,fun b hb=>Nat.lt_of_lt_of_le (s.slt b hb) u.size,?_⟩,htr,⟨u.os,u.tape,u.output,u.size,fun b hb hn=>hkeep b hb,hfoot,fun _ h=>h,fun b hb=>.inl hb⟩⟩
 ·intro j
  rw[hget]
  split
  ·exact u.nd
  ·exact s.nd j
 ·intro j j' b hb hb'
  rw[hget] at hb hb'
  by_cases h:j=H.length <;> by_cases h':j'=H.length
  ·rw[h,h']
  ·rw[if_pos h] at hb
   rw[if_neg h'] at hb'
   have:=s.lt b ⟨j',hb'⟩
   have:=hnew b hb
   omega
  ·rw[if_neg h] at hb
   rw[if_pos h'] at hb'
   have:=s.lt b ⟨j,hb⟩
   have:=hnew b hb'
   omega
  ·rw[if_neg h] at hb
   rw[if_neg h'] at hb'
   exact s.dj j j' b hb hb'
 ·rintro b ⟨j,hj⟩
  rw[hget] at hj
  by_cases h:j=H.length
  ·rw[if_pos h] at hj
   exact(u.new b hj).2
  ·rw[if_neg h] at hj
   exact Nat.lt_of_lt_of_le (s.lt b ⟨j,hj⟩) u.size
 ·intro b hb hS
  rcases hfoot b hb with h1|h1
  ·exact s.off b h1 hS
  ·have:=s.slt b hS;omega
 ·intro j r hj
  rw[hget]
  by_cases h:j=H.length
  ·subst h
   have:r'=r:=by simpa using hj
   subst this
   rw[if_pos rfl]
   exact hr htr
  ·have hlt:j<H.length:=by
    have:j<(H ++ [r']).length:=(List.getElem?_eq_some_iff.1 hj).1
    simp at this
    omega
   rw[hH j hlt] at hj
   rw[if_neg h]
   exact(s.rel j r hj).tr htr fun b hb=>hkeep b (s.lt b ⟨j,hb⟩)
theorem Sim.same (s:Sim S φ H w) (hh:w'.heap=w.heap) (ho:w'.os=w.os) (ht:w'.tape=w.tape) (hu:w'.output=w.output) :
  Sim S φ H w'∧Tr H.length S φ H w S φ H w'∧Ext S φ w S φ w':=by
 have htr:Tr H.length S φ H w S φ H w':=by
  refine⟨fun _ h=>h,fun b _=>by rw[hh],Nat.le_refl _,Nat.le_refl _,fun _ _=>Nat.le_refl _,?_,?_,?_,?_⟩
  ·intro j g k dp' l' hj hl'
   exact .inr ⟨dp',l',hl',rfl,Nat.le_refl _,fun b rest arr ty e1 e2=>⟨arr,ty,by rw[hh];exact e2,Nat.le_refl _⟩⟩
  ·exact fun j cs' hj hl'=>⟨cs',hl',rfl⟩
  ·exact fun j cs' hj hl'=>⟨cs',hl',rfl⟩
  ·exact fun j x hj hl'=>⟨hl',rfl,fun b _=>by rw[hh]⟩
 refine⟨⟨s.len,s.nd,s.dj,by rw[hh];exact s.lt,s.off,by rw[hh];exact s.slt,fun i r hr=>(s.rel i r hr).tr htr fun b _=>by rw[hh]⟩,htr,?_⟩
 exact⟨ho,ht,hu,by rw[hh];exact Nat.le_refl _,fun b _ _=>by rw[hh],fun _ h=>.inl h,fun _ h=>h,fun _ h=>.inl h⟩
theorem Tr.refl {n:Nat}(hn:n≤H.length):Tr n S φ H w S φ H w:=
 ⟨fun _ h=>h,fun _ _=>rfl,hn,hn,fun _ _=>Nat.le_refl _,
  fun i g k dp' l' hi hl=>.inr ⟨dp',l',hl,rfl,Nat.le_refl _,fun b rest arr ty e1 e2=>⟨arr,ty,e2,Nat.le_refl _⟩⟩,
  fun i cs hi h=>⟨cs,h,rfl⟩,fun i es hi h=>⟨es,h,rfl⟩,fun i x hi h=>⟨h,rfl,fun _ _=>rfl⟩⟩
theorem Tr.weaken {m n:Nat}(h:n≤m) (t:Tr m S φ H w S' φ' H' w'):Tr n S φ H w S' φ' H' w':=
 ⟨t.sub,t.keep,Nat.le_trans h t.le,Nat.le_trans h t.len,fun i hi=>t.gen i (Nat.lt_of_lt_of_le hi h),fun i g k dp' l' hi=>t.row i g k dp' l' (Nat.lt_of_lt_of_le hi h),
  fun i cs hi=>t.box i cs (Nat.lt_of_lt_of_le hi h),fun i cs hi=>t.map i cs (Nat.lt_of_lt_of_le hi h),fun i cs hi=>t.val i cs (Nat.lt_of_lt_of_le hi h)⟩
theorem Tr.trans {n:Nat}{S'':Nat→Prop}{φ'':List (List Nat)}{H'':List R}{w'':World}(t:Tr n S φ H w S' φ' H' w') (t':Tr n S' φ' H' w' S'' φ'' H'' w'') :
  Tr n S φ H w S'' φ'' H'' w'':=by
 refine⟨fun b h=>t'.sub b (t.sub b h),fun b h=>(t'.keep b (t.sub b h)).trans (t.keep b h),t.le,t'.len,fun i hi=>Nat.le_trans (t.gen i hi) (t'.gen i hi),?_,?_,?_,?_⟩
 ·intro i g k dp'' l'' hi hl
  rcases t'.row i g k dp'' l'' hi hl with h|⟨dp',l',hl',hfp,hle,hb⟩
  ·exact .inl (Nat.lt_of_le_of_lt (t.gen i hi) h)
  ·rcases t.row i g k dp' l' hi hl' with h|⟨dp,l,hl0,hfp0,hle0,hb0⟩
   ·exact .inl h
   ·refine .inr ⟨dp,l,hl0,hfp.trans hfp0,Nat.le_trans hle0 hle,fun b rest arr ty e1 e2=>?_⟩
    obtain⟨arr',ty',e3,hs⟩:=hb0 b rest arr ty e1 e2
    obtain⟨rest',e1'⟩:=qeH hfp0 e1
    obtain⟨arr'',ty'',e4,hs'⟩:=hb b rest' arr' ty' e1' e3
    exact⟨arr'',ty'',e4,Nat.le_trans hs hs'⟩
 ·intro i cs hi h
  obtain⟨cs',h',e⟩:=t'.box i cs hi h
  obtain⟨cs0,h0,e0⟩:=t.box i cs' hi h'
  exact⟨cs0,h0,e.trans e0⟩
 ·intro i cs hi h
  obtain⟨cs',h',e⟩:=t'.map i cs hi h
  obtain⟨cs0,h0,e0⟩:=t.map i cs' hi h'
  exact⟨cs0,h0,e.trans e0⟩
 ·intro i x hi h
  obtain⟨h',e,hb⟩:=t'.val i x hi h
  obtain⟨h0,e0,hb0⟩:=t.val i x hi h'
  exact⟨h0,e.trans e0,fun b hm=>(hb b (by rw[e0];exact hm)).trans (hb0 b hm)⟩
end Go.VL
namespace Go.VL
variable {P:Program}
abbrev Post:=Exit→Fr→List R→Prop
def iwp (P:Program) (n:Nat) (c:Code) (Q:Post) (fr:Fr) (H:List R):Prop:=
 ∀ S φ a w (Qr:Exit→Act→World→Prop),n≤H.length→Sim S φ H w→FrR S φ H w fr a→
  (∀ e a' w' S' φ' fr' H',Sim S' φ' H' w'→FrR S' φ' H' w' fr' a'→Ext S φ w S' φ' w'→Tr n S φ H w S' φ' H' w'→Q e fr' H'→Qr e a' w')→c.wp P Qr a w
def iops (P:Program) (n:Nat) (ops:Array Oper) (l:List Oper) (K:Fr→List R→Prop) (fr:Fr) (H:List R):Prop:=
 ∀ S φ a w (Qr:Exit→Act→World→Prop),n≤H.length→Sim S φ H w→FrR S φ H w fr a→
  (∀ a' w' S' φ' fr' H',Sim S' φ' H' w'→FrR S' φ' H' w' fr' a'→Ext S φ w S' φ' w'→Tr n S φ H w S' φ' H' w'→K fr' H'→Qr .normal a' w')→wpList P ops Qr l a w
def Ent (P:Program) (f:Nat):Prop:=∀ (args:Array Value) (w:World),(callFunc f args).run P w=.ok (.enter f args) w
def ICall (P:Program) (f:Nat) (args:List I) (H:List R) (Po:I→List R→Prop):Prop:=
 Ent P f∧∀ S φ (vs:Array Value) w (Rr:Ending→World→Prop),Sim S φ H w→vs.size=args.length→(∀ j,j<args.length→V S φ H w (args.getD j .junk) (vs.getD j undef))→
  (∀ v w' S' φ' r H',Sim S' φ' H' w'→V S' φ' H' w' r v→Ext S φ w S' φ' w'→Tr H.length S φ H w S' φ' H' w'→Po r H'→Rr (.returned v) w')→Calls P f vs w Rr
theorem ICall.mono {f:Nat}{args:List I}{H:List R}{Po Po':I→List R→Prop}(h:ICall P f args H Po) (hp : ∀ r H',Po r H'→Po' r H'):ICall P f args H Po':=
 ⟨h.1,fun S φ vs w Rr hs hl hv hr=>h.2 S φ vs w Rr hs hl hv fun v w' S' φ' r H' a b c d e=>hr v w' S' φ' r H' a b c d (hp _ _ e)⟩
section
variable {n:Nat}{Q:Post}{fr:Fr}{H:List R}
def qf0 (next:Fr→List R→Prop) (Q:Post):Post
 | .normal,fr,H=>next fr H
 | e,fr,H=>Q e fr H
def qeA (id:Nat) (Q:Post):Post
 | .exit id',fr,H=>if id'=id then Q .normal fr H else Q (.exit id') fr H
 | e,fr,H=>Q e fr H
theorem qf1 {c:Code}{Q':Post}(h:iwp P n c Q fr H) (hq : ∀ e fr H,Q e fr H→Q' e fr H):iwp P n c Q' fr H:=
 fun S φ a w Qr hn hs hf hr=>h S φ a w Qr hn hs hf fun e a' w' S' φ' fr' H' a b c d q=>hr e a' w' S' φ' fr' H' a b c d (hq _ _ _ q)
theorem qkX (h:Q .normal fr H):iwp P n .skip Q fr H:=
 fun S φ a w Qr hn hs hf hr=>wp_skip (hr _ a w S φ fr H hs hf (Ext.refl ..) (Tr.refl hn) h)
theorem qi1 {l:Nat}(h:Q .normal fr H):iwp P n (.label l) Q fr H:=
 fun S φ a w Qr hn hs hf hr=>wp_label (hr _ a w S φ fr H hs hf (Ext.refl ..) (Tr.refl hn) h)
theorem qkY {id:Nat}(h:Q (.exit id) fr H):iwp P n (.exit id) Q fr H:=
 fun S φ a w Qr hn hs hf hr=>wp_exit (hr _ a w S φ fr H hs hf (Ext.refl ..) (Tr.refl hn) h)
theorem iwp_ret (h:Q .ret fr H):iwp P n .ret Q fr H:=
 fun S φ a w Qr hn hs hf hr=>wp_ret (hr _ a w S φ fr H hs hf (Ext.refl ..) (Tr.refl hn) h)
theorem qi2 {x y:Code}(h:iwp P n x (qf0 (fun fr H=>iwp P n y Q fr H) Q) fr H):iwp P n (.seq x y) Q fr H:=by
 intro S φ a w Qr hn hs hf hr
 refine wp_seq (h S φ a w _ hn hs hf ?_)
 intro e a' w' S' φ' fr' H' hs' hf' he ht hq
 cases e with
 | normal=>
  exact hq S' φ' a' w' Qr ht.len hs' hf' fun e2 a2 w2 S2 φ2 fr2 H2 hs2 hf2 he2 ht2 hq2=>hr e2 a2 w2 S2 φ2 fr2 H2 hs2 hf2 (he.trans he2) (ht.trans ht2) hq2
 | exit id=>exact hr _ a' w' S' φ' fr' H' hs' hf' he ht hq
 | goto l=>exact hr _ a' w' S' φ' fr' H' hs' hf' he ht hq
 | ret=>exact hr _ a' w' S' φ' fr' H' hs' hf' he ht hq
 | panic ch=>exact hr _ a' w' S' φ' fr' H' hs' hf' he ht hq
 | outgrown=>exact hr _ a' w' S' φ' fr' H' hs' hf' he ht hq
theorem qi3 {id:Nat}{c:Code}(h:iwp P n c (qeA id Q) fr H):iwp P n (.block id c) Q fr H:=by
 intro S φ a w Qr hn hs hf hr
 refine wp_block (h S φ a w _ hn hs hf ?_)
 intro e a' w' S' φ' fr' H' hs' hf' he ht hq
 cases e with
 | exit id'=>
  simp only[Exit.inBlock,qeA] at hq ⊢
  split at hq
  ·rw[if_pos ‹_›];exact hr _ a' w' S' φ' fr' H' hs' hf' he ht hq
  ·rw[if_neg ‹_›];exact hr _ a' w' S' φ' fr' H' hs' hf' he ht hq
 | normal=>exact hr _ a' w' S' φ' fr' H' hs' hf' he ht hq
 | goto l=>exact hr _ a' w' S' φ' fr' H' hs' hf' he ht hq
 | ret=>exact hr _ a' w' S' φ' fr' H' hs' hf' he ht hq
 | panic ch=>exact hr _ a' w' S' φ' fr' H' hs' hf' he ht hq
 | outgrown=>exact hr _ a' w' S' φ' fr' H' hs' hf' he ht hq
def qms:Value→I
 | .int k n=>if k.min≤n∧n≤k.max then .d (.int k n) else .junk
 | .bool b=>.d (.bool b)
 | .slice none 0 0=>.d .nil
 | .pointer none=>.d (.raw (.pointer none))
 | .map none=>.d (.raw (.map none))
 | .nilFunc=>.d (.raw .nilFunc)
 | .string s=>.d (.raw (.string s))
 | _=>.junk
def ev (fr:Fr):Operand→I
 | .tmp t=>fr.get t
 | .const v=>qms v
 | .func f=>.d (.fn f [])
 | .global _=>.junk
theorem FrR.put {S:Nat→Prop}{φ : List (List Nat)}{w:World}{a:Act}(h:FrR S φ H w fr a) (dst:Option Tmp) {x:I}{v:Value}(hv:V S φ H w x v) :
  FrR S φ H w (fr.put dst x) (a.put dst v):=by
 cases dst with
 | none=>exact h
 | some t=>
  unfold Fr.put Act.put
  by_cases ht:t<fr.n
  ·simp only[ht,if_true]
   refine⟨h.defers,by simp[h.size],?_⟩
   intro s
   simp only[Fr.get,look]
   by_cases hst:t=s
   ·subst hst
    simp only[if_true]
    have:t<a.tmps.size:=by rw[h.size];exact ht
    simpa [Array.getD,this] using hv
   ·simp only[hst,if_false]
    have:=h.val s
    simp only[Fr.get] at this
    have e:(a.tmps.setIfInBounds t v).getD s undef=a.tmps.getD s undef:=by
     simp only[Array.getD_eq_getD_getElem?,Array.getElem?_setIfInBounds,hst,if_false]
    rw[e]
    exact this
  ·simp only[ht,if_false]
   have:a.tmps.setIfInBounds t v=a.tmps:=Array.setIfInBounds_eq_of_size_le (by rw[h.size];exact Nat.le_of_not_lt ht)
   rw[this]
   exact h
theorem FrR.ev {S:Nat→Prop}{φ : List (List Nat)}{w:World}{a:Act}(h:FrR S φ H w fr a) (o:Operand):V S φ H w (ev fr o) (a.eval o):=by
 cases o with
 | tmp t=>
  exact h.val t
 | const v=>
  simp only[VL.ev,Act.eval,qms]
  split
  ·split
   ·rename_i hk;exact .d (.int hk)
   ·exact .junk
  ·exact .d .bool
  ·exact .d .nil
  ·exact .d (.raw rfl)
  ·exact .d (.raw rfl)
  ·exact .d (.raw rfl)
  ·exact .d (.raw rfl)
  ·exact .junk
 | func f=>exact .d (.fn rfl (fun j hj=>by simp at hj))
 | global g=>exact .junk
theorem qkZ {c:Operand}{x y:Code}{d:D}(hc:ev fr c=.d d) (hb:d.isBool) (hx:d.toBool=true→iwp P n x Q fr H) (hy:d.toBool=false→iwp P n y Q fr H) :
  iwp P n (.cond c x y) Q fr H:=by
 intro S φ a w Qr hn hs hf hr
 have h:=hf.ev c
 rw[hc] at h
 cases d with
 | bool b=>
  cases h with
  | d h=>
   generalize ha:a.eval c=v at h
   cases h
   cases b with
   | true=>exact wp_cond_true ha (hx rfl S φ a w Qr hn hs hf hr)
   | false=>exact wp_cond_false ha (hy rfl S φ a w Qr hn hs hf hr)
 | _=>exact hb.elim
theorem qfB {id:Nat}{ops:Array Oper}(h:iops P n ops ops.toList (fun fr H=>Q .normal fr H) fr H):iwp P n (.region id ops false) Q fr H:=
 fun S φ a w Qr hn hs hf hr=>wp_region_list (h S φ a w Qr hn hs hf fun a' w' S' φ' fr' H' hs' hf' he ht hq=>hr _ a' w' S' φ' fr' H' hs' hf' he ht hq)
theorem qk0 {c:Code}(J:Nat→Fr→List R→Prop) (m:Nat) (h0:J m fr H)
  (hr : ∀ m fr H,J m fr H→iwp P n c (qf0 (fun fr' H'=>∃ m',m'<m∧J m' fr' H') Q) fr H):iwp P n (.loop c) Q fr H:=by
 intro S φ a w Qr hn hs hf hq b k cs
 have key : ∀ m,∀ a w S' φ' fr' H',J m fr' H'→Sim S' φ' H' w→FrR S' φ' H' w fr' a→n≤H'.length→(∀ e a'' w'' S'' φ'' fr'' H'',Sim S'' φ'' H'' w''→FrR S'' φ'' H'' w'' fr'' a''→Ext S' φ' w S'' φ'' w''→
   Tr n S' φ' H' w S'' φ'' H'' w''→Q e fr'' H''→Qr e a'' w'')→∃ e a' w',Qr e a' w'∧Arrives P (lone (b.at a (.code c::.inLoop c::k)) cs w) b k cs e a' w':=by
  intro m
  induction m using Nat.strongRecOn with
  | _ m ih=>
   intro a w S' φ' fr' H' hJ hs hf hn hq
   obtain⟨e,a₁,w₁,hq1,harr⟩:=hr m fr' H' hJ S' φ' a w (Exit.then (fun a1 w1=>∃ e a' w',Qr e a' w'∧Arrives P (lone (b.at a1 (.code c::.inLoop c::k)) cs w1) b k cs e a' w') Qr) hn hs hf (by
    intro e a1 w1 S1 φ1 fr1 H1 hs1 hf1 he1 ht1 hQ
    cases e with
    | normal=>
     obtain⟨m',hm',hJ'⟩:=hQ
     exact ih m' hm' a1 w1 S1 φ1 fr1 H1 hJ' hs1 hf1 ht1.len fun e2 a2 w2 S2 φ2 fr2 H2 hs2 hf2 he2 ht2 hq2=>hq e2 a2 w2 S2 φ2 fr2 H2 hs2 hf2 (he1.trans he2) (ht1.trans ht2) hq2
    | exit id=>exact hq _ a1 w1 S1 φ1 fr1 H1 hs1 hf1 he1 ht1 hQ
    | goto l=>exact hq _ a1 w1 S1 φ1 fr1 H1 hs1 hf1 he1 ht1 hQ
    | ret=>exact hq _ a1 w1 S1 φ1 fr1 H1 hs1 hf1 he1 ht1 hQ
    | panic ch=>exact hq _ a1 w1 S1 φ1 fr1 H1 hs1 hf1 he1 ht1 hQ
    | outgrown=>exact hq _ a1 w1 S1 φ1 fr1 H1 hs1 hf1 he1 ht1 hQ) b (.inLoop c::k) cs
   cases e with
   | normal=>
    obtain⟨e₂,a₂,w₂,hq₂,harr₂⟩:=hq1
    exact⟨e₂,a₂,w₂,hq₂,.of_steps (Steps.trans harr (.one step_inLoop)) harr₂⟩
   | exit id=>exact⟨_,a₁,w₁,hq1,.pass (x:=.inLoop c) rfl (fun _ _=>.inl (by simp)) harr⟩
   | goto l=>exact⟨_,a₁,w₁,hq1,.pass (x:=.inLoop c) rfl (fun _ _=>.inl (by simp)) harr⟩
   | ret=>exact⟨_,a₁,w₁,hq1,.pass (x:=.inLoop c) rfl (fun _ _=>.inl (by simp)) harr⟩
   | panic ch=>exact⟨_,a₁,w₁,hq1,.pass (x:=.inLoop c) rfl (fun _ _=>.inl (by simp)) harr⟩
   | outgrown=>exact⟨_,a₁,w₁,hq1,.pass (x:=.inLoop c) rfl (fun _ _=>.inl (by simp)) harr⟩
 obtain⟨e,a',w',hq',harr⟩:=key m a w S φ fr H h0 hs hf hn hq
 exact⟨e,a',w',hq',.of_steps (.one step_loop) harr⟩
end
end Go.VL
namespace Go.VL
inductive Ty where
 | int (k:IntKind)
 | bool
 | slice (e:Nat)
 | struct (fs:List (Nat×Nat))
 | array (n e:Nat)
 | ptr (e:Nat)
 | map (k e:Nat)
 | func
 | string
 | other
structure TI where
 ty:Ty
 size:Nat
 bytes:Nat
 zero:D
def Ty.agg:Ty→Bool
 | .struct _=>true
 | .array _ _=>true
 | _=>false
def tyOf:TypeDesc→Ty
 | .int k=>.int k
 | .bool=>.bool
 | .slice e=>.slice e
 | .struct fs=>.struct (fs.toList.map fun f=>(f.offset,f.type))
 | .array n e=>.array n e
 | .pointer e=>.ptr e
 | .map k e=>.map k e
 | .func _ _ _=>.func
 | .string=>.string
 | _=>.other
def val1:D→Value
 | .int k n=>.int k n
 | .bool b=>.bool b
 | .raw v=>v
 | .nil=>.slice none 0 0
 | _=>undef
def qac:D→Value
 | .agg cs=>.agg (cs.map val1).toArray
 | x=>val1 x
def qcL:D→Bool
 | .int k n=>decide (k.min≤n)&&decide (n≤k.max)
 | .bool _=>true
 | .raw v=>qiZ v
 | .nil=>true
 | _=>false
def qdF:D→Bool
 | .agg cs=>cs.all qcL
 | x=>qcL x
def qf2 (P:Program):List Field→Nat→Bool
 | [],_=>true
 | f::r,j=>(f.offset == j&&(match P.underlying f.type with|some (.int .i64)=>true|some .bool=>true|_=>false))&&qf2 P r (j+1)
def qi4 (P:Program) (t:Nat):Bool:=
 match P.underlying t with
 | some (.struct fs) => !qf2 P fs.toList 0 || (!P.stoodInHeld t && (!P.eqGuardType P.depth t && fs.toList.all fun f => decide (f.name ≠ "_")))
 | _=>true
structure TIOK (P:Program) (t:Nat) (ti:TI):Prop where
 ex : ∃ i d,P.info? t=some i∧i.size=ti.size∧i.bytes=ti.bytes∧i.zero=some (qac ti.zero)∧P.underlying t=some d∧tyOf d=ti.ty
 const:qdF ti.zero=true
 size:ti.zero.cells.length=ti.size
 agg:(match ti.zero with|.agg _=>true|_=>false)=ti.ty.agg
 eqs:qi4 P t=true
def TOK (P:Program) (T:Nat→Option TI):Prop:=∀ t ti,T t=some ti→TIOK P t ti
theorem qgw {S:Nat→Prop}{w:World}{x:D}(h:qcL x=true):FZ S w x (val1 x):=by
 cases x <;> simp[qcL] at h
 ·exact .int h
 ·exact .bool
 ·exact .raw h
 ·exact .nil
theorem qfC {x:D}(h:qcL x=true):x.one=true:=by cases x <;> simp[qcL] at h <;> rfl
theorem qd1 {S:Nat→Prop}{w:World}{x:D}(h:qdF x=true):FZ S w x (qac x):=by
 cases x with
 | agg cs=>
  simp only[qdF,List.all_eq_true] at h
  refine .agg (by simp) (fun c hc=>qfC (h c hc)) ?_
  intro j hj
  have:(cs.map val1).toArray.getD j undef=val1 (cs.getD j .nil):=by simp[Array.getD,hj,List.getD]
  rw[this]
  refine qgw (h _ ?_)
  simp[List.getD,hj]
 | _=>exact qgw h
section
variable {S:Nat→Prop}{φ : List (List Nat)}{H:List R}{w:World}{v:Value}{x:D}
theorem V.fz (h:V S φ H w (.d x) v):FZ S w x v:=by cases h;assumption
theorem FZ.int_inv {k:IntKind}(h:FZ S w x v) (hx:x.isInt k):x=.int k x.toInt∧v=.int k x.toInt∧InK k x.toInt:=by
 cases h <;> simp[D.isInt] at hx
 subst hx
 exact⟨rfl,rfl,by assumption⟩
theorem FZ.bool_inv (h:FZ S w x v) (hx:x.isBool):x=.bool x.toBool∧v=.bool x.toBool:=by
 cases h <;> simp[D.isBool] at hx
 exact⟨rfl,rfl⟩
theorem FZ.one (h:FZ S w x v) (hx:x.one=true):v.oneCell'=true:=by
 cases h <;> first|rfl|(simp[D.one] at hx;done)|skip
 rename_i hr
 cases v <;> simp_all[qiZ,Value.oneCell']
theorem FZ.slice_inv (h:FZ S w x v) (hx:x.isSl) : ∃ a cap,v=.slice a x.elems.length cap∧x.elems.length≤lim:=by
 cases h <;> simp[D.isSl] at hx
 ·exact⟨_,_,rfl,Nat.zero_le _⟩
 ·exact⟨_,_,rfl,Nat.zero_le _⟩
 ·exact⟨_,_,rfl,by assumption⟩
theorem qaF {k:Nat}{l:List D}(he : ∀ x∈l,x.cells.length=k) {i j:Nat}(hi:i<l.length) (hj:j<k) (z:D) :
  (flat l).getD (i*k+j) .nil=(l.getD i z).cells.getD j .nil:=by
 induction l generalizing i with
 | nil=>simp at hi
 | cons x r ih=>
  have hx:x.cells.length=k:=he x (by simp)
  cases i with
  | zero=>
   simp only[flat,List.flatMap_cons,List.getD,Nat.zero_mul,Nat.zero_add]
   rw[List.getElem?_append_left (by omega)]
   simp
  | succ i=>
   have:=ih (fun y hy=>he y (List.mem_cons_of_mem _ hy)) (i:=i) (by simpa using hi)
   simp only[flat,List.flatMap_cons,List.getD] at this ⊢
   rw[List.getElem?_append_right (by rw[hx,Nat.add_mul];omega),hx,show(i+1)*k+j-k=i*k+j by rw[Nat.add_mul];omega,this]
   simp
theorem qaf (x:D) (j n:Nat):(qab x j n).length=n:=by
 induction n generalizing j with
 | zero=>rfl
 | succ n ih=>simp[qab,ih]
theorem qap (x:D) (j n m:Nat) (h:m<n):(qab x j n).getD m .nil=x.cellAt (j+m):=by
 induction n generalizing j m with
 | zero=>omega
 | succ n ih=>
  cases m with
  | zero=>simp[qab]
  | succ m=>
   have:=ih (j+1) m (by omega)
   simp only[qab,List.getD,List.getElem?_cons_succ] at this ⊢
   rw[this]
   congr 1
   omega
theorem qbm (x:D) (j:Nat) (h:j<x.cells.length):x.cellAt j=x.cells.getD j .nil:=by
 cases x <;> first
  | rfl
  | (simp[D.cells] at h;subst h;rfl)
theorem qak {α : Type}(l:List α) (m:Nat) (h:m<l.length) (d : α):l[m]=l.getD m d:=by simp[List.getD,h]
theorem qaY {l:List D}{c:D}:c∈flat l↔∃ x∈l,c∈x.cells:=by simp[flat,List.mem_flatMap]
theorem qfv {x:D}{j:Nat}(h:j<x.cells.length):x.cells.getD j .nil∈x.cells:=by
 simp[List.getD,h]
theorem FZ.elem {k:Nat}(h:FZ S w x v) (hx:x.isLst k) {i:Nat}(hi:i<x.elems.length) (z:D) :
  ∃ b off cap,v=.slice (some ⟨b,off,none⟩) x.elems.length cap∧FZ S w (.ptr (qab (x.elems.getD i z) 0 k)) (.pointer (some ⟨b,off+i*k,none⟩))∧(x.elems.getD i z).cells.length=k:=by
 cases h <;> simp[D.isLst] at hx <;> simp[D.elems] at hi
 rename_i k' l b off cap f hk he h1 hn hlim hS hc hf
 replace hx:=hx.symm
 subst hx
 have hmem:(D.lst k l).elems.getD i z∈l:=by simp[D.elems,List.getD,hi]
 have hcl:=he _ hmem
 refine⟨b,off,cap,rfl,?_,hcl⟩
 have hfl:=flat_length he
 have hbound : ∀ j,j<k→i*k+j<(flat l).length:=fun j hj=>by
  have hm:=Nat.mul_le_mul_right k hi
  have he1:i.succ*k=i*k+k:=Nat.succ_mul i k
  have e2:(flat l).length=l.length*k:=hfl
  omega
 have hcell : ∀ j,j<k→((D.lst k l).elems.getD i z).cellAt j=(flat l).getD (i*k+j) .nil:=fun j hj=>by
  rw[qbm _ _ (by rw[hcl];exact hj),qaF he hi hj z]
  rfl
 refine .ptr (fun j=>f (i*k+j)) hS ?_ ?_ ?_
 ·intro c hc
  obtain⟨m,hm,rfl⟩:=List.getElem_of_mem hc
  rw[qaf] at hm
  have e':(qab ((D.lst k l).elems.getD i z) 0 k)[m]'(by rw[qaf];exact hm)=((D.lst k l).elems.getD i z).cells.getD m .nil:=by
   have e:=qap ((D.lst k l).elems.getD i z) 0 k m hm
   rw[Nat.zero_add,qbm _ _ (by rw[hcl];exact hm)] at e
   rw[←e]
   exact qak _ _ _ _
  rw[e']
  exact h1 _ (qaY.2 ⟨_,hmem,qfv (by rw[hcl];exact hm)⟩)
 ·intro j hj
  rw[qaf] at hj
  rw[show off+i*k+j=off+(i*k+j) by omega]
  exact hc _ (hbound j hj)
 ·intro j hj
  rw[qaf] at hj
  rw[qap _ _ _ _ hj,Nat.zero_add,hcell j hj]
  exact hf _ (hbound j hj)
theorem FZ.ptr_inv (h:FZ S w x v) (hx:x.isPtr) : ∃ b off,v=.pointer (some ⟨b,off,none⟩)∧S b∧(∀ c∈x.ptrs,c.one=true)∧
  ∃ f:Nat→Value,(∀ j,j<x.ptrs.length→w.cell? ⟨b,off+j,none⟩=some (f j))∧∀ j,j<x.ptrs.length→FZ S w (x.ptrs.getD j .nil) (f j):=by
 cases h <;> simp[D.isPtr] at hx
 rename_i cs b off f hS h1 hc hf
 exact⟨b,off,rfl,hS,h1,f,hc,hf⟩
end
end Go.VL
namespace Go.VL
section types
variable {P:Program}{t:Nat}{ti:TI}(h:TIOK P t ti) (w:World)
include h
theorem TIOK.run_sizeOf:(sizeOf t).run P w=.ok ti.size w:=by
 obtain⟨i,d,h1,h2,h3,h4,h5,h6⟩:=h.ex
 simp[sizeOf,typeInfo,h1,h2]
theorem TIOK.run_isAgg:(isAgg t).run P w=.ok ti.ty.agg w:=by
 obtain⟨i,d,h1,h2,h3,h4,h5,h6⟩:=h.ex
 simp only[isAgg,Sem.run_bind,run_underlying h5,Result.andThen_ok]
 rw[←h6]
 cases d <;> rfl
theorem TIOK.run_zero:(zeroValue t).run P w=.ok (qac ti.zero) w:=by
 obtain⟨i,d,h1,h2,h3,h4,h5,h6⟩:=h.ex
 simp[zeroValue,typeInfo,h1,h4]
theorem TIOK.und_slice {e:Nat}(hy:ti.ty=.slice e):P.underlying t=some (.slice e):=by
 obtain⟨i,d,h1,h2,h3,h4,h5,h6⟩:=h.ex
 rw[h5]
 rw[hy] at h6
 cases d <;> simp_all[tyOf]
theorem TIOK.und_array {n e:Nat}(hy:ti.ty=.array n e):P.underlying t=some (.array n e):=by
 obtain⟨i,d,h1,h2,h3,h4,h5,h6⟩:=h.ex
 rw[h5]
 rw[hy] at h6
 cases d <;> simp_all[tyOf]
theorem TIOK.und_int {k:IntKind}(hy:ti.ty=.int k):P.underlying t=some (.int k):=by
 obtain⟨i,d,h1,h2,h3,h4,h5,h6⟩:=h.ex
 rw[h5]
 rw[hy] at h6
 cases d <;> simp_all[tyOf]
theorem TIOK.und_string (hy:ti.ty=.string):P.underlying t=some .string:=by
 obtain⟨i,d,h1,h2,h3,h4,h5,h6⟩:=h.ex
 rw[h5]
 rw[hy] at h6
 cases d <;> simp_all[tyOf]
theorem TIOK.und_bool (hy:ti.ty=.bool):P.underlying t=some .bool:=by
 obtain⟨i,d,h1,h2,h3,h4,h5,h6⟩:=h.ex
 rw[h5]
 rw[hy] at h6
 cases d <;> simp_all[tyOf]
theorem TIOK.und_struct {fs:List (Nat×Nat)}(hy:ti.ty=.struct fs) : ∃ fields,P.underlying t=some (.struct fields)∧fs=fields.toList.map fun f=>(f.offset,f.type):=by
 obtain⟨i,d,h1,h2,h3,h4,h5,h6⟩:=h.ex
 rw[h5]
 rw[hy] at h6
 cases d <;> simp_all[tyOf]
end types
def Agree (w w2:World):Prop:=∀ b,b<w.heap.size→w2.heap[b]?=w.heap[b]?
theorem Agree.refl (w:World):Agree w w:=fun _ _=>rfl
theorem Agree.cell {w w2:World}(h:Agree w w2) {b o:Nat}{v:Value}(hc:w.cell? ⟨b,o,none⟩=some v):w2.cell? ⟨b,o,none⟩=some v:=by
 rw[cell_of_heap (h b (World.block_lt_of_cell? w _ hc))]
 exact hc
theorem Agree.heap {w w2:World}(h:Agree w w2) {b:Nat}{o:Obj}(hc:w.heap[b]?=some o):w2.heap[b]?=some o:=by
 rw[h b (Array.getElem?_eq_some_iff.1 hc).1]
 exact hc
def evx (fr:Fr) (o:Operand):I:=
 match ev fr o with
 | .cond _ x=>x
 | x=>x
def evc (fr:Fr) (o:Operand):Prop:=
 match ev fr o with
 | .cond e _=>e=true
 | _=>True
def tnorm:Ty→D→D
 | .int k,x=>.int k x.toInt
 | .bool,x=>.bool x.toBool
 | _,x=>x
def tchk:Ty→D→Prop
 | .int k,x=>x.isInt k
 | .bool,x=>x.isBool
 | _,x=>x.one=true
def tnormI (t:Ty):I→I
 | .d x=>.d (tnorm t x)
 | x=>x
def qde (t:Ty):I→Prop
 | .d x=>tchk t x
 | .agg _=>False
 | .tup _=>False
 | _=>True
def allD:List I→Option (List D)
 | []=>some []
 | .d x::r=>match allD r with
  | some l=>some (x::l)
  | none=>none
 | _::_=>none
def oneI:I→Prop
 | .d x=>x.one=true
 | _=>True
def mkAgg (cs:List I):I:=
 match allD cs with
 | some ds=>.d (.agg ds)
 | none=>.agg cs
def qa1:List I→Prop
 | []=>True
 | x::r=>oneI x∧qa1 r
def slTy:Ty→Bool
 | .int _=>false
 | .bool=>false
 | _=>true
def qdG (z:D):Bool:=z.cells.any D.isNil
def qaK (k:Nat) (hs:List (Nat×Nat×I)) (idx:Nat) (c:D):List D→Nat→Option (Prop×List I)
 | [],_=>some (True,[])
 | .nil::r,off=>
  match qan k hs (idx*k+off),qaK k hs idx c r (off+1) with
  | some x,some (vc,xs)=>some (vc,x::xs)
  | _,_=>none
 | _::r,off=>
  match qaK k hs idx c r (off+1) with
  | some (vc,xs)=>some ((c.cellAt off).scalar=true∧vc,.d (c.cellAt off)::xs)
  | none=>none
def qbv (T:Nat→Option TI) (H:List R) (t:Nat) (p:I):Option (Prop×I):=
 match T t,p with
 | some ti,.d pd=>
  match ti.ty.agg with
  | true=>some (pd.isPtr∧ti.size≤pd.ptrs.length,.d (.agg (pd.ptrs.take ti.size)))
  | false=>some (pd.isPtr∧0<pd.ptrs.length∧tchk ti.ty (pd.ptrs.getD 0 .nil),.d (tnorm ti.ty (pd.ptrs.getD 0 .nil)))
 | some ti,.ptr i off=>
  match H[i]? with
  | some (.box cs)=>
   match ti.ty.agg with
   | true=>some (off+ti.size≤cs.length∧qa1 ((cs.drop off).take ti.size),mkAgg ((cs.drop off).take ti.size))
   | false=>some (off<cs.length∧qde ti.ty (cs.getD off .junk),tnormI ti.ty (cs.getD off .junk))
  | _=>none
 | some ti,.eptr i g k idx off z=>
  match H[i]? with
  | some (.row g' k' .fz l)=>
   match ti.ty.agg with
   | true=>some (g=g'∧k=k'∧idx<l.length∧off+ti.size≤k,.d (.agg (qab (l.getD idx z) off ti.size)))
   | false=>some (g=g'∧k=k'∧idx<l.length∧off<k∧tchk ti.ty ((l.getD idx z).cellAt off),.d (tnorm ti.ty ((l.getD idx z).cellAt off)))
  | some (.row g' k' (.own hs) l)=>
   match ti.ty.agg with
   | true=>
    match qdG ti.zero,hs with
    | false,[]=>some (g=g'∧k=k'∧idx<l.length∧off+ti.size≤k∧∀ c∈qab (l.getD idx z) off ti.size,c.scalar=true,.d (.agg (qab (l.getD idx z) off ti.size)))
    | _,_=>
     match qaK k' hs idx (l.getD idx z) ti.zero.cells off with
     | some (vc,xs)=>some (g=g'∧k=k'∧idx<l.length∧off+ti.size≤k∧ti.zero.cells.length=ti.size∧vc∧qa1 xs,mkAgg xs)
     | none=>none
   | false=>
    match slTy ti.ty with
    | false=>some (g=g'∧k=k'∧idx<l.length∧off<k∧tchk ti.ty ((l.getD idx z).cellAt off),.d (tnorm ti.ty ((l.getD idx z).cellAt off)))
    | true=>
     match qan k' hs (idx*k'+off) with
     | some x=>some (g=g'∧k=k'∧idx<l.length∧off<k∧qde ti.ty x,tnormI ti.ty x)
     | none=>none
  | _=>none
 | _,_=>none
theorem qk1 {t:Ty}{x:D}(h:tchk t x) {S:Nat→Prop}{w:World}{v:Value}(hv:FZ S w x v):tnorm t x=x:=by
 cases t <;> first
  | rfl
  | (simp only[tnorm];exact(hv.int_inv h).1.symm)
  | (simp only[tnorm];exact(hv.bool_inv h).1.symm)
theorem FZ.tnorm {t:Ty}{x:D}{S:Nat→Prop}{w:World}{v:Value}(hv:FZ S w x v) (h:tchk t x):FZ S w (tnorm t x) v:=by
 rw[qk1 h hv];exact hv
theorem qeI {w:World}{x:D}{v:Value}{fp:List Nat}(h:OW w x v fp) (hx:x.scalar=true) (S:Nat→Prop):FZ S w x v:=by
 cases h <;> simp[D.scalar] at hx
 ·exact .int (by assumption)
 ·exact .bool
 ·exact .raw (by assumption)
 ·exact .nil
theorem qhe {t:Ty}{x:D}(ht:(∃ k,t=.int k)∨t=.bool) (h:tchk t x):x.scalar=true:=by
 rcases ht with⟨k,rfl⟩|rfl <;> cases x <;> simp_all[tchk,D.isInt,D.isBool,D.scalar]
variable {P:Program}{S:Nat→Prop}{φ : List (List Nat)}{H:List R}{w:World}
theorem qbn {t:Nat}{ti:TI}(ht:TIOK P t ti) (hy:ti.ty.agg=true) {b off:Nat}{f:Nat→Value}{w:World}
  (hc : ∀ j,j<ti.size→w.cell? ⟨b,off+j,none⟩=some (f j)) :
  (loadVar t ⟨b,off,none⟩).run P w=.ok (.agg ((List.range ti.size).map f).toArray) w:=by
 simp only[loadVar,Sem.run_bind,ht.run_isAgg,hy,Result.andThen_ok,if_true,ht.run_sizeOf]
 rw[run_loadCells w ⟨b,off,none⟩ ti.size f (fun j hj=>by rw[Addr.add_lit];exact hc j hj)]
 rfl
theorem qbo {t:Nat}{ti:TI}(ht:TIOK P t ti) (hy:ti.ty.agg=false) {b off:Nat}{v:Value}{w:World}
  (hc:w.cell? ⟨b,off,none⟩=some v):(loadVar t ⟨b,off,none⟩).run P w=.ok v w:=by
 simp only[loadVar,Sem.run_bind,ht.run_isAgg,hy,Result.andThen_ok,Bool.false_eq_true,if_false,run_load,hc]
theorem qb4 (n:Nat) (f:Nat→Value) (j:Nat) (h:j<n):((List.range n).map f).toArray.getD j undef=f j:=by
 simp[Array.getD,h]
theorem qdH {cs:List D}{n:Nat}{f:Nat→Value}(hn:cs.length=n) (h1 : ∀ c∈cs,c.one=true) (h : ∀ j,j<n→FZ S w (cs.getD j .nil) (f j)) :
  FZ S w (.agg cs) (.agg ((List.range n).map f).toArray):=
 .agg (by simp[hn]) h1 fun j hj=>by rw[qb4 n f j (by omega)];exact h j (by omega)
theorem getD_mem {α : Type}{l:List α}{j:Nat}{d : α}(h:j<l.length):l.getD j d∈l:=by simp[List.getD,h]
theorem getD_take {α : Type}(l:List α) (n j:Nat) (d : α) (h:j<n):(l.take n).getD j d=l.getD j d:=by
 simp[List.getD,List.getElem?_take,h]
theorem getD_drop {α : Type}(l:List α) (n j:Nat) (d : α):(l.drop n).getD j d=l.getD (n+j) d:=by
 simp[List.getD,List.getElem?_drop]
theorem qeJ : ∀ {cs:List I}{ds:List D},allD cs=some ds→cs.length=ds.length∧∀ j,j<cs.length→cs.getD j .junk=.d (ds.getD j .nil)
 | [],ds,h=>by simp[allD] at h;subst h;simp
 | .d x::r,ds,h=>by
  simp only[allD] at h
  split at h
  ·rename_i l hl
   simp at h
   subst h
   obtain⟨h1,h2⟩:=qeJ hl
   refine⟨by simp[h1],?_⟩
   intro j hj
   cases j with
   | zero=>simp[List.getD]
   | succ j=>simpa [List.getD] using h2 j (by simpa using hj)
  ·simp at h
 | .agg _::_,ds,h|.sl .. :: _,ds,h|.ptr .. :: _,ds,h|.eptr .. :: _,ds,h|.bor .. :: _,ds,h|.bptr .. :: _,ds,h|.map _::_,ds,h
 | .fn .. :: _,ds,h|.tup _::_,ds,h|.own _::_,ds,h|.cond .. :: _,ds,h|.junk::_,ds,h=>by simp[allD] at h
theorem qeK : ∀ {cs:List I},qa1 cs→∀ j,j<cs.length→oneI (cs.getD j .junk)
 | [],_,j,hj=>by simp at hj
 | x::r,h,0,_=>by simpa [List.getD] using h.1
 | x::r,h,j+1,hj=>by simpa [List.getD] using qeK h.2 j (by simpa using hj)
theorem V.mkAgg {cs:List I}{n:Nat}{f:Nat→Value}(hn:cs.length=n) (h1:qa1 cs) (ho : ∀ j,j<n→(f j).oneCell'=true) (h : ∀ j,j<n→V S φ H w (cs.getD j .junk) (f j)) :
  V S φ H w (mkAgg cs) (.agg ((List.range n).map f).toArray):=by
 unfold VL.mkAgg
 split
 ·rename_i ds hds
  obtain⟨hl,hd⟩:=qeJ hds
  refine .d (qdH (by omega) ?_ ?_)
  ·intro c hc
   obtain⟨j,hj,rfl⟩:=List.getElem_of_mem hc
   have:=qeK h1 j (by omega)
   rw[hd j (by omega)] at this
   rw[qak _ _ _ .nil]
   exact this
  ·intro j hj
   have:=h j hj
   rw[hd j (by omega)] at this
   exact this.fz
 ·refine .agg (by simp[hn]) ?_ ?_
  ·intro j hj
   rw[qb4 n f j (by omega)]
   exact ho j (by omega)
  ·intro j hj
   rw[qb4 n f j (by omega)]
   exact h j (by omega)
theorem qbx {c:D}{v:Value}{fp:List Nat}{o:Option I}(h:CellRel S φ H w c v fp o) (hc:c.scalar=true):o=none∧fp=[]∧FZ S w c v:=by
 cases o with
 | none=>
  refine⟨rfl,?_,qeI h hc S⟩
  cases h <;> first|rfl|simp[D.scalar] at hc
 | some x=>exact absurd hc (by rw[h.2.1];simp)
theorem qk2 (s:Sim S φ H w) {i g k:Nat}{dp:DP}{l:List D}(hi:H[i]?=some (.row g k dp l)) {idx off:Nat}(hidx:idx<l.length) (hoff:off<k) (z:D) :
  ∃ b rest v,φ.getD i []=b::rest∧w.cell? ⟨b,idx*k+off,none⟩=some v∧((l.getD idx z).cellAt off).one=true∧
   (dp.o=false→FZ S w ((l.getD idx z).cellAt off) v)∧(∀ hs,dp=.own hs→∃ fp,CellRel S φ H w ((l.getD idx z).cellAt off) v fp (qan k hs (idx*k+off))):=by
 obtain⟨hk,he,h1,hlim,h⟩:=s.rel i _ hi
 rcases h with⟨_,rfl⟩|⟨b,rest,arr,ty,hfp,hb,hsz,hr⟩
 ·simp at hidx
 ·have hm:=Nat.mul_le_mul_right k hidx
  rw[Nat.succ_mul] at hm
  have hj:idx*k+off<arr.size:=by omega
  have hjf:idx*k+off<(flat l).length:=by rw[flat_length he];omega
  have hmem:l.getD idx z∈l:=by simp[List.getD,hidx]
  have hcl:=he _ hmem
  have hc:(l.getD idx z).cellAt off=(flat l).getD (idx*k+off) .nil:=by
   rw[qbm _ _ (by omega),qaF he hidx hoff z]
  refine⟨b,rest,arr.getD (idx*k+off) undef,hfp,by simp[World.cell?,hb,Array.getD,hj],?_,?_,?_⟩
  ·rw[hc]
   refine h1 _ ?_
   simp[List.getD,hjf]
  ·intro hd
   cases dp with
   | own hs=>simp[DP.o] at hd
   | fz=>
    rw[hc]
    exact hr.2 _ hjf
  ·intro hs hd
   subst hd
   obtain⟨F,_,_,hF⟩:=hr
   exact⟨F (idx*k+off),by rw[hc];exact hF _ hjf⟩
theorem qef {k:Nat}{hs:List (Nat×Nat×I)}{idx:Nat}{c:D} : ∀ {zs:List D}{off:Nat}{vc:Prop}{xs:List I}(f:Nat→Value),
  (∀ j,j<zs.length→∃ fp,CellRel S φ H w (c.cellAt (off+j)) (f j) fp (qan k hs (idx*k+(off+j))))→(∀ j,j<zs.length→(c.cellAt (off+j)).one=true)→
  qaK k hs idx c zs off=some (vc,xs)→vc→xs.length=zs.length∧∀ j,j<zs.length→(f j).oneCell'=true∧V S φ H w (xs.getD j .junk) (f j)
 | [],off,vc,xs,f,hf,h1,h,hvc=>by
  simp only[qaK,Option.some.injEq,Prod.mk.injEq] at h
  obtain⟨_,rfl⟩:=h
  simp
 | z::r,off,vc,xs,f,hf,h1,h,hvc=>by
  have step : ∀ {x:I}{vc':Prop}{ys:List I},qaK k hs idx c r (off+1)=some (vc',ys)→vc'→(f 0).oneCell'=true→V S φ H w x (f 0)→
    (x::ys).length=(z::r).length∧∀ j,j<(z::r).length→(f j).oneCell'=true∧V S φ H w ((x::ys).getD j .junk) (f j):=by
   intro x vc' ys hy hvc' ho hv
   obtain⟨q1,q2⟩:=qef (fun j=>f (j+1)) (fun j hj=>by
    have:=hf (j+1) (by simp;omega)
    rw[show off+(j+1)=off+1+j by omega] at this
    exact this) (fun j hj=>by
    have:=h1 (j+1) (by simp;omega)
    rw[show off+(j+1)=off+1+j by omega] at this
    exact this) hy hvc'
   refine⟨by simp[q1],fun j hj=>?_⟩
   cases j with
   | zero=>exact⟨ho,by simpa [List.getD] using hv⟩
   | succ j=>simpa [List.getD] using q2 j (by simpa using hj)
  have scal : ∀ {vc':Prop}{ys:List I},qaK k hs idx c r (off+1)=some (vc',ys)→vc'→(c.cellAt off).scalar=true→
    (I.d (c.cellAt off)::ys).length=(z::r).length∧∀ j,j<(z::r).length→(f j).oneCell'=true∧V S φ H w ((I.d (c.cellAt off)::ys).getD j .junk) (f j):=by
   intro vc' ys hy hvc' hsc
   obtain⟨fp,hc⟩:=hf 0 (by simp)
   have hz:=(qbx hc (by simpa using hsc)).2.2
   exact step hy hvc' (hz.one (by simpa using h1 0 (by simp))) (.d (by simpa using hz))
  have hole:z=.nil→(xs.length=(z::r).length∧∀ j,j<(z::r).length→(f j).oneCell'=true∧V S φ H w (xs.getD j .junk) (f j)):=by
   rintro rfl
   simp only[qaK] at h
   split at h
   ·rename_i x vc' ys hx hy
    simp only[Option.some.injEq,Prod.mk.injEq] at h
    obtain⟨rfl,rfl⟩:=h
    obtain⟨fp,hc⟩:=hf 0 (by simp)
    simp only[Nat.add_zero,hx] at hc
    exact step hy hvc hc.2.2.1 hc.2.2.2
   ·simp at h
  cases z with
  | nil=>exact hole rfl
  | _=>
   simp only[qaK] at h
   split at h
   ·rename_i vc' ys hy
    simp only[Option.some.injEq,Prod.mk.injEq] at h
    obtain⟨rfl,rfl⟩:=h
    exact scal hy hvc.2 hvc.1
   ·simp at h
theorem qhK (s:Sim S φ H w) {i:Nat}{cs:List I}(hi:H[i]?=some (.box cs)) : ∃ b,φ.getD i []=[b]∧
  ∃ f:Nat→Value,∀ j,j<cs.length→w.cell? ⟨b,j,none⟩=some (f j)∧(f j).oneCell'=true∧V S φ H w (cs.getD j .junk) (f j):=by
 obtain⟨b,arr,ty,hfp,hb,hsz,hv⟩:=s.rel i _ hi
 exact⟨b,hfp,fun j=>arr.getD j undef,fun j hj=>⟨by simp[World.cell?,hb,Array.getD,show j<arr.size by omega],(hv j hj).1,(hv j hj).2⟩⟩
theorem qeg {T:Nat→Option TI}(hT:TOK P T) (s:Sim S φ H w) {t:Nat}{p:I}{vp:Value}(hp:V S φ H w p vp) {vc:Prop}{x:I}
  (h:qbv T H t p=some (vc,x)) (hvc:vc) : ∃ v,V S φ H w x v∧∀ w2,Agree w w2→(Instr.loadAt t vp).run P w2=.ok v w2:=by
 unfold qbv at h
 split at h
 ·rename_i ti pd hti
  have ht:=hT _ _ hti
  have hfz:=hp.fz
  split at h
  ·rename_i hagg
   simp only[Option.some.injEq,Prod.mk.injEq] at h
   obtain⟨rfl,rfl⟩:=h
   obtain⟨hptr,hsz⟩:=hvc
   obtain⟨b,off,rfl,hS,h1,f,hc,hf⟩:=hfz.ptr_inv hptr
   refine⟨_,.d (qdH (f:=f) (n:=ti.size) (by simp;omega) (fun c hc=>h1 c (List.mem_of_mem_take hc)) ?_),?_⟩
   ·intro j hj
    rw[getD_take _ _ _ _ hj]
    exact hf j (by omega)
   ·intro w2 hw2
    simp only[Instr.loadAt,Instr.sureAddr,Sem.run_bind,Sem.run_pure,Result.andThen_ok]
    exact qbn ht hagg fun j hj=>hw2.cell (hc j (by omega))
  ·rename_i hagg
   simp only[Option.some.injEq,Prod.mk.injEq] at h
   obtain⟨rfl,rfl⟩:=h
   obtain⟨hptr,hsz,hchk⟩:=hvc
   obtain⟨b,off,rfl,hS,h1,f,hc,hf⟩:=hfz.ptr_inv hptr
   refine⟨f 0,.d ((hf 0 hsz).tnorm hchk),?_⟩
   intro w2 hw2
   simp only[Instr.loadAt,Instr.sureAddr,Sem.run_bind,Sem.run_pure,Result.andThen_ok]
   exact qbo ht hagg (by simpa using hw2.cell (hc 0 hsz))
 ·rename_i ti i off hti
  have ht:=hT _ _ hti
  split at h
  ·rename_i cs hi
   cases hp with
   | ptr hlt hrel h1=>
    obtain⟨b,hfp,rfl⟩:=hrel cs hi
    obtain⟨b',hfp',f,hf⟩:=qhK s hi
    rw[hfp] at hfp'
    simp at hfp'
    subst hfp'
    split at h
    ·rename_i hagg
     simp only[Option.some.injEq,Prod.mk.injEq] at h
     obtain⟨rfl,rfl⟩:=h
     obtain⟨hsz,hone⟩:=hvc
     refine⟨_,V.mkAgg (f:=fun j=>f (off+j)) (n:=ti.size) (by simp;omega) hone (fun j hj=>(hf (off+j) (by omega)).2.1) ?_,?_⟩
     ·intro j hj
      rw[getD_take _ _ _ _ hj,getD_drop]
      exact(hf (off+j) (by omega)).2.2
     ·intro w2 hw2
      simp only[Instr.loadAt,Instr.sureAddr,Sem.run_bind,Sem.run_pure,Result.andThen_ok]
      exact qbn ht hagg fun j hj=>hw2.cell (hf (off+j) (by omega)).1
    ·rename_i hagg
     simp only[Option.some.injEq,Prod.mk.injEq] at h
     obtain⟨rfl,rfl⟩:=h
     obtain⟨hsz,hchk⟩:=hvc
     obtain⟨hc,ho,hv⟩:=hf off hsz
     refine⟨f off,?_,?_⟩
     ·generalize cs.getD off .junk=y at *
      cases y <;> first
       | exact hv
       | exact .d (hv.fz.tnorm hchk)
     ·intro w2 hw2
      simp only[Instr.loadAt,Instr.sureAddr,Sem.run_bind,Sem.run_pure,Result.andThen_ok]
      exact qbo ht hagg (hw2.cell hc)
  ·simp at h
 ·rename_i ti i g k idx off z hti
  have ht:=hT _ _ hti
  have main : ∀ {g' k':Nat}{dp:DP}{l:List D},H[i]?=some (.row g' k' dp l)→g=g'∧k=k'→idx<l.length→0<k'∧∃ b,vp=.pointer (some ⟨b,idx*k+off,none⟩)∧∀ off',off'<k→
    ∃ v,w.cell? ⟨b,idx*k+off',none⟩=some v∧((l.getD idx z).cellAt off').one=true∧(dp.o=false→FZ S w ((l.getD idx z).cellAt off') v)∧
     (∀ hs,dp=.own hs→∃ fp,CellRel S φ H w ((l.getD idx z).cellAt off') v fp (qan k' hs (idx*k'+off'))):=by
   rintro g' k' dp l hi ⟨rfl,rfl⟩ hidx
   have hk0:0<k:=(s.rel i _ hi).1
   cases hp with
   | eptr hlt hg hrel h1=>
    obtain⟨b,rest,hfp,rfl⟩:=hrel dp l hi
    refine⟨hk0,b,rfl,fun off' hoff=>?_⟩
    obtain⟨b',rest',v,hfp',hc,hone,h2,h3⟩:=qk2 s hi hidx hoff z
    rw[hfp] at hfp'
    simp at hfp'
    obtain⟨rfl,rfl⟩:=hfp'
    exact⟨v,hc,hone,h2,h3⟩
  have agg : ∀ {b:Nat}{k:Nat}{c:D},ti.ty.agg=true→vp=.pointer (some ⟨b,idx*k+off,none⟩)→(∀ j,j<ti.size→∃ v,w.cell? ⟨b,idx*k+(off+j),none⟩=some v∧(c.cellAt (off+j)).one=true∧FZ S w (c.cellAt (off+j)) v)→
    ∃ v,V S φ H w (.d (.agg (qab c off ti.size))) v∧∀ w2,Agree w w2→(Instr.loadAt t vp).run P w2=.ok v w2:=by
   intro b k c hagg hvp hall
   subst hvp
   have hc : ∀ j,j<ti.size→w.cell? ⟨b,idx*k+off+j,none⟩=some ((w.cell? ⟨b,idx*k+off+j,none⟩).getD undef):=by
    intro j hj
    obtain⟨v,hv,_⟩:=hall j hj
    rw[Nat.add_assoc,hv];rfl
   refine⟨_,.d (qdH (f:=fun j=>(w.cell? ⟨b,idx*k+off+j,none⟩).getD undef) (n:=ti.size) (qaf _ _ _) ?_ ?_),?_⟩
   ·intro c' hc'
    obtain⟨j,hj,rfl⟩:=List.getElem_of_mem hc'
    rw[qaf] at hj
    rw[qak _ _ _ .nil,qap _ _ _ _ hj]
    obtain⟨v,hv,h1,_⟩:=hall j hj
    exact h1
   ·intro j hj
    rw[qap _ _ _ _ hj]
    obtain⟨v,hv,_,h2⟩:=hall j hj
    rw[Nat.add_assoc,hv]
    exact h2
   ·intro w2 hw2
    simp only[Instr.loadAt,Instr.sureAddr,Sem.run_bind,Sem.run_pure,Result.andThen_ok]
    exact qbn ht hagg fun j hj=>hw2.cell (hc j hj)
  have one : ∀ {b:Nat}{k:Nat}{c:D}{v:Value},ti.ty.agg=false→vp=.pointer (some ⟨b,idx*k+off,none⟩)→w.cell? ⟨b,idx*k+off,none⟩=some v→tchk ti.ty c→FZ S w c v→
    ∃ v,V S φ H w (.d (tnorm ti.ty c)) v∧∀ w2,Agree w w2→(Instr.loadAt t vp).run P w2=.ok v w2:=by
   intro b k c v hagg hvp hc hchk hz
   subst hvp
   refine⟨v,.d (FZ.tnorm hz hchk),?_⟩
   intro w2 hw2
   simp only[Instr.loadAt,Instr.sureAddr,Sem.run_bind,Sem.run_pure,Result.andThen_ok]
   exact qbo ht hagg (hw2.cell hc)
  split at h
  ·rename_i g' k' l hi
   split at h
   ·rename_i hagg
    simp only[Option.some.injEq,Prod.mk.injEq] at h
    obtain⟨rfl,rfl⟩:=h
    obtain⟨hk0,b,hvp,hall⟩:=main hi ⟨hvc.1,hvc.2.1⟩ hvc.2.2.1
    refine agg hagg hvp fun j hj=>?_
    obtain⟨v,q1,q2,q3,_⟩:=hall (off+j) (by omega)
    exact⟨v,q1,q2,q3 rfl⟩
   ·rename_i hagg
    simp only[Option.some.injEq,Prod.mk.injEq] at h
    obtain⟨rfl,rfl⟩:=h
    obtain⟨hk0,b,hvp,hall⟩:=main hi ⟨hvc.1,hvc.2.1⟩ hvc.2.2.1
    obtain⟨v,q1,q2,q3,_⟩:=hall off hvc.2.2.2.1
    exact one hagg hvp q1 hvc.2.2.2.2 (q3 rfl)
  ·rename_i g' k' hs l hi
   split at h
   ·rename_i hagg
    split at h
    ·simp only[Option.some.injEq,Prod.mk.injEq] at h
     obtain⟨rfl,rfl⟩:=h
     obtain⟨hk0,b,hvp,hall⟩:=main hi ⟨hvc.1,hvc.2.1⟩ hvc.2.2.1
     refine agg hagg hvp fun j hj=>?_
     obtain⟨v,q1,q2,_,q4⟩:=hall (off+j) (by omega)
     obtain⟨fp,hcr⟩:=q4 _ rfl
     refine⟨v,q1,q2,(qbx hcr (hvc.2.2.2.2 _ ?_)).2.2⟩
     have:=qap (l.getD idx z) off ti.size j hj
     rw[←this]
     exact getD_mem (by rw[qaf];exact hj)
    ·split at h
     ·rename_i vc' xs hch
      simp only[Option.some.injEq,Prod.mk.injEq] at h
      obtain⟨rfl,rfl⟩:=h
      obtain⟨hgk1,hgk2,hidx,hfit,hzl,hvc',ho⟩:=hvc
      obtain⟨hk0,b,hvp,hall⟩:=main hi ⟨hgk1,hgk2⟩ hidx
      subst hgk2
      have hc : ∀ j,j<ti.size→w.cell? ⟨b,idx*k+off+j,none⟩=some ((w.cell? ⟨b,idx*k+off+j,none⟩).getD undef):=by
       intro j hj
       obtain⟨v,hv,_⟩:=hall (off+j) (by omega)
       rw[Nat.add_assoc,hv];rfl
      obtain⟨c1,c2⟩:=qef (c:=l.getD idx z) (fun j=>(w.cell? ⟨b,idx*k+off+j,none⟩).getD undef) (fun j hj=>by
       obtain⟨v,q1,q2,_,q4⟩:=hall (off+j) (by omega)
       obtain⟨fp,hcr⟩:=q4 _ rfl
       refine⟨fp,?_⟩
       simp only[Nat.add_assoc,q1,Option.getD_some] at hcr ⊢
       exact hcr) (fun j hj=>by
       obtain⟨v,q1,q2,_⟩:=hall (off+j) (by omega)
       exact q2) hch hvc'
      subst hvp
      refine⟨_,V.mkAgg (f:=fun j=>(w.cell? ⟨b,idx*k+off+j,none⟩).getD undef) (n:=ti.size) (by omega) ho (fun j hj=>(c2 j (by omega)).1) (fun j hj=>(c2 j (by omega)).2),?_⟩
      intro w2 hw2
      simp only[Instr.loadAt,Instr.sureAddr,Sem.run_bind,Sem.run_pure,Result.andThen_ok]
      exact qbn ht hagg fun j hj=>hw2.cell (hc j hj)
     ·simp at h
   ·rename_i hagg
    split at h
    ·rename_i hty
     simp only[Option.some.injEq,Prod.mk.injEq] at h
     obtain⟨rfl,rfl⟩:=h
     obtain⟨hk0,b,hvp,hall⟩:=main hi ⟨hvc.1,hvc.2.1⟩ hvc.2.2.1
     obtain⟨v,q1,q2,_,q4⟩:=hall off hvc.2.2.2.1
     obtain⟨fp,hcr⟩:=q4 _ rfl
     have hty':(∃ k,ti.ty=.int k)∨ti.ty=.bool:=by
      revert hty
      cases ti.ty <;> simp[slTy]
     exact one hagg hvp q1 hvc.2.2.2.2 (qbx hcr (qhe hty' hvc.2.2.2.2)).2.2
    ·split at h
     ·rename_i x hx
      simp only[Option.some.injEq,Prod.mk.injEq] at h
      obtain⟨rfl,rfl⟩:=h
      obtain⟨hgk1,hgk2,hidx,hoff,hchk⟩:=hvc
      obtain⟨hk0,b,hvp,hall⟩:=main hi ⟨hgk1,hgk2⟩ hidx
      obtain⟨v,q1,q2,_,q4⟩:=hall off hoff
      obtain⟨fp,hcr⟩:=q4 _ rfl
      rw[hx] at hcr
      have hv:=hcr.2.2.2
      refine⟨v,?_,?_⟩
      ·cases x <;> first
        | exact hv
        | exact .d (hv.fz.tnorm hchk)
      ·intro w2 hw2
       subst hvp
       simp only[Instr.loadAt,Instr.sureAddr,Sem.run_bind,Sem.run_pure,Result.andThen_ok]
       exact qbo ht hagg (hw2.cell q1)
     ·simp at h
  ·simp at h
 ·simp at h
def qhL (ti:TI):Bool:=
 match ti.ty.agg with
 | true=>qdG ti.zero
 | false=>slTy ti.ty
def qdl (T:Nat→Option TI) (H:List R) (t:Nat) (p:I):Option (Prop×I):=
 match T t,p with
 | some ti,.eptr i _ _ _ _ _=>
  match H[i]? with
  | some (.row _ _ (.own _) _)=>
   match qhL ti with
   | true=>none
   | false=>qbv T H t p
  | _=>qbv T H t p
 | _,_=>qbv T H t p
theorem sLoad_O {T:Nat→Option TI}{t:Nat}{p:I}{q:Prop×I}(h:qdl T H t p=some q):qbv T H t p=some q:=by
 unfold qdl at h
 split at h
 ·split at h
  ·split at h
   ·simp at h
   ·exact h
  ·exact h
 ·exact h
theorem qeL {T:Nat→Option TI}(hT:TOK P T) (s:Sim S φ H w) {t:Nat}{p:I}{vp:Value}(hp:V S φ H w p vp) {vc:Prop}{x:I}
  (h:qdl T H t p=some (vc,x)) (hvc:vc) : ∃ v,V S φ H w x v∧∀ w2,Agree w w2→(Instr.loadAt t vp).run P w2=.ok v w2:=qeg hT s hp (sLoad_O h) hvc
end Go.VL
namespace Go.VL
variable {P:Program}{S:Nat→Prop}{φ : List (List Nat)}{H:List R}{w:World}{T:Nat→Option TI}
def qa8 (T:Nat→Option TI) (H:List R) (s:Nat) (x:I) (f:Nat):Option (Prop×I):=
 match T s with
 | some ti=>
  match ti.ty with
  | .struct fs=>
   match fs[f]? with
   | some (off,ft)=>
    match T ft with
    | some fi=>
     match x with
     | .d pd=>some (0<fi.size∧pd.isPtr,.d (.ptr (pd.ptrs.drop off)))
     | .ptr i o=>
      match H[i]? with
      | some (.box _)=>some (0<fi.size,.ptr i (o+off))
      | _=>none
     | .eptr i g k idx o z=>
      match H[i]? with
      | some (.row g' k' _ _)=>some (0<fi.size∧g=g'∧k=k',.eptr i g k idx (o+off) z)
      | _=>none
     | _=>none
    | none=>none
   | none=>none
  | _=>none
 | none=>none
theorem qdm {s ft:Nat}{ti fi:TI}(ht:TIOK P s ti) (hf:TIOK P ft fi) {fs:List (Nat×Nat)}(hy:ti.ty=.struct fs) {f off:Nat}(hfs:fs[f]?=some (off,ft)) (h0:0<fi.size)
  (a:Addr) (w:World):(Instr.fieldAt s (.pointer (some a)) f).run P w=.ok (.pointer (some (a.add off))) w:=by
 obtain⟨fields,hu,rfl⟩:=ht.und_struct hy
 simp only[List.getElem?_map,Option.map_eq_some_iff] at hfs
 obtain⟨fd,hfd,he⟩:=hfs
 simp only[Prod.mk.injEq] at he
 obtain⟨rfl,rfl⟩:=he
 have hfd':fields[f]?=some fd:=by simpa using hfd
 simp only[Instr.fieldAt,Sem.run_bind,run_underlying hu,Result.andThen_ok,hfd',Instr.sureAddr,Sem.run_pure,fieldPlace,hf.run_sizeOf]
 rw[if_neg (by omega)]
 simp
theorem FZ.drop {x:D}{v:Value}(h:FZ S w x v) (hx:x.isPtr) (n:Nat) : ∃ b off,v=.pointer (some ⟨b,off,none⟩)∧FZ S w (.ptr (x.ptrs.drop n)) (.pointer (some ⟨b,off+n,none⟩)):=by
 obtain⟨b,off,rfl,hS,h1,f,hc,hf⟩:=h.ptr_inv hx
 refine⟨b,off,rfl,.ptr (fun j=>f (n+j)) hS (fun c hc=>h1 c (List.mem_of_mem_drop hc)) ?_ ?_⟩
 ·intro j hj
  rw[Nat.add_assoc]
  exact hc _ (by simp at hj;omega)
 ·intro j hj
  rw[getD_drop]
  exact hf _ (by simp at hj;omega)
theorem qet (hT:TOK P T) {s f:Nat}{x:I}{vx:Value}(hx:V S φ H w x vx) {vc:Prop}{y:I}(h:qa8 T H s x f=some (vc,y)) (hvc:vc) :
  ∃ v,V S φ H w y v∧∀ w2,(Instr.fieldAt s vx f).run P w2=.ok v w2:=by
 unfold qa8 at h
 split at h
 ·rename_i ti hti
  split at h
  ·rename_i fs hy
   split at h
   ·rename_i off ft hfs
    split at h
    ·rename_i fi hfi
     split at h
     ·simp only[Option.some.injEq,Prod.mk.injEq] at h
      obtain⟨rfl,rfl⟩:=h
      obtain⟨b,o,rfl,hz⟩:=hx.fz.drop hvc.2 off
      refine⟨_,.d hz,fun w2=>?_⟩
      rw[qdm (hT _ _ hti) (hT _ _ hfi) hy hfs hvc.1,Addr.add_lit]
     ·rename_i i o
      split at h
      ·rename_i cs hi
       simp only[Option.some.injEq,Prod.mk.injEq] at h
       obtain⟨rfl,rfl⟩:=h
       cases hx with
       | ptr hlt hrel h1=>
        obtain⟨b,hb,rfl⟩:=hrel cs hi
        refine⟨.pointer (some ⟨b,o+off,none⟩),.ptr hlt (fun cs' hcs=>?_) rfl,fun w2=>?_⟩
        ·obtain⟨b',hb',he⟩:=hrel cs' hcs
         simp at he
         subst he
         exact⟨b,hb,rfl⟩
        ·rw[qdm (hT _ _ hti) (hT _ _ hfi) hy hfs hvc,Addr.add_lit]
      ·simp at h
     ·rename_i i g k idx o z
      split at h
      ·rename_i g' k' dp l hi
       simp only[Option.some.injEq,Prod.mk.injEq] at h
       obtain⟨rfl,rfl⟩:=h
       obtain⟨h0,rfl,rfl⟩:=hvc
       cases hx with
       | eptr hlt hg hrel h1=>
        obtain⟨b,rest,hb,rfl⟩:=hrel dp l hi
        refine⟨.pointer (some ⟨b,idx*k+(o+off),none⟩),.eptr hlt hg (fun dp' l' hl'=>?_) rfl,fun w2=>?_⟩
        ·obtain⟨b',rest',hb',he⟩:=hrel dp' l' hl'
         simp at he
         subst he
         exact⟨b,rest,hb,rfl⟩
        ·rw[qdm (hT _ _ hti) (hT _ _ hfi) hy hfs h0,Addr.add_lit,Nat.add_assoc]
      ·simp at h
     ·simp at h
    ·simp at h
   ·simp at h
  ·simp at h
 ·simp at h
def qa9 (T:Nat→Option TI) (H:List R) (t:Nat) (x ix:I):Option (Prop×I):=
 match T t,ix with
 | some ti,.d iv=>
  match ti.ty with
  | .slice e=>
   match T e with
   | some ei=>
    match x with
    | .d xd=>some (xd.isLst ei.size∧iv.isInt .i64∧0≤iv.toInt∧iv.toInt<xd.elems.length,.d (.ptr (qab (xd.elems.getD iv.toInt.toNat ei.zero) 0 ei.size)))
    | .sl i g k lo n=>
     match H[i]? with
     | some (.row g' k' _ _)=>some (g=g'∧k=k'∧k=ei.size∧iv.isInt .i64∧0≤iv.toInt∧iv.toInt<n,.eptr i g k (lo+iv.toInt.toNat) 0 ei.zero)
     | _=>none
    | _=>none
   | none=>none
  | .array n e=>
   match T e with
   | some ei=>
    match x with
    | .d xd=>some (xd.isPtr∧iv.isInt .i64∧0≤iv.toInt∧iv.toInt<n,.d (.ptr (xd.ptrs.drop (iv.toInt.toNat*ei.size))))
    | .ptr i off=>
     match H[i]? with
     | some (.box _)=>some (iv.isInt .i64∧0≤iv.toInt∧iv.toInt<n,.ptr i (off+iv.toInt.toNat*ei.size))
     | _=>none
    | .eptr i g k idx o z=>
     match H[i]? with
     | some (.row g' k' _ _)=>some (g=g'∧k=k'∧iv.isInt .i64∧0≤iv.toInt∧iv.toInt<n,.eptr i g k idx (o+iv.toInt.toNat*ei.size) z)
     | _=>none
    | _=>none
   | none=>none
  | _=>none
 | _,_=>none
theorem qdI {t e:Nat}{ti ei:TI}(ht:TIOK P t ti) (he:TIOK P e ei) (hy:ti.ty=.slice e) (a:Addr) (len cap:Nat) {i:Int}(h0:0≤i) (h1:i<len) (w:World) :
  (Instr.indexAt t (.slice (some a) len cap) (.int .i64 i)).run P w=.ok (.pointer (some (a.add (i.toNat*ei.size)))) w:=by
 simp only[Instr.indexAt,Sem.run_bind,run_underlying (ht.und_slice hy),Result.andThen_ok,asIntOf,Sem.run_pure,he.run_sizeOf,h0,h1,and_self,if_true]
theorem qco {t e n:Nat}{ti ei:TI}(ht:TIOK P t ti) (he:TIOK P e ei) (hy:ti.ty=.array n e) (a:Addr) {i:Int}(h0:0≤i) (h1:i<n) (w:World) :
  (Instr.indexAt t (.pointer (some a)) (.int .i64 i)).run P w=.ok (.pointer (some (a.add (i.toNat*ei.size)))) w:=by
 simp only[Instr.indexAt,Sem.run_bind,run_underlying (ht.und_array hy),Result.andThen_ok,asIntOf,Sem.run_pure,Instr.sureAddr,he.run_sizeOf,h0,h1,and_self,if_true]
theorem qeu (hT:TOK P T) {t:Nat}{x ix:I}{vx vi:Value}(hx:V S φ H w x vx) (hi:V S φ H w ix vi) {vc:Prop}{y:I}(h:qa9 T H t x ix=some (vc,y)) (hvc:vc) :
  ∃ v,V S φ H w y v∧∀ w2,(Instr.indexAt t vx vi).run P w2=.ok v w2:=by
 unfold qa9 at h
 split at h
 ·rename_i ti iv hti
  have ht:=hT _ _ hti
  split at h
  ·rename_i e hy
   split at h
   ·rename_i ei hei
    have he:=hT _ _ hei
    split at h
    ·rename_i xd
     simp only[Option.some.injEq,Prod.mk.injEq] at h
     obtain⟨rfl,rfl⟩:=h
     obtain⟨hl,hii,h0,h1⟩:=hvc
     obtain⟨_,rfl,_⟩:=hi.fz.int_inv hii
     obtain⟨b,off,cap,rfl,hz,_⟩:=hx.fz.elem hl (i:=iv.toInt.toNat) (by omega) ei.zero
     exact⟨_,.d hz,fun w2=>by rw[qdI ht he hy _ _ _ h0 h1,Addr.add_lit]⟩
    ·rename_i i g k lo n
     split at h
     ·rename_i g' k' dp l hroot
      simp only[Option.some.injEq,Prod.mk.injEq] at h
      obtain⟨rfl,rfl⟩:=h
      obtain⟨rfl,rfl,rfl,hii,h0,h1⟩:=hvc
      obtain⟨_,rfl,_⟩:=hi.fz.int_inv hii
      cases hx with
      | sl hlt hg hrel ho=>
       obtain⟨hsl,hle⟩:=hrel dp l hroot
       rcases hsl with⟨_,_,rfl,_⟩|⟨b,rest,cap,arr,ty,a,hfp,rfl,hn,hc,hlim,hb,hfit⟩
       ·omega
       ·obtain⟨rfl,hfit'⟩:=hfit (.inl (by omega))
        refine⟨.pointer (some ⟨b,(lo+iv.toInt.toNat)*ei.size+0,none⟩),.eptr hlt hg (fun dp' l' hl'=>⟨b,rest,hfp,rfl⟩) rfl,fun w2=>?_⟩
        rw[qdI ht he hy _ _ _ h0 h1,Addr.add_lit,Nat.add_mul]
        rfl
     ·simp at h
    ·simp at h
   ·simp at h
  ·rename_i n e hy
   split at h
   ·rename_i ei hei
    have he:=hT _ _ hei
    split at h
    ·rename_i xd
     simp only[Option.some.injEq,Prod.mk.injEq] at h
     obtain⟨rfl,rfl⟩:=h
     obtain⟨hl,hii,h0,h1⟩:=hvc
     obtain⟨_,rfl,_⟩:=hi.fz.int_inv hii
     obtain⟨b,o,rfl,hz⟩:=hx.fz.drop hl (iv.toInt.toNat*ei.size)
     exact⟨_,.d hz,fun w2=>by rw[qco ht he hy _ h0 h1,Addr.add_lit]⟩
    ·rename_i i off
     split at h
     ·rename_i cs hroot
      simp only[Option.some.injEq,Prod.mk.injEq] at h
      obtain⟨rfl,rfl⟩:=h
      obtain⟨hii,h0,h1⟩:=hvc
      obtain⟨_,rfl,_⟩:=hi.fz.int_inv hii
      cases hx with
      | ptr hlt hrel ho=>
       obtain⟨b,hb,rfl⟩:=hrel cs hroot
       exact⟨.pointer (some ⟨b,off+iv.toInt.toNat*ei.size,none⟩),.ptr hlt (fun cs' hcs=>⟨b,hb,rfl⟩) rfl,fun w2=>by rw[qco ht he hy _ h0 h1,Addr.add_lit]⟩
     ·simp at h
    ·rename_i i g k idx o z
     split at h
     ·rename_i g' k' dp l hroot
      simp only[Option.some.injEq,Prod.mk.injEq] at h
      obtain⟨rfl,rfl⟩:=h
      obtain⟨rfl,rfl,hii,h0,h1⟩:=hvc
      obtain⟨_,rfl,_⟩:=hi.fz.int_inv hii
      cases hx with
      | eptr hlt hg hrel ho=>
       obtain⟨b,rest,hb,rfl⟩:=hrel dp l hroot
       exact⟨.pointer (some ⟨b,idx*k+(o+iv.toInt.toNat*ei.size),none⟩),.eptr hlt hg (fun dp' l' hcs=>⟨b,rest,hb,rfl⟩) rfl,fun w2=>by
        rw[qco ht he hy _ h0 h1,Addr.add_lit,Nat.add_assoc]⟩
     ·simp at h
    ·simp at h
   ·simp at h
  ·simp at h
 ·simp at h
def qih (ti:TI) (off:Nat) (x:I):Option (Prop×I):=
 match x with
 | .d xd=>
  match ti.ty.agg with
  | true=>some (off+ti.size≤xd.cells.length∧xd.one=false∧(∀ n,xd≠.tup n),.d (.agg (qab xd off ti.size)))
  | false=>some (off<xd.cells.length∧xd.one=false∧(∀ n,xd≠.tup n)∧tchk ti.ty (xd.cellAt off),.d (tnorm ti.ty (xd.cellAt off)))
 | .agg cs=>
  match ti.ty.agg with
  | true=>some (off+ti.size≤cs.length∧qa1 ((cs.drop off).take ti.size),mkAgg ((cs.drop off).take ti.size))
  | false=>some (off<cs.length∧qde ti.ty (cs.getD off .junk),tnormI ti.ty (cs.getD off .junk))
 | _=>none
theorem V.tnormI {t:Ty}{y:I}{v:Value}(hv:V S φ H w y v) (hchk:qde t y):V S φ H w (tnormI t y) v:=by
 cases y <;> first
  | exact hv
  | exact .d (hv.fz.tnorm hchk)
theorem qay {t:Nat}{ti:TI}(ht:TIOK P t ti) (hy:ti.ty.agg=false) {vs:Array Value}{off:Nat}(ho:off<vs.size) (w:World) :
  (part t vs off).run P w=.ok (vs.getD off undef) w:=by
 simp only[part,Sem.run_bind,ht.run_isAgg,hy,Result.andThen_ok]
 simp[Array.getElem?_eq_getElem ho,Array.getD,ho]
theorem qeh {t:Nat}{ti:TI}(ht:TIOK P t ti) (hy:ti.ty.agg=true) {vs:Array Value}{off:Nat}(ho:off+ti.size≤vs.size) (w:World) :
  (part t vs off).run P w=.ok (.agg ((List.range ti.size).map fun j=>vs.getD (off+j) undef).toArray) w:=by
 simp only[part,Sem.run_bind,ht.run_isAgg,hy,Result.andThen_ok,if_true,ht.run_sizeOf,Sem.run_pure]
 congr 2
 apply Array.ext
 ·simp;omega
 ·intro i h1 h2
  simp at h1 h2
  simp[Array.getD,show off+i<vs.size by omega]
theorem qeM {t:Nat}{ti:TI}(ht:TIOK P t ti) {off:Nat}{x:I}{vx:Value}(hx:V S φ H w x vx) {vc:Prop}{y:I}(h:qih ti off x=some (vc,y)) (hvc:vc) :
  ∃ vs,vx=.agg vs∧∃ v,V S φ H w y v∧∀ w2,(part t vs off).run P w2=.ok v w2:=by
 unfold qih at h
 split at h
 ·rename_i xd
  have hz:=hx.fz
  split at h
  ·rename_i hagg
   simp only[Option.some.injEq,Prod.mk.injEq] at h
   obtain⟨rfl,rfl⟩:=h
   obtain⟨hsz,hone,htup⟩:=hvc
   cases hz <;> simp[D.one] at hone
   ·rename_i cs vs hl h1 hj
    refine⟨vs,rfl,_,.d (qdH (f:=fun j=>vs.getD (off+j) undef) (n:=ti.size) (qaf _ _ _) ?_ ?_),fun w2=>qeh ht hagg (by simp[D.cells] at hsz;omega) w2⟩
    ·intro c hc
     obtain⟨j,hj,rfl⟩:=List.getElem_of_mem hc
     rw[qaf] at hj
     rw[qak _ _ _ .nil,qap _ _ _ _ hj]
     exact h1 _ (getD_mem (by simp[D.cells] at hsz;omega))
    ·intro j hj'
     rw[qap _ _ _ _ hj']
     exact hj _ (by simp[D.cells] at hsz;omega)
   ·exact absurd rfl (htup _)
  ·rename_i hagg
   simp only[Option.some.injEq,Prod.mk.injEq] at h
   obtain⟨rfl,rfl⟩:=h
   obtain⟨hsz,hone,htup,hchk⟩:=hvc
   cases hz <;> simp[D.one] at hone
   ·rename_i cs vs hl h1 hj
    have hsz':off<cs.length:=by simpa [D.cells] using hsz
    exact⟨vs,rfl,_,.d ((hj off hsz').tnorm hchk),fun w2=>qay ht hagg (by omega) w2⟩
   ·exact absurd rfl (htup _)
 ·rename_i cs
  cases hx with
  | @agg _ vs hl h1 hj=>
   split at h
   ·rename_i hagg
    simp only[Option.some.injEq,Prod.mk.injEq] at h
    obtain⟨rfl,rfl⟩:=h
    obtain⟨hsz,hone⟩:=hvc
    refine⟨vs,rfl,_,V.mkAgg (f:=fun j=>vs.getD (off+j) undef) (n:=ti.size) (by simp;omega) hone (fun j hj'=>h1 _ (by omega)) ?_,fun w2=>qeh ht hagg (by omega) w2⟩
    intro j hj'
    rw[getD_take _ _ _ _ hj',getD_drop]
    exact hj _ (by omega)
   ·rename_i hagg
    simp only[Option.some.injEq,Prod.mk.injEq] at h
    obtain⟨rfl,rfl⟩:=h
    exact⟨vs,rfl,_,(hj off hvc.1).tnormI hvc.2,fun w2=>qay ht hagg (by omega) w2⟩
 ·simp at h
def qdJ (T:Nat→Option TI) (s:Nat) (x:I) (f:Nat):Option (Prop×I):=
 match T s with
 | some ti=>
  match ti.ty with
  | .struct fs=>
   match fs[f]? with
   | some (off,ft)=>
    match T ft with
    | some fi=>qih fi off x
    | none=>none
   | none=>none
  | _=>none
 | none=>none
theorem qgx (hT:TOK P T) {s f:Nat}{x:I}{vx:Value}(hx:V S φ H w x vx) {vc:Prop}{y:I}(h:qdJ T s x f=some (vc,y)) (hvc:vc) :
  ∃ v,V S φ H w y v∧∀ w2,(Instr.field s vx f).run P w2=.ok v w2:=by
 unfold qdJ at h
 split at h
 ·rename_i ti hti
  split at h
  ·rename_i fs hy
   split at h
   ·rename_i off ft hfs
    split at h
    ·rename_i fi hfi
     obtain⟨vs,rfl,v,hv,hr⟩:=qeM (hT _ _ hfi) hx h hvc
     refine⟨v,hv,fun w2=>?_⟩
     obtain⟨fields,hu,rfl⟩:=(hT _ _ hti).und_struct hy
     simp only[List.getElem?_map,Option.map_eq_some_iff] at hfs
     obtain⟨fd,hfd,he⟩:=hfs
     simp only[Prod.mk.injEq] at he
     obtain⟨rfl,rfl⟩:=he
     have hfd':fields[f]?=some fd:=by simpa using hfd
     simp only[Instr.field,Sem.run_bind,run_underlying hu,Result.andThen_ok,hfd',asAgg,Sem.run_pure,hr]
    ·simp at h
   ·simp at h
  ·simp at h
 ·simp at h
def D.isCnt:D→Prop
 | .int _ _=>True
 | _=>False
theorem D.cnt_int {x:D}(h:x.isCnt) : ∃ k,x.isInt k:=by
 cases x <;> simp[D.isCnt] at h
 exact⟨_,rfl⟩
def qii (s:ByteArray) (i:Nat):Int:=match s[i]? with|some b=>(b.toNat:Int)|none=>0
def qdK (T:Nat→Option TI) (t:Nat) (x ix:I):Option (Prop×I):=
 match T t,ix with
 | some ti,.d iv=>
  match ti.ty with
  | .array n e=>
   match T e with
   | some ei=>
    match qih ei (iv.toInt.toNat*ei.size) x with
    | some (vc,y)=>some (iv.isInt .i64∧0≤iv.toInt∧iv.toInt<n∧vc,y)
    | none=>none
   | none=>none
  | .string=>
   match x with
   | .d (.raw (.string s))=>some (iv.isCnt∧0≤iv.toInt∧iv.toInt.toNat<s.size,.d (.int .u8 (qii s iv.toInt.toNat)))
   | _=>none
  | _=>none
 | _,_=>none
theorem qgy (hT:TOK P T) {t:Nat}{x ix:I}{vx vi:Value}(hx:V S φ H w x vx) (hi:V S φ H w ix vi) {vc:Prop}{y:I}(h:qdK T t x ix=some (vc,y)) (hvc:vc) :
  ∃ v,V S φ H w y v∧∀ w2,(Instr.index t vx vi).run P w2=.ok v w2:=by
 unfold qdK at h
 split at h
 ·rename_i ti iv hti
  split at h
  ·rename_i n e hy
   split at h
   ·rename_i ei hei
    split at h
    ·rename_i vc' y' hp
     simp only[Option.some.injEq,Prod.mk.injEq] at h
     obtain⟨rfl,rfl⟩:=h
     obtain⟨hii,h0,h1,hvc⟩:=hvc
     obtain⟨vs,rfl,v,hv,hr⟩:=qeM (hT _ _ hei) hx hp hvc
     obtain⟨_,rfl,_⟩:=hi.fz.int_inv hii
     refine⟨v,hv,fun w2=>?_⟩
     simp only[Instr.index,Sem.run_bind,asIntOf,Sem.run_pure,Result.andThen_ok,run_underlying ((hT _ _ hti).und_array hy),h0,h1,and_self,if_true,(hT _ _ hei).run_sizeOf,hr]
    ·simp at h
   ·simp at h
  ·rename_i hy
   split at h
   ·rename_i s
    simp only[Option.some.injEq,Prod.mk.injEq] at h
    obtain⟨rfl,rfl⟩:=h
    obtain⟨hii,h0,h1⟩:=hvc
    obtain⟨k,hk⟩:=D.cnt_int hii
    obtain⟨_,rfl,_⟩:=hi.fz.int_inv hk
    have hxz:=hx.fz
    cases hxz
    obtain⟨b,hb⟩ : ∃ b,s[iv.toInt.toNat]?=some b:=⟨s[iv.toInt.toNat],by simp[h1]⟩
    have hin:InK .u8 (qii s iv.toInt.toNat):=by
     simp only[qii,hb]
     have:=b.toNat_lt
     exact⟨by simp[IntKind.min,IntKind.signed],by simp[IntKind.max,IntKind.bits,IntKind.signed];omega⟩
    refine⟨_,.d (.int hin),fun w2=>?_⟩
    simp only[Instr.index,Sem.run_bind,asIntOf,Sem.run_pure,Result.andThen_ok,run_underlying ((hT _ _ hti).und_string hy),h0,if_true,hb,qii]
   ·simp at h
  ·simp at h
 ·simp at h
end Go.VL
