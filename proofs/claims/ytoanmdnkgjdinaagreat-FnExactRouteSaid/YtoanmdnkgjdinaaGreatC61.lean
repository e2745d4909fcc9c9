/- The netlist of a circuit: best cuts, tables, cells, sinks. Conditions: none; plain definitions and lemmas. -/
import Derived.Test.YtoanmdnkgjdinaaGreatC60
set_option linter.unusedVariables false
set_option linter.unusedSimpArgs false
namespace Go.VL
def qb6 (arr:List Int) (cut:List Int):Int:=cut.foldl (fun t v=>max t (arr.getD v.toNat 0)) 0
def qbx (arr:List Int) (x b:List Int):Prop:=qb6 arr x<qb6 arr b∨(qb6 arr x=qb6 arr b∧x.length<b.length)
instance (arr:List Int) (x b:List Int):Decidable (qbx arr x b):=by unfold qbx;infer_instance
def qbv (arr:List Int):List (List Int)→List Int
 | []=>[]
 | x::r=>r.foldl (fun b y=>if qbx arr y b then y else b) x
theorem qhK {arr:List Int}{l:List (List Int)}{y:List Int}(h:0<l.length):qbv arr (l ++ [y])=if qbx arr y (qbv arr l) then y else qbv arr l:=by
 cases l with
 | nil=>simp at h
 | cons x r=>
  have e : ∀ s,qbv arr (x::s)=s.foldl (fun b y=>if qbx arr y b then y else b) x:=fun s=>rfl
  show qbv arr (x::(r ++ [y]))=_
  rw[e (r ++ [y]),List.foldl_append]
  rfl
theorem qgp {arr:List Int}{l:List (List Int)}(h:0<l.length):qbv arr l∈l:=by
 cases l with
 | nil=>simp at h
 | cons x r=>
  have : ∀ (r:List (List Int)) (b:List Int),r.foldl (fun b y=>if qbx arr y b then y else b) b=b∨r.foldl (fun b y=>if qbx arr y b then y else b) b∈r:=by
   intro r
   induction r with
   | nil=>exact fun b=>.inl rfl
   | cons y r ih=>
    intro b
    simp only[List.foldl_cons]
    rcases ih (if qbx arr y b then y else b) with h1|h1
    ·rw[h1]
     split
     ·exact .inr (by simp)
     ·exact .inl rfl
    ·exact .inr (by simp[h1])
  rcases this r x with h1|h1
  ·rw[qbv,h1];simp
  ·rw[qbv];simp[h1]
def qaP (c:Circ) (cuts:List (List (List Int))):Nat→List (List Int)×List Int
 | 0=>(List.replicate c.first.toNat [],List.replicate c.first.toNat 0)
 | i+1=>
  (
   (qaP c cuts i).1 ++ [qbv (qaP c cuts i).2 (cuts.getD (c.first.toNat+i) []).dropLast],
   (qaP c cuts i).2 ++ [1+qb6 (qaP c cuts i).2 (qbv (qaP c cuts i).2 (cuts.getD (c.first.toNat+i) []).dropLast)])
theorem qdf (c:Circ) (cuts:List (List (List Int))) : ∀ i,(qaP c cuts i).1.length=c.first.toNat+i∧(qaP c cuts i).2.length=c.first.toNat+i
 | 0=>by simp[qaP]
 | i+1=>by
  have:=qdf c cuts i
  simp only[qaP,List.length_append,List.length_singleton]
  omega
theorem qdM {arr:List Int}{cut:List Int}{m:Int}(h : ∀ z∈cut,arr.getD z.toNat 0≤m) (hm:0≤m):0≤qb6 arr cut∧qb6 arr cut≤m:=by
 have : ∀ (cut:List Int) (t:Int),(∀ z∈cut,arr.getD z.toNat 0≤m)→0≤t→t≤m→0≤cut.foldl (fun t v=>max t (arr.getD v.toNat 0)) t∧cut.foldl (fun t v=>max t (arr.getD v.toNat 0)) t≤m:=by
  intro cut
  induction cut with
  | nil=>exact fun t _ h1 h2=>⟨h1,h2⟩
  | cons x r ih=>
   intro t h h1 h2
   have hx:=h x (by simp)
   exact ih (max t (arr.getD x.toNat 0)) (fun z hz=>h z (by simp[hz])) (by omega) (by omega)
 exact this cut 0 h (Int.le_refl 0) hm
theorem qjq (c:Circ) (cuts:List (List (List Int))) : ∀ i j,0≤(qaP c cuts i).2.getD j 0∧(qaP c cuts i).2.getD j 0≤i
 | 0,j=>by
  by_cases h:j<c.first.toNat
  ·simp[qaP,List.getD,h]
  ·simp[qaP,List.getD,h]
 | i+1,j=>by
  have ih:=qjq c cuts i
  have hl:=(qdf c cuts i).2
  by_cases h:j<(qaP c cuts i).2.length
  ·have e:(qaP c cuts (i+1)).2.getD j 0=(qaP c cuts i).2.getD j 0:=by simp only[qaP];exact qay h
   have:=ih j
   rw[e];omega
  ·have ha:=qdM (arr:=(qaP c cuts i).2) (cut:=qbv (qaP c cuts i).2 (cuts.getD (c.first.toNat+i) []).dropLast) (m:=i) (fun z _=>(ih z.toNat).2) (by omega)
   by_cases h2:j=(qaP c cuts i).2.length
   ·have e:(qaP c cuts (i+1)).2.getD j 0=1+qb6 (qaP c cuts i).2 (qbv (qaP c cuts i).2 (cuts.getD (c.first.toNat+i) []).dropLast):=by
     simp only[qaP,h2];simp[List.getD]
    rw[e];omega
   ·have e:(qaP c cuts (i+1)).2.getD j 0=0:=by
     rw[List.getD_eq_getElem?_getD,List.getElem?_eq_none (by simp only[qaP,List.length_append,List.length_singleton];omega)];rfl
    rw[e];omega
noncomputable def qbK (c:Circ):List (List Int):=(qaP c (qa7 c) c.gates.length).1
noncomputable def arrC (c:Circ):List Int:=(qaP c (qa7 c) c.gates.length).2
theorem qnM {c:Circ}{cuts:List (List (List Int))}{i n:Nat}(h:i≤n) {v:Nat}(hv:v<c.first.toNat+i) :
  (qaP c cuts n).1.getD v []=(qaP c cuts i).1.getD v []∧(qaP c cuts n).2.getD v 0=(qaP c cuts i).2.getD v 0:=by
 induction n with
 | zero=>
      obtain rfl:i=0:=by omega
      exact⟨rfl,rfl⟩
 | succ n ih=>
  have hl:=qdf c cuts n
  by_cases hin:i≤n
  ·have:=ih hin
   simp only[qaP]
   rw[qay (by omega),qay (by omega)]
   exact this
  ·obtain rfl:i=n+1:=by omega
   exact⟨rfl,rfl⟩
theorem qmg {c:Circ}{cuts:List (List (List Int))}{i n:Nat}(h:i<n) :
  (qaP c cuts n).1.getD (c.first.toNat+i) []=qbv (qaP c cuts i).2 (cuts.getD (c.first.toNat+i) []).dropLast∧
  (qaP c cuts n).2.getD (c.first.toNat+i) 0=1+qb6 (qaP c cuts i).2 (qbv (qaP c cuts i).2 (cuts.getD (c.first.toNat+i) []).dropLast):=by
 have hl:=qdf c cuts i
 have:=qnM (c:=c) (cuts:=cuts) (i:=i+1) (n:=n) (by omega) (v:=c.first.toNat+i) (by omega)
 rw[this.1,this.2]
 simp only[qaP]
 constructor
 ·have e:c.first.toNat+i=(qaP c cuts i).1.length:=by omega
  rw[e];simp[List.getD]
 ·have e:c.first.toNat+i=(qaP c cuts i).2.length:=by omega
  rw[e];simp[List.getD]
theorem qnN {c:Circ}(hc:c.Valid) {i:Nat}(h:i<c.gates.length):(qbK c).getD (c.first.toNat+i) []∈qe1 ((qaM c i).getD (qbA c i/2).toNat []) ((qaM c i).getD (qbB c i/2).toNat []):=by
 have hf:=hc.first_bd
 have e:((qa7 c).getD (c.first.toNat+i) []).dropLast=qe1 ((qaM c i).getD (qbA c i/2).toNat []) ((qaM c i).getD (qbB c i/2).toNat []):=by
  rw[qa7,qdL hf.1 h,List.dropLast_concat]
 rw[qbK,(qmg h).1,e]
 exact qgp (qhJ hc h)
theorem qd8 {c:Circ}(hc:c.Valid) {i:Nat}(h:i<c.gates.length):asc ((qbK c).getD (c.first.toNat+i) [])∧((qbK c).getD (c.first.toNat+i) []).length≤3∧∀ z∈(qbK c).getD (c.first.toNat+i) [],1≤z∧z<c.first+i:=by
 have hf:=hc.first_bd
 have hl:=qbi (c:=c) hf.1 i
 obtain⟨g1,g2⟩:=hc.g i h
 have ha:(qbA c i/2).toNat<c.first.toNat+i:=by unfold qbA;unfold qbe at g1;omega
 have hb:(qbB c i/2).toNat<c.first.toNat+i:=by unfold qbB;unfold qbe at g2;omega
 obtain⟨a1,-⟩:=qcn hc i (by omega) _ (by rw[hl];exact ha)
 obtain⟨b1,-⟩:=qcn hc i (by omega) _ (by rw[hl];exact hb)
 have:=qfT (P:=fun cut=>asc cut∧cut.length≤3∧∀ z∈cut,1≤z∧z<c.first+i) (fun x hx y hy hle=>by
  have hx':=a1 x hx
  have hy':=b1 y hy
  refine⟨qdJ hx'.asc hy'.asc,hle,fun z hz=>?_⟩
  rcases(qbJ _ _).1 hz with h2|h2
  ·have:=hx'.rng z h2;omega
  ·have:=hy'.rng z h2;omega) _ (qnN hc h)
 exact this
theorem qkc (c:Circ):(qbK c).length=c.first.toNat+c.gates.length:=(qdf c _ _).1
def qeE (leaves:List Int) (x:Nat) (v:Int) (d:Bool):Bool:=if v∈leaves then x.testBit (leaves.idxOf v) else d
def qe2 (c:Circ) (leaves:List Int) (x:Nat):Nat→List Bool
 | 0=>(List.range c.first.toNat).map fun(v:Nat)=>qeE leaves x (v:Int) false
 | i+1=>qe2 c leaves x i ++ [qeE leaves x (c.first+(i:Int)) (litV (qe2 c leaves x i) (qbA c i)&&litV (qe2 c leaves x i) (qbB c i))]
theorem qhL (c:Circ) (leaves:List Int) (x:Nat) : ∀ i,(qe2 c leaves x i).length=c.first.toNat+i
 | 0=>by simp[qe2]
 | i+1=>by rw[qe2,List.length_append,qhL c leaves x i];simp;omega
def qcv (c:Circ) (leaves:List Int) (x:Nat) (v:Int):Bool:=(qe2 c leaves x c.gates.length).getD v.toNat false
theorem qhM {c:Circ}{leaves:List Int}{x:Nat}{i n:Nat}(h:i≤n) {v:Nat}(hv:v<c.first.toNat+i):(qe2 c leaves x n).getD v false=(qe2 c leaves x i).getD v false:=by
 induction n with
 | zero=>
      obtain rfl:i=0:=by omega
      rfl
 | succ n ih=>
  have hl:=qhL c leaves x n
  by_cases hin:i≤n
  ·rw[qe2,qay (by omega)];exact ih hin
  ·obtain rfl:i=n+1:=by omega
   rfl
theorem qfU {c:Circ}{leaves:List Int}{x:Nat}{v:Int}(h0:0≤v) (h:v<c.first):qcv c leaves x v=qeE leaves x v false:=by
 rw[qcv,qhM (i:=0) (by omega) (by omega),qe2]
 simp[List.getD,show v.toNat<c.first.toNat by omega,Int.toNat_of_nonneg h0]
theorem qiH {c:Circ}{leaves:List Int}{x:Nat}{i:Nat}{l:Int}(h:qbe l (c.first+(i:Int))) (hi:i≤c.gates.length) (hf:1≤c.first):litV (qe2 c leaves x i) l=(qcv c leaves x (l/2) != decide (l%2=1)):=by
 unfold qbe at h
 rw[litV,qcv,qhM hi (by omega)]
theorem qgq {c:Circ}(hc:c.Valid) {leaves:List Int}{x:Nat}{i:Nat}(h:i<c.gates.length) :
  qcv c leaves x (c.first+(i:Int))=qeE leaves x (c.first+(i:Int)) ((qcv c leaves x (qbA c i/2) != decide (qbA c i%2=1))&&(qcv c leaves x (qbB c i/2) != decide (qbB c i%2=1))):=by
 have hf:=hc.first_bd
 obtain⟨g1,g2⟩:=hc.g i h
 have q1:litV (qe2 c leaves x i) (qbA c i)=(qcv c leaves x (qbA c i/2) != decide (qbA c i%2=1)):=qiH (i:=i) g1 (by omega) hf.1
 have q2:litV (qe2 c leaves x i) (qbB c i)=(qcv c leaves x (qbB c i/2) != decide (qbB c i%2=1)):=qiH (i:=i) g2 (by omega) hf.1
 rw[←q1,←q2]
 rw[qcv,qhM (i:=i+1) (by omega) (by omega),qe2]
 have e:(c.first+(i:Int)).toNat=(qe2 c leaves x i).length:=by rw[qhL];omega
 rw[e]
 simp[List.getD]
def qdN (c:Circ) (v:Int) (leaves:List Int):Nat→Nat
 | 0=>0
 | x+1=>qdN c v leaves x+(if qcv c leaves x v then 2 ^ x else 0)
theorem qhN (c:Circ) (v:Int) (leaves:List Int) : ∀ n,qdN c v leaves n<2 ^ n
 | 0=>by simp[qdN]
 | n+1=>by
  have:=qhN c v leaves n
  rw[qdN,Nat.pow_succ]
  split <;> omega
def qfV (c:Circ) (v:Int) (leaves:List Int):Int:=(qdN c v leaves (2 ^ leaves.length):Nat)
structure Lut where
 var:Int
 leaves:List Int
 table:Int
def qba (need:List Bool) (vs:List Int):List Bool:=vs.foldl (fun n v=>n.set v.toNat true) need
theorem qcj : ∀ (vs:List Int) (need:List Bool),(qba need vs).length=need.length
 | [],need=>rfl
 | v::vs,need=>by
  show(qba (need.set v.toNat true) vs).length=_
  rw[qcj vs,List.length_set]
theorem qdO : ∀ (vs:List Int) (need:List Bool) (j:Nat),(∀ v∈vs,0≤v)→(qba need vs).getD j false=(need.getD j false || decide (j<need.length∧(j:Int)∈vs))
 | [],need,j,_=>by simp[qba]
 | v::vs,need,j,h=>by
  show(qba (need.set v.toNat true) vs).getD j false=_
  rw[qdO vs _ j fun z hz=>h z (by simp[hz])]
  have hv:=h v (by simp)
  by_cases e:v.toNat=j
  ·subst e
   by_cases hl:v.toNat<need.length
   ·simp[List.getD,hl,Int.toNat_of_nonneg hv]
   ·simp[List.getD,hl]
  ·have : ¬ (j:Int)=v:=by omega
   simp[List.getD,List.getElem?_set,e,this]
def qbb (c:Circ):List Int:=(c.outs++c.next).map (· / 2)
def qeF (c:Circ):List Bool:=qba (List.replicate c.vars.toNat false) (qbb c)
noncomputable def mapD (c:Circ):Nat→List Bool→List Lut→List Lut
 | 0,_,out=>out
 | j+1,need,out=>
  if need.getD (c.first.toNat+j) false=true then
   mapD c j (qba need ((qbK c).getD (c.first.toNat+j) [])) (⟨c.first+(j:Int),(qbK c).getD (c.first.toNat+j) [],qfV c (c.first+(j:Int)) ((qbK c).getD (c.first.toNat+j) [])⟩::out)
  else mapD c j need out
noncomputable def qdu (c:Circ):List Lut:=mapD c c.gates.length (qeF c) []
structure Cel where
 net:Int
 inputs:List Int
 table:Int
 reg:Bool
def qbw (c:Circ) (i:Nat):Cel:=
 if(c.next.getD i 0)/2 > 0 then⟨c.inputs+1+i,[(c.next.getD i 0)/2],2-(c.next.getD i 0)%2,true⟩ else⟨c.inputs+1+i,[],(c.next.getD i 0)%2,true⟩
def qbn (l:Lut):Cel:=⟨l.var,l.leaves,l.table,false⟩
noncomputable def qan (c:Circ):List Cel:=(List.range c.next.length).map (qbw c)++(qdu c).map qbn
def ce0:Cel:=⟨0,[],0,false⟩
def qeG (x:Cel) (net:Int) (i:Nat):List Int:=(x.inputs.filter fun z=>decide (z=net)).map fun _=>(i:Int)
def qaZ (cells:List Cel) (net:Int):Nat→List Int
 | 0=>[]
 | i+1=>qaZ cells net i++qeG (cells.getD i ce0) net i
def qcU (cells:List Cel) (net:Int):List Int:=qaZ cells net cells.length
theorem qdP {cells:List Cel}{net:Int}{z:Int} : ∀ {n:Nat},z∈qaZ cells net n↔∃ i:Nat,i<n∧net∈(cells.getD i ce0).inputs∧z=(i:Int)
 | 0=>by simp[qaZ]
 | n+1=>by
  rw[qaZ,List.mem_append,qdP]
  constructor
  ·rintro(⟨i,h1,h2,h3⟩|h)
   ·exact⟨i,by omega,h2,h3⟩
   ·simp only[qeG,List.mem_map,List.mem_filter,decide_eq_true_eq] at h
    obtain⟨w,⟨h1,rfl⟩,rfl⟩:=h
    exact⟨n,by omega,h1,rfl⟩
  ·rintro⟨i,h1,h2,rfl⟩
   by_cases hi:i<n
   ·exact .inl ⟨i,hi,h2,rfl⟩
   ·obtain rfl:i=n:=by omega
    exact .inr (List.mem_map.2 ⟨net,List.mem_filter.2 ⟨h2,by simp⟩,rfl⟩)
end Go.VL
