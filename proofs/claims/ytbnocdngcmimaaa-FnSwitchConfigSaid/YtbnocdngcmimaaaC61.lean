/- The netlist of a circuit: best cuts, tables, cells, sinks. Conditions: none; plain definitions and lemmas. -/
import Derived.Test.YtbnocdngcmimaaaC60
set_option linter.unusedVariables false
set_option linter.unusedSimpArgs false
namespace Go.VL
def qdl (arr:List Int) (cut:List Int):Int:=cut.foldl (fun t v=>max t (arr.getD v.toNat 0)) 0
def qcJ (arr:List Int) (x b:List Int):Prop:=qdl arr x<qdl arr b∨(qdl arr x=qdl arr b∧x.length<b.length)
instance (arr:List Int) (x b:List Int):Decidable (qcJ arr x b):=by unfold qcJ;infer_instance
def qcz (arr:List Int):List (List Int)→List Int
 | []=>[]
 | x::r=>r.foldl (fun b y=>if qcJ arr y b then y else b) x
theorem qkQ {arr:List Int}{l:List (List Int)}{y:List Int}(h:0<l.length):qcz arr (l ++ [y])=if qcJ arr y (qcz arr l) then y else qcz arr l:=by
 cases l with
 | nil=>simp at h
 | cons x r=>
  have e : ∀ s,qcz arr (x::s)=s.foldl (fun b y=>if qcJ arr y b then y else b) x:=fun s=>rfl
  show qcz arr (x::(r ++ [y]))=_
  rw[e (r ++ [y]),List.foldl_append]
  rfl
theorem qmo {arr:List Int}{l:List (List Int)}(h:0<l.length):qcz arr l∈l:=by
 cases l with
 | nil=>simp at h
 | cons x r=>
  have : ∀ (r:List (List Int)) (b:List Int),r.foldl (fun b y=>if qcJ arr y b then y else b) b=b∨r.foldl (fun b y=>if qcJ arr y b then y else b) b∈r:=by
   intro r
   induction r with
   | nil=>exact fun b=>.inl rfl
   | cons y r ih=>
    intro b
    simp only[List.foldl_cons]
    rcases ih (if qcJ arr y b then y else b) with h1|h1
    ·rw[h1]
     split
     ·exact .inr (by simp)
     ·exact .inl rfl
    ·exact .inr (by simp[h1])
  rcases this r x with h1|h1
  ·rw[qcz,h1];simp
  ·rw[qcz];simp[h1]
def qa4 (c:Circ) (cuts:List (List (List Int))):Nat→List (List Int)×List Int
 | 0=>(List.replicate c.first.toNat [],List.replicate c.first.toNat 0)
 | i+1=>
  (
   (qa4 c cuts i).1 ++ [qcz (qa4 c cuts i).2 (cuts.getD (c.first.toNat+i) []).dropLast],
   (qa4 c cuts i).2 ++ [1+qdl (qa4 c cuts i).2 (qcz (qa4 c cuts i).2 (cuts.getD (c.first.toNat+i) []).dropLast)])
theorem qdP (c:Circ) (cuts:List (List (List Int))) : ∀ i,(qa4 c cuts i).1.length=c.first.toNat+i∧(qa4 c cuts i).2.length=c.first.toNat+i
 | 0=>by simp[qa4]
 | i+1=>by
  have:=qdP c cuts i
  simp only[qa4,List.length_append,List.length_singleton]
  omega
theorem qiv {arr:List Int}{cut:List Int}{m:Int}(h : ∀ z∈cut,arr.getD z.toNat 0≤m) (hm:0≤m):0≤qdl arr cut∧qdl arr cut≤m:=by
 have : ∀ (cut:List Int) (t:Int),(∀ z∈cut,arr.getD z.toNat 0≤m)→0≤t→t≤m→0≤cut.foldl (fun t v=>max t (arr.getD v.toNat 0)) t∧cut.foldl (fun t v=>max t (arr.getD v.toNat 0)) t≤m:=by
  intro cut
  induction cut with
  | nil=>exact fun t _ h1 h2=>⟨h1,h2⟩
  | cons x r ih=>
   intro t h h1 h2
   have hx:=h x (by simp)
   exact ih (max t (arr.getD x.toNat 0)) (fun z hz=>h z (by simp[hz])) (by omega) (by omega)
 exact this cut 0 h (Int.le_refl 0) hm
theorem qlE (c:Circ) (cuts:List (List (List Int))) : ∀ i j,0≤(qa4 c cuts i).2.getD j 0∧(qa4 c cuts i).2.getD j 0≤i
 | 0,j=>by
  by_cases h:j<c.first.toNat
  ·simp[qa4,List.getD,h]
  ·simp[qa4,List.getD,h]
 | i+1,j=>by
  have ih:=qlE c cuts i
  have hl:=(qdP c cuts i).2
  by_cases h:j<(qa4 c cuts i).2.length
  ·have e:(qa4 c cuts (i+1)).2.getD j 0=(qa4 c cuts i).2.getD j 0:=by simp only[qa4];exact qaE h
   have:=ih j
   rw[e];omega
  ·have ha:=qiv (arr:=(qa4 c cuts i).2) (cut:=qcz (qa4 c cuts i).2 (cuts.getD (c.first.toNat+i) []).dropLast) (m:=i) (fun z _=>(ih z.toNat).2) (by omega)
   by_cases h2:j=(qa4 c cuts i).2.length
   ·have e:(qa4 c cuts (i+1)).2.getD j 0=1+qdl (qa4 c cuts i).2 (qcz (qa4 c cuts i).2 (cuts.getD (c.first.toNat+i) []).dropLast):=by
     simp only[qa4,h2];simp[List.getD]
    rw[e];omega
   ·have e:(qa4 c cuts (i+1)).2.getD j 0=0:=by
     rw[List.getD_eq_getElem?_getD,List.getElem?_eq_none (by simp only[qa4,List.length_append,List.length_singleton];omega)];rfl
    rw[e];omega
noncomputable def qcK (c:Circ):List (List Int):=(qa4 c (qcb c) c.gates.length).1
noncomputable def arrC (c:Circ):List Int:=(qa4 c (qcb c) c.gates.length).2
theorem qnQ {c:Circ}{cuts:List (List (List Int))}{i n:Nat}(h:i≤n) {v:Nat}(hv:v<c.first.toNat+i) :
  (qa4 c cuts n).1.getD v []=(qa4 c cuts i).1.getD v []∧(qa4 c cuts n).2.getD v 0=(qa4 c cuts i).2.getD v 0:=by
 induction n with
 | zero=>
      obtain rfl:i=0:=by omega
      exact⟨rfl,rfl⟩
 | succ n ih=>
  have hl:=qdP c cuts n
  by_cases hin:i≤n
  ·have:=ih hin
   simp only[qa4]
   rw[qaE (by omega),qaE (by omega)]
   exact this
  ·obtain rfl:i=n+1:=by omega
   exact⟨rfl,rfl⟩
theorem qmp {c:Circ}{cuts:List (List (List Int))}{i n:Nat}(h:i<n) :
  (qa4 c cuts n).1.getD (c.first.toNat+i) []=qcz (qa4 c cuts i).2 (cuts.getD (c.first.toNat+i) []).dropLast∧
  (qa4 c cuts n).2.getD (c.first.toNat+i) 0=1+qdl (qa4 c cuts i).2 (qcz (qa4 c cuts i).2 (cuts.getD (c.first.toNat+i) []).dropLast):=by
 have hl:=qdP c cuts i
 have:=qnQ (c:=c) (cuts:=cuts) (i:=i+1) (n:=n) (by omega) (v:=c.first.toNat+i) (by omega)
 rw[this.1,this.2]
 simp only[qa4]
 constructor
 ·have e:c.first.toNat+i=(qa4 c cuts i).1.length:=by omega
  rw[e];simp[List.getD]
 ·have e:c.first.toNat+i=(qa4 c cuts i).2.length:=by omega
  rw[e];simp[List.getD]
theorem qnR {c:Circ}(hc:c.Valid) {i:Nat}(h:i<c.gates.length):(qcK c).getD (c.first.toNat+i) []∈qgS ((qa1 c i).getD (qce c i/2).toNat []) ((qa1 c i).getD (qcf c i/2).toNat []):=by
 have hf:=hc.first_bd
 have e:((qcb c).getD (c.first.toNat+i) []).dropLast=qgS ((qa1 c i).getD (qce c i/2).toNat []) ((qa1 c i).getD (qcf c i/2).toNat []):=by
  rw[qcb,qgb hf.1 h,List.dropLast_concat]
 rw[qcK,(qmp h).1,e]
 exact qmo (qjX hc h)
theorem qeV {c:Circ}(hc:c.Valid) {i:Nat}(h:i<c.gates.length):asc ((qcK c).getD (c.first.toNat+i) [])∧((qcK c).getD (c.first.toNat+i) []).length≤3∧∀ z∈(qcK c).getD (c.first.toNat+i) [],1≤z∧z<c.first+i:=by
 have hf:=hc.first_bd
 have hl:=qbW (c:=c) hf.1 i
 obtain⟨g1,g2⟩:=hc.g i h
 have ha:(qce c i/2).toNat<c.first.toNat+i:=by unfold qce;unfold qbp at g1;omega
 have hb:(qcf c i/2).toNat<c.first.toNat+i:=by unfold qcf;unfold qbp at g2;omega
 obtain⟨a1,-⟩:=qdx hc i (by omega) _ (by rw[hl];exact ha)
 obtain⟨b1,-⟩:=qdx hc i (by omega) _ (by rw[hl];exact hb)
 have:=qhI (P:=fun cut=>asc cut∧cut.length≤3∧∀ z∈cut,1≤z∧z<c.first+i) (fun x hx y hy hle=>by
  have hx':=a1 x hx
  have hy':=b1 y hy
  refine⟨qeB hx'.asc hy'.asc,hle,fun z hz=>?_⟩
  rcases(qb7 _ _).1 hz with h2|h2
  ·have:=hx'.rng z h2;omega
  ·have:=hy'.rng z h2;omega) _ (qnR hc h)
 exact this
theorem qnS (c:Circ):(qcK c).length=c.first.toNat+c.gates.length:=(qdP c _ _).1
def qgz (leaves:List Int) (x:Nat) (v:Int) (d:Bool):Bool:=if v∈leaves then x.testBit (leaves.idxOf v) else d
def qe4 (c:Circ) (leaves:List Int) (x:Nat):Nat→List Bool
 | 0=>(List.range c.first.toNat).map fun(v:Nat)=>qgz leaves x (v:Int) false
 | i+1=>qe4 c leaves x i ++ [qgz leaves x (c.first+(i:Int)) (litV (qe4 c leaves x i) (qce c i)&&litV (qe4 c leaves x i) (qcf c i))]
theorem qhK (c:Circ) (leaves:List Int) (x:Nat) : ∀ i,(qe4 c leaves x i).length=c.first.toNat+i
 | 0=>by simp[qe4]
 | i+1=>by rw[qe4,List.length_append,qhK c leaves x i];simp;omega
def qfP (c:Circ) (leaves:List Int) (x:Nat) (v:Int):Bool:=(qe4 c leaves x c.gates.length).getD v.toNat false
theorem qhL {c:Circ}{leaves:List Int}{x:Nat}{i n:Nat}(h:i≤n) {v:Nat}(hv:v<c.first.toNat+i):(qe4 c leaves x n).getD v false=(qe4 c leaves x i).getD v false:=by
 induction n with
 | zero=>
      obtain rfl:i=0:=by omega
      rfl
 | succ n ih=>
  have hl:=qhK c leaves x n
  by_cases hin:i≤n
  ·rw[qe4,qaE (by omega)];exact ih hin
  ·obtain rfl:i=n+1:=by omega
   rfl
theorem qjY {c:Circ}{leaves:List Int}{x:Nat}{v:Int}(h0:0≤v) (h:v<c.first):qfP c leaves x v=qgz leaves x v false:=by
 rw[qfP,qhL (i:=0) (by omega) (by omega),qe4]
 simp[List.getD,show v.toNat<c.first.toNat by omega,Int.toNat_of_nonneg h0]
theorem qiw {c:Circ}{leaves:List Int}{x:Nat}{i:Nat}{l:Int}(h:qbp l (c.first+(i:Int))) (hi:i≤c.gates.length) (hf:1≤c.first):litV (qe4 c leaves x i) l=(qfP c leaves x (l/2) != decide (l%2=1)):=by
 unfold qbp at h
 rw[litV,qfP,qhL hi (by omega)]
theorem qix {c:Circ}(hc:c.Valid) {leaves:List Int}{x:Nat}{i:Nat}(h:i<c.gates.length) :
  qfP c leaves x (c.first+(i:Int))=qgz leaves x (c.first+(i:Int)) ((qfP c leaves x (qce c i/2) != decide (qce c i%2=1))&&(qfP c leaves x (qcf c i/2) != decide (qcf c i%2=1))):=by
 have hf:=hc.first_bd
 obtain⟨g1,g2⟩:=hc.g i h
 have q1:litV (qe4 c leaves x i) (qce c i)=(qfP c leaves x (qce c i/2) != decide (qce c i%2=1)):=qiw (i:=i) g1 (by omega) hf.1
 have q2:litV (qe4 c leaves x i) (qcf c i)=(qfP c leaves x (qcf c i/2) != decide (qcf c i%2=1)):=qiw (i:=i) g2 (by omega) hf.1
 rw[←q1,←q2]
 rw[qfP,qhL (i:=i+1) (by omega) (by omega),qe4]
 have e:(c.first+(i:Int)).toNat=(qe4 c leaves x i).length:=by rw[qhK];omega
 rw[e]
 simp[List.getD]
def qfQ (c:Circ) (v:Int) (leaves:List Int):Nat→Nat
 | 0=>0
 | x+1=>qfQ c v leaves x+(if qfP c leaves x v then 2 ^ x else 0)
theorem qjZ (c:Circ) (v:Int) (leaves:List Int) : ∀ n,qfQ c v leaves n<2 ^ n
 | 0=>by simp[qfQ]
 | n+1=>by
  have:=qjZ c v leaves n
  rw[qfQ,Nat.pow_succ]
  split <;> omega
def qiy (c:Circ) (v:Int) (leaves:List Int):Int:=(qfQ c v leaves (2 ^ leaves.length):Nat)
structure Lut where
 var:Int
 leaves:List Int
 table:Int
def qcg (need:List Bool) (vs:List Int):List Bool:=vs.foldl (fun n v=>n.set v.toNat true) need
theorem qdQ : ∀ (vs:List Int) (need:List Bool),(qcg need vs).length=need.length
 | [],need=>rfl
 | v::vs,need=>by
  show(qcg (need.set v.toNat true) vs).length=_
  rw[qdQ vs,List.length_set]
theorem qiz : ∀ (vs:List Int) (need:List Bool) (j:Nat),(∀ v∈vs,0≤v)→(qcg need vs).getD j false=(need.getD j false || decide (j<need.length∧(j:Int)∈vs))
 | [],need,j,_=>by simp[qcg]
 | v::vs,need,j,h=>by
  show(qcg (need.set v.toNat true) vs).getD j false=_
  rw[qiz vs _ j fun z hz=>h z (by simp[hz])]
  have hv:=h v (by simp)
  by_cases e:v.toNat=j
  ·subst e
   by_cases hl:v.toNat<need.length
   ·simp[List.getD,hl,Int.toNat_of_nonneg hv]
   ·simp[List.getD,hl]
  ·have : ¬ (j:Int)=v:=by omega
   simp[List.getD,List.getElem?_set,e,this]
def qck (c:Circ):List Int:=(c.outs++c.next).map (· / 2)
def qjb (c:Circ):List Bool:=qcg (List.replicate c.vars.toNat false) (qck c)
noncomputable def mapD (c:Circ):Nat→List Bool→List Lut→List Lut
 | 0,_,out=>out
 | j+1,need,out=>
  if need.getD (c.first.toNat+j) false=true then
   mapD c j (qcg need ((qcK c).getD (c.first.toNat+j) [])) (⟨c.first+(j:Int),(qcK c).getD (c.first.toNat+j) [],qiy c (c.first+(j:Int)) ((qcK c).getD (c.first.toNat+j) [])⟩::out)
  else mapD c j need out
noncomputable def qgc (c:Circ):List Lut:=mapD c c.gates.length (qjb c) []
structure Cel where
 net:Int
 inputs:List Int
 table:Int
 reg:Bool
def qcA (c:Circ) (i:Nat):Cel:=
 if(c.next.getD i 0)/2 > 0 then⟨c.inputs+1+i,[(c.next.getD i 0)/2],2-(c.next.getD i 0)%2,true⟩ else⟨c.inputs+1+i,[],(c.next.getD i 0)%2,true⟩
def qcT (l:Lut):Cel:=⟨l.var,l.leaves,l.table,false⟩
noncomputable def qdm (c:Circ):List Cel:=(List.range c.next.length).map (qcA c)++(qgc c).map qcT
def ce0:Cel:=⟨0,[],0,false⟩
def qgA (x:Cel) (net:Int) (i:Nat):List Int:=(x.inputs.filter fun z=>decide (z=net)).map fun _=>(i:Int)
def qbX (cells:List Cel) (net:Int):Nat→List Int
 | 0=>[]
 | i+1=>qbX cells net i++qgA (cells.getD i ce0) net i
def qgB (cells:List Cel) (net:Int):List Int:=qbX cells net cells.length
theorem qeW {cells:List Cel}{net:Int}{z:Int} : ∀ {n:Nat},z∈qbX cells net n↔∃ i:Nat,i<n∧net∈(cells.getD i ce0).inputs∧z=(i:Int)
 | 0=>by simp[qbX]
 | n+1=>by
  rw[qbX,List.mem_append,qeW]
  constructor
  ·rintro(⟨i,h1,h2,h3⟩|h)
   ·exact⟨i,by omega,h2,h3⟩
   ·simp only[qgA,List.mem_map,List.mem_filter,decide_eq_true_eq] at h
    obtain⟨w,⟨h1,rfl⟩,rfl⟩:=h
    exact⟨n,by omega,h1,rfl⟩
  ·rintro⟨i,h1,h2,rfl⟩
   by_cases hi:i<n
   ·exact .inl ⟨i,hi,h2,rfl⟩
   ·obtain rfl:i=n:=by omega
    exact .inr (List.mem_map.2 ⟨net,List.mem_filter.2 ⟨h2,by simp⟩,rfl⟩)
end Go.VL
