/- The netlist of a circuit: best cuts, tables, cells, sinks. Conditions: none; plain definitions and lemmas. -/
import Derived.Test.YteikeianenfhaaaGreatC60
set_option linter.unusedVariables false
set_option linter.unusedSimpArgs false
set_option maxHeartbeats 2000000
namespace Go.VL
set_option linter.defProp false
variable {arr leaves:List Int}{l:List (List Int)}{c:Circ}{cuts:List (List (List Int))}{i n v x:Nat}
def qca (arr:List Int) (cut:List Int):Int:=cut.foldl (fun t v=>max t (arr.getD v.toNat 0)) 0
def qbI (arr:List Int) (x b:List Int):Prop:=qca arr x<qca arr b∨(qca arr x=qca arr b/\x.length<b.length)
instance (arr:List Int) (x b:List Int):Decidable (qbI arr x b):=by unfold qbI;infer_instance
def qbG (arr:List Int):List (List Int)->List Int
 | []=>[]
 | x::r=>r.foldl (fun b y=>if qbI arr y b then y else b) x
def qiJ {y:List Int}(h:0<l.length):qbG arr (l ++ [y])=if qbI arr y (qbG arr l) then y else qbG arr l:=by
 cases l with
 | nil=>simp at h
 | cons x r=>
  have e : ∀ s,qbG arr (x::s)=s.foldl (fun b y=>if qbI arr y b then y else b) x:=fun s=>rfl
  show qbG arr (x::(r ++ [y]))=_
  rw[e (r ++ [y]),yaO];rfl
def qg0 (h:0<l.length):qbG arr l∈l:=by
 cases l with
 | nil=>simp at h
 | cons x r=>
  have : ∀ (r:List (List Int)) (b:List Int),r.foldl (fun b y=>if qbI arr y b then y else b) b=b∨r.foldl (fun b y=>if qbI arr y b then y else b) b∈r:=by
   intro r;induction r with
   | nil=>exact fun b=>.inl rfl
   | cons y r ih=>
    intro b;simp only[yan];rcases ih (if qbI arr y b then y else b) with h1|h1
    ·rw[h1];split
     ·exact .inr (by simp)
     ·exact .inl rfl
    ·exact .inr (by simp[h1])
  rcases this r x with h1|h1
  ·rw[qbG,h1];simp
  ·rw[qbG];simp[h1]
def qaW (c:Circ) (cuts:List (List (List Int))):Nat->List (List Int)×List Int
 | 0=>(List.replicate c.first.toNat [],List.replicate c.first.toNat 0)
 | i+1=>
  (
   (qaW c cuts i).1 ++ [qbG (qaW c cuts i).2 (cuts.getD (c.first.toNat+i) []).dropLast],
   (qaW c cuts i).2 ++ [1+qca (qaW c cuts i).2 (qbG (qaW c cuts i).2 (cuts.getD (c.first.toNat+i) []).dropLast)])
def qdJ (c:Circ) (cuts:List (List (List Int))) : ∀ i,(qaW c cuts i).1.length=c.first.toNat+i/\(qaW c cuts i).2.length=c.first.toNat+i
 | 0=>by simp[qaW]
 | i+1=>by
  have:=qdJ c cuts i;simp only[qaW,yaf,ybo];omega
def qei {cut:List Int}{m:Int}(h : ∀ z∈cut,arr.getD z.toNat 0<=m) (hm:0<=m):0<=qca arr cut/\qca arr cut<=m:=by
 have : ∀ (cut:List Int) (t:Int),(∀ z∈cut,arr.getD z.toNat 0<=m)->0<=t->t<=m->0<=cut.foldl (fun t v=>max t (arr.getD v.toNat 0)) t/\cut.foldl (fun t v=>max t (arr.getD v.toNat 0)) t<=m:=by
  intro cut;induction cut with
  | nil=>exact fun t _ h1 h2=>⟨h1,h2⟩
  | cons x r ih=>
   intro t h h1 h2;have hx:=h x (by simp);exact ih (max t (arr.getD x.toNat 0)) (fun z hz=>h z (by simp[hz])) (by omega) (by omega)
 exact this cut 0 h (Int.le_refl 0) hm
def qkv (c:Circ) (cuts:List (List (List Int))) : ∀ i j,0<=(qaW c cuts i).2.getD j 0/\(qaW c cuts i).2.getD j 0<=i
 | 0,j=>by
  by_cases h:j<c.first.toNat
  ·simp[qaW,List.getD,h]
  ·simp[qaW,List.getD,h]
 | i+1,j=>by
  have ih:=qkv c cuts i;have hl:=(qdJ c cuts i).2;by_cases h:j<(qaW c cuts i).2.length
  ·have e:(qaW c cuts (i+1)).2.getD j 0=(qaW c cuts i).2.getD j 0:=by simp only[qaW];exact qap h
   have:=ih j;rw[e];omega
  ·have ha:=qei (arr:=(qaW c cuts i).2) (cut:=qbG (qaW c cuts i).2 (cuts.getD (c.first.toNat+i) []).dropLast) (m:=i) (fun z _=>(ih z.toNat).2) (by omega);by_cases h2:j=(qaW c cuts i).2.length
   ·have e:(qaW c cuts (i+1)).2.getD j 0=1+qca (qaW c cuts i).2 (qbG (qaW c cuts i).2 (cuts.getD (c.first.toNat+i) []).dropLast):=by
     simp only[qaW,h2];simp[List.getD]
    rw[e];omega
   ·have e:(qaW c cuts (i+1)).2.getD j 0=0:=by
     rw[List.getD_eq_getElem?_getD,List.getElem?_eq_none (by simp only[qaW,yaf,ybo];omega)];rfl
    rw[e];omega
noncomputable def qbq (c:Circ):List (List Int):=(qaW c (qbj c) c.gates.length).1
noncomputable def arrC (c:Circ):List Int:=(qaW c (qbj c) c.gates.length).2
def qpF (h:i<=n) (hv:v<c.first.toNat+i) :
  (qaW c cuts n).1.getD v []=(qaW c cuts i).1.getD v []/\(qaW c cuts n).2.getD v 0=(qaW c cuts i).2.getD v 0:=by
 induction n with
 | zero=>
      obtain rfl:i=0:=by omega
      exact⟨rfl,rfl⟩
 | succ n ih=>
  have hl:=qdJ c cuts n;by_cases hin:i<=n
  ·have:=ih hin;simp only[qaW];rw[qap (by omega),qap (by omega)];exact this
  ·obtain rfl:i=n+1:=by omega
   exact⟨rfl,rfl⟩
def qod (h:i<n) :
  (qaW c cuts n).1.getD (c.first.toNat+i) []=qbG (qaW c cuts i).2 (cuts.getD (c.first.toNat+i) []).dropLast/\
  (qaW c cuts n).2.getD (c.first.toNat+i) 0=1+qca (qaW c cuts i).2 (qbG (qaW c cuts i).2 (cuts.getD (c.first.toNat+i) []).dropLast):=by
 have hl:=qdJ c cuts i;have:=qpF (c:=c) (cuts:=cuts) (i:=i+1) (n:=n) (by omega) (v:=c.first.toNat+i) (by omega);rw[this.1,this.2];simp only[qaW];constructor
 ·have e:c.first.toNat+i=(qaW c cuts i).1.length:=by omega
  rw[e];simp[List.getD]
 ·have e:c.first.toNat+i=(qaW c cuts i).2.length:=by omega
  rw[e];simp[List.getD]
def qlq (hc:c.Valid) (h:i<c.gates.length):(qbq c).getD (c.first.toNat+i) []∈qfD ((qaN c i).getD (qbm c i/2).toNat []) ((qaN c i).getD (qbn c i/2).toNat []):=by
 have hf:=hc.first_bd;have e:((qbj c).getD (c.first.toNat+i) []).dropLast=qfD ((qaN c i).getD (qbm c i/2).toNat []) ((qaN c i).getD (qbn c i/2).toNat []):=by
  rw[qbj,qcV hf.1 h,List.dropLast_concat]
 rw[qbq,(qod h).1,e];exact qg0 (qiI hc h)
def qcH (hc:c.Valid) (h:i<c.gates.length):asc ((qbq c).getD (c.first.toNat+i) [])/\((qbq c).getD (c.first.toNat+i) []).length<=3/\∀ z∈(qbq c).getD (c.first.toNat+i) [],1<=z/\z<c.first+i:=by
 have hf:=hc.first_bd;have hl:=qa9 (c:=c) hf.1 i;obtain⟨g1,g2⟩:=hc.g i h;have ha:(qbm c i/2).toNat<c.first.toNat+i:=by unfold qbm;unfold qa7 at g1;omega
 have hb:(qbn c i/2).toNat<c.first.toNat+i:=by unfold qbn;unfold qa7 at g2;omega
 obtain⟨a1,-⟩:=qct hc i (by omega) _ (by rw[hl];exact ha);obtain⟨b1,-⟩:=qct hc i (by omega) _ (by rw[hl];exact hb);have:=qe6 (P:=fun cut=>asc cut/\cut.length<=3/\∀ z∈cut,1<=z/\z<c.first+i) (fun x hx y hy hle=>by
  have hx':=a1 x hx;have hy':=b1 y hy;refine⟨qeg hx'.asc hy'.asc,hle,fun z hz=>?_⟩;rcases(qbt _ _).1 hz with h2|h2
  ·have:=hx'.rng z h2;omega
  ·have:=hy'.rng z h2;omega) _ (qlq hc h)
 exact this
def qlr (c:Circ):(qbq c).length=c.first.toNat+c.gates.length:=(qdJ c _ _).1
def qdK (leaves:List Int) (x:Nat) (v:Int) (d:Bool):Bool:=if v∈leaves then x.testBit (leaves.idxOf v) else d
def qfE (c:Circ) (leaves:List Int) (x:Nat):Nat->List Bool
 | 0=>(List.range c.first.toNat).map fun(v:Nat)=>qdK leaves x (v:Int) false
 | i+1=>qfE c leaves x i ++ [qdK leaves x (c.first+(i:Int)) (litV (qfE c leaves x i) (qbm c i)&&litV (qfE c leaves x i) (qbn c i))]
def qiK (c:Circ) (leaves:List Int) (x:Nat) : ∀ i,(qfE c leaves x i).length=c.first.toNat+i
 | 0=>by simp[qfE]
 | i+1=>by rw[qfE,yaf,qiK c leaves x i];simp;omega
def qcp (c:Circ) (leaves:List Int) (x:Nat) (v:Int):Bool:=(qfE c leaves x c.gates.length).getD v.toNat false
def qiL (h:i<=n) (hv:v<c.first.toNat+i):(qfE c leaves x n).getD v false=(qfE c leaves x i).getD v false:=by
 induction n with
 | zero=>
      obtain rfl:i=0:=by omega
      rfl
 | succ n ih=>
  have hl:=qiK c leaves x n;by_cases hin:i<=n
  ·rw[qfE,qap (by omega)];exact ih hin
  ·obtain rfl:i=n+1:=by omega
   rfl
def qe7 {v:Int}(h0:0<=v) (h:v<c.first):qcp c leaves x v=qdK leaves x v false:=by
 rw[qcp,qiL (i:=0) (by omega) (by omega),qfE];simp[List.getD,show v.toNat<c.first.toNat by omega,Int.toNat_of_nonneg h0]
def qjH {l:Int}(h:qa7 l (c.first+(i:Int))) (hi:i<=c.gates.length) (hf:1<=c.first):litV (qfE c leaves x i) l=(qcp c leaves x (l/2) != decide (l%2=1)):=by
 unfold qa7 at h;rw[litV,qcp,qiL hi (by omega)]
def qfs (hc:c.Valid) (h:i<c.gates.length) :
  qcp c leaves x (c.first+(i:Int))=qdK leaves x (c.first+(i:Int)) ((qcp c leaves x (qbm c i/2) != decide (qbm c i%2=1))&&(qcp c leaves x (qbn c i/2) != decide (qbn c i%2=1))):=by
 have hf:=hc.first_bd;obtain⟨g1,g2⟩:=hc.g i h;have q1:litV (qfE c leaves x i) (qbm c i)=(qcp c leaves x (qbm c i/2) != decide (qbm c i%2=1)):=qjH (i:=i) g1 (by omega) hf.1;have q2:litV (qfE c leaves x i) (qbn c i)=(qcp c leaves x (qbn c i/2) != decide (qbn c i%2=1)):=qjH (i:=i) g2 (by omega) hf.1;rw[<-q1,<-q2];rw[qcp,qiL (i:=i+1) (by omega) (by omega),qfE];have e:(c.first+(i:Int)).toNat=(qfE c leaves x i).length:=by rw[qiK];omega
 rw[e];simp[List.getD]
def qdd (c:Circ) (v:Int) (leaves:List Int):Nat->Nat
 | 0=>0
 | x+1=>qdd c v leaves x+(if qcp c leaves x v then 2 ^ x else 0)
def qe8 (c:Circ) (v:Int) (leaves:List Int) : ∀ n,qdd c v leaves n<2 ^ n
 | 0=>by simp[qdd]
 | n+1=>by
  have:=qe8 c v leaves n;rw[qdd,Nat.pow_succ];split <;> omega
def qjI (c:Circ) (v:Int) (leaves:List Int) : ∀ n x,x<n->(qdd c v leaves n).testBit x=qcp c leaves x v
 | 0,x,h=>by omega
 | n+1,x,h=>by
  have hlt:=qe8 c v leaves n;have ih:=qjI c v leaves n;rw[qdd];by_cases hx:x=n
  ·subst hx;split
   ·rename_i h1;rw[Nat.add_comm,Nat.testBit_two_pow_add_eq,Nat.testBit_lt_two_pow hlt,h1];rfl
   ·rename_i h1;rw[ybe,Nat.testBit_lt_two_pow hlt];simpa using h1
  ·have hxn:x<n:=by omega
   split
   ·rw[Nat.add_comm,Nat.testBit_two_pow_add_gt hxn];exact ih x hxn
   ·exact ih x hxn
def qgn (c:Circ) (v:Int) (leaves:List Int):Int:=(qdd c v leaves (2 ^ leaves.length):Nat)
structure Lut where
 var:Int
 leaves:List Int
 table:Int
def qbo (need:List Bool) (vs:List Int):List Bool:=vs.foldl (fun n v=>n.set v.toNat true) need
def qck : ∀ (vs:List Int) (need:List Bool),(qbo need vs).length=need.length
 | [],need=>rfl
 | v::vs,need=>by
  show(qbo (need.set v.toNat true) vs).length=_
  rw[qck vs,yae]
def qej : ∀ (vs:List Int) (need:List Bool) (j:Nat),(∀ v∈vs,0<=v)->(qbo need vs).getD j false=(need.getD j false || decide (j<need.length/\(j:Int)∈vs))
 | [],need,j,_=>by simp[qbo]
 | v::vs,need,j,h=>by
  show(qbo (need.set v.toNat true) vs).getD j false=_
  rw[qej vs _ j fun z hz=>h z (by simp[hz])];have hv:=h v (by simp);by_cases e:v.toNat=j
  ·subst e;by_cases hl:v.toNat<need.length
   ·simp[List.getD,hl,Int.toNat_of_nonneg hv]
   ·simp[List.getD,hl]
  ·have : ¬ (j:Int)=v:=by omega
   simp[List.getD,List.getElem?_set,e,this]
def qbp (c:Circ):List Int:=(c.outs++c.next).map (· / 2)
def qe9 (c:Circ):List Bool:=qbo (List.replicate c.vars.toNat false) (qbp c)
noncomputable def mapD (c:Circ):Nat->List Bool->List Lut->List Lut
 | 0,_,out=>out
 | j+1,need,out=>
  if need.getD (c.first.toNat+j) false=true then
   mapD c j (qbo need ((qbq c).getD (c.first.toNat+j) [])) (⟨c.first+(j:Int),(qbq c).getD (c.first.toNat+j) [],qgn c (c.first+(j:Int)) ((qbq c).getD (c.first.toNat+j) [])⟩::out)
  else mapD c j need out
noncomputable def qdq (c:Circ):List Lut:=mapD c c.gates.length (qe9 c) []
structure Cel where
 net:Int
 inputs:List Int
 table:Int
 reg:Bool
def qaQ (c:Circ) (i:Nat):Cel:=
 if(c.next.getD i 0)/2 > 0 then⟨c.inputs+1+i,[(c.next.getD i 0)/2],2-(c.next.getD i 0)%2,true⟩ else⟨c.inputs+1+i,[],(c.next.getD i 0)%2,true⟩
def qba (l:Lut):Cel:=⟨l.var,l.leaves,l.table,false⟩
noncomputable def qaf (c:Circ):List Cel:=(List.range c.next.length).map (qaQ c)++(qdq c).map qba
def ce0:Cel:=⟨0,[],0,false⟩
def qfa (x:Cel) (net:Int) (i:Nat):List Int:=(x.inputs.filter fun z=>decide (z=net)).map fun _=>(i:Int)
def qbf (cells:List Cel) (net:Int):Nat->List Int
 | 0=>[]
 | i+1=>qbf cells net i++qfa (cells.getD i ce0) net i
def qdj (cells:List Cel) (net:Int):List Int:=qbf cells net cells.length
def qek {cells:List Cel}{net:Int}{z:Int} : ∀ {n:Nat},z∈qbf cells net n↔∃ i:Nat,i<n/\net∈(cells.getD i ce0).inputs/\z=(i:Int)
 | 0=>by simp[qbf]
 | n+1=>by
  rw[qbf,yat,qek];constructor
  ·rintro(⟨i,h1,h2,h3⟩|h)
   ·exact⟨i,by omega,h2,h3⟩
   ·simp only[qfa,List.mem_map,List.mem_filter,decide_eq_true_eq] at h;obtain⟨w,⟨h1,rfl⟩,rfl⟩:=h;exact⟨n,by omega,h1,rfl⟩
  ·rintro⟨i,h1,h2,rfl⟩;by_cases hi:i<n
   ·exact .inl ⟨i,hi,h2,rfl⟩
   ·obtain rfl:i=n:=by omega
    exact .inr (List.mem_map.2 ⟨net,List.mem_filter.2 ⟨h2,by simp⟩,rfl⟩)
end Go.VL
