/- Contracts, plain definitions and lemmas. Conditions: none; lemmas. -/
import Derived.Test.YteikeianenfhaaaGreatC60
import Derived.Test.YteikeianenfhaaaGreatC7
import Derived.Test.YteikeianenfhaaaGreatC11
set_option linter.unusedVariables false
set_option linter.unusedSimpArgs false
set_option maxHeartbeats 2000000
namespace Go.VL
def qcg (arr:List Int) (cut:List Int):Int:=cut.foldl (fun t v=>max t (arr.getD v.toNat 0)) 0
def qch (arr:List Int) (x b:List Int):Prop:=qcg arr x<qcg arr b∨(qcg arr x=qcg arr b/\x.length<b.length)
instance (arr:List Int) (x b:List Int):Decidable (qch arr x b):=by unfold qch;infer_instance
def qb5 (arr:List Int):List (List Int)->List Int
 | []=>[]
 | x::r=>r.foldl (fun b y=>if qch arr y b then y else b) x
theorem qmZ {arr:List Int}{l:List (List Int)}{y:List Int}(h:0<l.length):qb5 arr (l ++ [y])=if qch arr y (qb5 arr l) then y else qb5 arr l:=by
 cases l with
 | nil=>simp at h
 | cons x r=>
  have e : ∀ s,qb5 arr (x::s)=s.foldl (fun b y=>if qch arr y b then y else b) x:=fun s=>rfl
  show qb5 arr (x::(r ++ [y]))=_
  rw[e (r ++ [y]),yaQ];rfl
theorem qgY {arr:List Int}{l:List (List Int)}(h:0<l.length):qb5 arr l∈l:=by
 cases l with
 | nil=>simp at h
 | cons x r=>
  have : ∀ (r:List (List Int)) (b:List Int),r.foldl (fun b y=>if qch arr y b then y else b) b=b∨r.foldl (fun b y=>if qch arr y b then y else b) b∈r:=by
   intro r;induction r with
   | nil=>exact fun b=>.inl rfl
   | cons y r ih=>
    intro b;simp only[yap];rcases ih (if qch arr y b then y else b) with h1|h1
    ·rw[h1];split
     ·exact .inr (by simp)
     ·exact .inl rfl
    ·exact .inr (by simp[h1])
  rcases this r x with h1|h1
  ·rw[qb5,h1];simp
  ·rw[qb5];simp[h1]
def qaZ (c:Circ) (cuts:List (List (List Int))):Nat->List (List Int)×List Int
 | 0=>(List.replicate c.first.toNat [],List.replicate c.first.toNat 0)
 | i+1=>
  (
   (qaZ c cuts i).1 ++ [qb5 (qaZ c cuts i).2 (cuts.getD (c.first.toNat+i) []).dropLast],
   (qaZ c cuts i).2 ++ [1+qcg (qaZ c cuts i).2 (qb5 (qaZ c cuts i).2 (cuts.getD (c.first.toNat+i) []).dropLast)])
theorem qd0 (c:Circ) (cuts:List (List (List Int))) : ∀ i,(qaZ c cuts i).1.length=c.first.toNat+i/\(qaZ c cuts i).2.length=c.first.toNat+i
 | 0=>by simp[qaZ]
 | i+1=>by
  have:=qd0 c cuts i;simp only[qaZ,yae,yaK];omega
theorem qfm {arr:List Int}{cut:List Int}{m:Int}(h : ∀ z∈cut,arr.getD z.toNat 0<=m) (hm:0<=m):0<=qcg arr cut/\qcg arr cut<=m:=by
 have : ∀ (cut:List Int) (t:Int),(∀ z∈cut,arr.getD z.toNat 0<=m)->0<=t->t<=m->0<=cut.foldl (fun t v=>max t (arr.getD v.toNat 0)) t/\cut.foldl (fun t v=>max t (arr.getD v.toNat 0)) t<=m:=by
  intro cut;induction cut with
  | nil=>exact fun t _ h1 h2=>⟨h1,h2⟩
  | cons x r ih=>
   intro t h h1 h2;have hx:=h x (by simp);exact ih (max t (arr.getD x.toNat 0)) (fun z hz=>h z (by simp[hz])) (by omega) (by omega)
 exact this cut 0 h (Int.le_refl 0) hm
theorem qnV (c:Circ) (cuts:List (List (List Int))) : ∀ i j,0<=(qaZ c cuts i).2.getD j 0/\(qaZ c cuts i).2.getD j 0<=i
 | 0,j=>by
  by_cases h:j<c.first.toNat
  ·simp[qaZ,List.getD,h]
  ·simp[qaZ,List.getD,h]
 | i+1,j=>by
  have ih:=qnV c cuts i;have hl:=(qd0 c cuts i).2;by_cases h:j<(qaZ c cuts i).2.length
  ·have e:(qaZ c cuts (i+1)).2.getD j 0=(qaZ c cuts i).2.getD j 0:=by simp only[qaZ];exact qae h
   have:=ih j;rw[e];omega
  ·have ha:=qfm (arr:=(qaZ c cuts i).2) (cut:=qb5 (qaZ c cuts i).2 (cuts.getD (c.first.toNat+i) []).dropLast) (m:=i) (fun z _=>(ih z.toNat).2) (by omega);by_cases h2:j=(qaZ c cuts i).2.length
   ·have e:(qaZ c cuts (i+1)).2.getD j 0=1+qcg (qaZ c cuts i).2 (qb5 (qaZ c cuts i).2 (cuts.getD (c.first.toNat+i) []).dropLast):=by
     simp only[qaZ,h2];simp[List.getD]
    rw[e];omega
   ·have e:(qaZ c cuts (i+1)).2.getD j 0=0:=by
     rw[List.getD_eq_getElem?_getD,List.getElem?_eq_none (by simp only[qaZ,yae,yaK];omega)];rfl
    rw[e];omega
noncomputable def qbY (c:Circ):List (List Int):=(qaZ c (qco c) c.gates.length).1
noncomputable def arrC (c:Circ):List Int:=(qaZ c (qco c) c.gates.length).2
theorem qqG {c:Circ}{cuts:List (List (List Int))}{i n:Nat}(h:i<=n) {v:Nat}(hv:v<c.first.toNat+i) :
  (qaZ c cuts n).1.getD v []=(qaZ c cuts i).1.getD v []/\(qaZ c cuts n).2.getD v 0=(qaZ c cuts i).2.getD v 0:=by
 induction n with
 | zero=>
      obtain rfl:i=0:=by omega
      exact⟨rfl,rfl⟩
 | succ n ih=>
  have hl:=qd0 c cuts n;by_cases hin:i<=n
  ·have:=ih hin;simp only[qaZ];rw[qae (by omega),qae (by omega)];exact this
  ·obtain rfl:i=n+1:=by omega
   exact⟨rfl,rfl⟩
theorem qoU {c:Circ}{cuts:List (List (List Int))}{i n:Nat}(h:i<n) :
  (qaZ c cuts n).1.getD (c.first.toNat+i) []=qb5 (qaZ c cuts i).2 (cuts.getD (c.first.toNat+i) []).dropLast/\
  (qaZ c cuts n).2.getD (c.first.toNat+i) 0=1+qcg (qaZ c cuts i).2 (qb5 (qaZ c cuts i).2 (cuts.getD (c.first.toNat+i) []).dropLast):=by
 have hl:=qd0 c cuts i;have:=qqG (c:=c) (cuts:=cuts) (i:=i+1) (n:=n) (by omega) (v:=c.first.toNat+i) (by omega);rw[this.1,this.2];simp only[qaZ];constructor
 ·have e:c.first.toNat+i=(qaZ c cuts i).1.length:=by omega
  rw[e];simp[List.getD]
 ·have e:c.first.toNat+i=(qaZ c cuts i).2.length:=by omega
  rw[e];simp[List.getD]
theorem qlH {c:Circ}(hc:c.Valid) {i:Nat}(h:i<c.gates.length):(qbY c).getD (c.first.toNat+i) []∈qgX ((qaM c i).getD (qbN c i/2).toNat []) ((qaM c i).getD (qbO c i/2).toNat []):=by
 have hf:=hc.first_bd;have e:((qco c).getD (c.first.toNat+i) []).dropLast=qgX ((qaM c i).getD (qbN c i/2).toNat []) ((qaM c i).getD (qbO c i/2).toNat []):=by
  rw[qco,qdZ hf.1 h,List.dropLast_concat]
 rw[qbY,(qoU h).1,e];exact qgY (qlG hc h)
theorem qet {c:Circ}(hc:c.Valid) {i:Nat}(h:i<c.gates.length):asc ((qbY c).getD (c.first.toNat+i) [])/\((qbY c).getD (c.first.toNat+i) []).length<=3/\∀ z∈(qbY c).getD (c.first.toNat+i) [],1<=z/\z<c.first+i:=by
 have hf:=hc.first_bd;have hl:=qbf (c:=c) hf.1 i;obtain⟨g1,g2⟩:=hc.g i h;have ha:(qbN c i/2).toNat<c.first.toNat+i:=by unfold qbN;unfold qaK at g1;omega
 have hb:(qbO c i/2).toNat<c.first.toNat+i:=by unfold qbO;unfold qaK at g2;omega
 obtain⟨a1,-⟩:=qdE hc i (by omega) _ (by rw[hl];exact ha);obtain⟨b1,-⟩:=qdE hc i (by omega) _ (by rw[hl];exact hb);have:=qgi (P:=fun cut=>asc cut/\cut.length<=3/\∀ z∈cut,1<=z/\z<c.first+i) (fun x hx y hy hle=>by
  have hx':=a1 x hx;have hy':=b1 y hy;refine⟨qdY hx'.asc hy'.asc,hle,fun z hz=>?_⟩;rcases(qbl _ _).1 hz with h2|h2
  ·have:=hx'.rng z h2;omega
  ·have:=hy'.rng z h2;omega) _ (qlH hc h)
 exact this
theorem qqH (c:Circ):(qbY c).length=c.first.toNat+c.gates.length:=(qd0 c _ _).1
def qd1 (leaves:List Int) (x:Nat) (v:Int) (d:Bool):Bool:=if v∈leaves then x.testBit (leaves.idxOf v) else d
def qfw (c:Circ) (leaves:List Int) (x:Nat):Nat->List Bool
 | 0=>(List.range c.first.toNat).map fun(v:Nat)=>qd1 leaves x (v:Int) false
 | i+1=>qfw c leaves x i ++ [qd1 leaves x (c.first+(i:Int)) (litV (qfw c leaves x i) (qbN c i)&&litV (qfw c leaves x i) (qbO c i))]
theorem qiL (c:Circ) (leaves:List Int) (x:Nat) : ∀ i,(qfw c leaves x i).length=c.first.toNat+i
 | 0=>by simp[qfw]
 | i+1=>by rw[qfw,yae,qiL c leaves x i];simp;omega
def qcu (c:Circ) (leaves:List Int) (x:Nat) (v:Int):Bool:=(qfw c leaves x c.gates.length).getD v.toNat false
theorem qiM {c:Circ}{leaves:List Int}{x:Nat}{i n:Nat}(h:i<=n) {v:Nat}(hv:v<c.first.toNat+i):(qfw c leaves x n).getD v false=(qfw c leaves x i).getD v false:=by
 induction n with
 | zero=>
      obtain rfl:i=0:=by omega
      rfl
 | succ n ih=>
  have hl:=qiL c leaves x n;by_cases hin:i<=n
  ·rw[qfw,qae (by omega)];exact ih hin
  ·obtain rfl:i=n+1:=by omega
   rfl
theorem qgj {c:Circ}{leaves:List Int}{x:Nat}{v:Int}(h0:0<=v) (h:v<c.first):qcu c leaves x v=qd1 leaves x v false:=by
 rw[qcu,qiM (i:=0) (by omega) (by omega),qfw];simp[List.getD,show v.toNat<c.first.toNat by omega,Int.toNat_of_nonneg h0]
theorem qjK {c:Circ}{leaves:List Int}{x:Nat}{i:Nat}{l:Int}(h:qaK l (c.first+(i:Int))) (hi:i<=c.gates.length) (hf:1<=c.first):litV (qfw c leaves x i) l=(qcu c leaves x (l/2) != decide (l%2=1)):=by
 unfold qaK at h;rw[litV,qcu,qiM hi (by omega)]
theorem qgZ {c:Circ}(hc:c.Valid) {leaves:List Int}{x:Nat}{i:Nat}(h:i<c.gates.length) :
  qcu c leaves x (c.first+(i:Int))=qd1 leaves x (c.first+(i:Int)) ((qcu c leaves x (qbN c i/2) != decide (qbN c i%2=1))&&(qcu c leaves x (qbO c i/2) != decide (qbO c i%2=1))):=by
 have hf:=hc.first_bd;obtain⟨g1,g2⟩:=hc.g i h;have q1:litV (qfw c leaves x i) (qbN c i)=(qcu c leaves x (qbN c i/2) != decide (qbN c i%2=1)):=qjK (i:=i) g1 (by omega) hf.1;have q2:litV (qfw c leaves x i) (qbO c i)=(qcu c leaves x (qbO c i/2) != decide (qbO c i%2=1)):=qjK (i:=i) g2 (by omega) hf.1;rw[<-q1,<-q2];rw[qcu,qiM (i:=i+1) (by omega) (by omega),qfw];have e:(c.first+(i:Int)).toNat=(qfw c leaves x i).length:=by rw[qiL];omega
 rw[e];simp[List.getD]
def qd2 (c:Circ) (v:Int) (leaves:List Int):Nat->Nat
 | 0=>0
 | x+1=>qd2 c v leaves x+(if qcu c leaves x v then 2 ^ x else 0)
theorem qgk (c:Circ) (v:Int) (leaves:List Int) : ∀ n,qd2 c v leaves n<2 ^ n
 | 0=>by simp[qd2]
 | n+1=>by
  have:=qgk c v leaves n;rw[qd2,Nat.pow_succ];split <;> omega
theorem qjL (c:Circ) (v:Int) (leaves:List Int) : ∀ n x,x<n->(qd2 c v leaves n).testBit x=qcu c leaves x v
 | 0,x,h=>by omega
 | n+1,x,h=>by
  have hlt:=qgk c v leaves n;have ih:=qjL c v leaves n;rw[qd2];by_cases hx:x=n
  ·subst hx;split
   ·rename_i h1;rw[Nat.add_comm,Nat.testBit_two_pow_add_eq,Nat.testBit_lt_two_pow hlt,h1];rfl
   ·rename_i h1;rw[yaP,Nat.testBit_lt_two_pow hlt];simpa using h1
  ·have hxn:x<n:=by omega
   split
   ·rw[Nat.add_comm,Nat.testBit_two_pow_add_gt hxn];exact ih x hxn
   ·exact ih x hxn
def qlI (c:Circ) (v:Int) (leaves:List Int):Int:=(qd2 c v leaves (2 ^ leaves.length):Nat)
structure Lut where
 var:Int
 leaves:List Int
 table:Int
def qck (need:List Bool) (vs:List Int):List Bool:=vs.foldl (fun n v=>n.set v.toNat true) need
theorem qcL : ∀ (vs:List Int) (need:List Bool),(qck need vs).length=need.length
 | [],need=>rfl
 | v::vs,need=>by
  show(qck (need.set v.toNat true) vs).length=_
  rw[qcL vs,yax]
theorem qd3 : ∀ (vs:List Int) (need:List Bool) (j:Nat),(∀ v∈vs,0<=v)->(qck need vs).getD j false=(need.getD j false || decide (j<need.length/\(j:Int)∈vs))
 | [],need,j,_=>by simp[qck]
 | v::vs,need,j,h=>by
  show(qck (need.set v.toNat true) vs).getD j false=_
  rw[qd3 vs _ j fun z hz=>h z (by simp[hz])];have hv:=h v (by simp);by_cases e:v.toNat=j
  ·subst e;by_cases hl:v.toNat<need.length
   ·simp[List.getD,hl,Int.toNat_of_nonneg hv]
   ·simp[List.getD,hl]
  ·have : ¬ (j:Int)=v:=by omega
   simp[List.getD,List.getElem?_set,e,this]
def qcO (c:Circ):List Int:=(c.outs++c.next).map (· / 2)
def qg0 (c:Circ):List Bool:=qck (List.replicate c.vars.toNat false) (qcO c)
noncomputable def mapD (c:Circ):Nat->List Bool->List Lut->List Lut
 | 0,_,out=>out
 | j+1,need,out=>
  if need.getD (c.first.toNat+j) false=true then
   mapD c j (qck need ((qbY c).getD (c.first.toNat+j) [])) (⟨c.first+(j:Int),(qbY c).getD (c.first.toNat+j) [],qlI c (c.first+(j:Int)) ((qbY c).getD (c.first.toNat+j) [])⟩::out)
  else mapD c j need out
noncomputable def qeu (c:Circ):List Lut:=mapD c c.gates.length (qg0 c) []
structure Cel where
 net:Int
 inputs:List Int
 table:Int
 reg:Bool
def qaO (c:Circ) (i:Nat):Cel:=
 if(c.next.getD i 0)/2 > 0 then⟨c.inputs+1+i,[(c.next.getD i 0)/2],2-(c.next.getD i 0)%2,true⟩ else⟨c.inputs+1+i,[],(c.next.getD i 0)%2,true⟩
def qbE (l:Lut):Cel:=⟨l.var,l.leaves,l.table,false⟩
noncomputable def qad (c:Circ):List Cel:=(List.range c.next.length).map (qaO c)++(qeu c).map qbE
def ce0:Cel:=⟨0,[],0,false⟩
def qlJ (x:Cel) (net:Int) (i:Nat):List Int:=(x.inputs.filter fun z=>decide (z=net)).map fun _=>(i:Int)
def qcs (cells:List Cel) (net:Int):Nat->List Int
 | 0=>[]
 | i+1=>qcs cells net i++qlJ (cells.getD i ce0) net i
def qgl (cells:List Cel) (net:Int):List Int:=qcs cells net cells.length
theorem qfn {cells:List Cel}{net:Int}{z:Int} : ∀ {n:Nat},z∈qcs cells net n↔∃ i:Nat,i<n/\net∈(cells.getD i ce0).inputs/\z=(i:Int)
 | 0=>by simp[qcs]
 | n+1=>by
  rw[qcs,yas,qfn];constructor
  ·rintro(⟨i,h1,h2,h3⟩|h)
   ·exact⟨i,by omega,h2,h3⟩
   ·simp only[qlJ,List.mem_map,List.mem_filter,decide_eq_true_eq] at h;obtain⟨w,⟨h1,rfl⟩,rfl⟩:=h;exact⟨n,by omega,h1,rfl⟩
  ·rintro⟨i,h1,h2,rfl⟩;by_cases hi:i<n
   ·exact .inl ⟨i,hi,h2,rfl⟩
   ·obtain rfl:i=n:=by omega
    exact .inr (List.mem_map.2 ⟨net,List.mem_filter.2 ⟨h2,by simp⟩,rfl⟩)
end Go.VL

set_option maxRecDepth 20000
set_option linter.unusedVariables false
set_option linter.unusedSimpArgs false
namespace Go.Proofs
open Go Go.VL Tryz
abbrev Kn:=List (Int×Bool)
def kn (m:Kn) (k:Int):Option Bool:=(m.find? fun e=>decide (e.1=k)).map fun e=>e.2
def knUp:Kn->Int->Bool->Kn
 | [],k,b=>[(k,b)]
 | e::r,k,b=>if e.1=k then(k,b)::r else e::knUp r k b
theorem qm0 (k:Int) (b:Bool) (j:Int) : ∀ m,kn (knUp m k b) j=if j=k then some b else kn m j
 | []=>by by_cases h:j=k <;> simp[kn,knUp,h,eq_comm]
 | e::r=>by
  have ih:=qm0 k b j r;unfold knUp;by_cases h:e.1=k
  ·rw[if_pos h];by_cases h2:j=k
   ·simp[kn,h2]
   ·have h3 : ¬ e.1=j:=fun h4=>h2 (by rw[<-h4,h])
    have h4 : ¬ k=j:=fun h5=>h2 h5.symm
    simp[kn,h2,h3,h4]
  ·rw[if_neg h];by_cases h3:e.1=j
   ·have h2 : ¬ j=k:=fun h4=>h (by rw[h3,h4])
    simp[kn,h2,h3]
   ·unfold kn at ih ⊢;simp only[List.find?_cons,decide_eq_false h3,ih]
def knE (m:Kn):List (D×D):=m.map fun e=>(dI e.1,D.bool e.2)
theorem qkG (k:Int) : ∀ m,qcc (knE m) (dI k)=(kn m k).map D.bool
 | []=>rfl
 | e::r=>by
  have ih:=qkG k r;show qcc ((dI e.1,D.bool e.2)::knE r) _=_
  rw[qdT,qdk];by_cases h:e.1=k
  ·subst h;simp[kn]
  ·rw[decide_eq_false (fun h2=>h h2.symm)];simp only[yag,if_false,ih];simp[kn,h]
theorem qkH (k:Int) (b:Bool) : ∀ m,updD (knE m) (dI k) (D.bool b)=knE (knUp m k b)
 | []=>rfl
 | e::r=>by
  have ih:=qkH k b r;show updD ((dI e.1,D.bool e.2)::knE r) _ _=_
  rw[updD,qdk];by_cases h:e.1=k
  ·subst h;simp[knUp,knE]
  ·rw[decide_eq_false (fun h2=>h h2.symm)];simp only[yag,if_false,ih];simp[knUp,knE,h]
theorem qhL (m:Kn):qba (.int .i64) (knE m):=by
 rw[qcI];intro e he;obtain⟨x,_,rfl⟩:=List.mem_map.1 he;exact rfl
structure KnOk (c:Circ) (leaves:List Int) (x:Nat) (m:Kn):Prop where
 val : ∀ k b,kn m k=some b->b=qcu c leaves x k
 leaf : ∀ z∈leaves,kn m z≠none
theorem KnOk.up {c:Circ}{leaves:List Int}{x:Nat}{m:Kn}(h:KnOk c leaves x m) (k:Int):KnOk c leaves x (knUp m k (qcu c leaves x k)):=by
 refine⟨fun j b hj=>?_,fun z hz=>?_⟩
 ·rw[qm0] at hj;split at hj
  ·rename_i e;subst e;simpa using hj.symm
  ·exact h.val j b hj
 ·rw[qm0];split
  ·simp
  ·exact h.leaf z hz
theorem quF {c:Circ}{leaves:List Int}{x:Nat}{v:Int}{m:Kn}{X:Bool}{T:List R}(hm:KnOk c leaves x m) (hX:X=qcu c leaves x v) :
  endI 1 (fun r H'=>∃ m',KnOk c leaves x m'/\r=I.d (dB (qcu c leaves x v))/\H'=[R.map (knE m')]) (I.d (D.bool X)) (.map (updD (knE m) (dI v) (D.bool X))::T):=by
 subst hX;rw[qkH];refine qaH (r0:=.d (dB (qcu c leaves x v))) (H1:=[.map (knE (knUp m v (qcu c leaves x v)))]) ?_ ⟨_,hm.up v,rfl,rfl⟩;simp only[go_sem,seval]
set_option maxHeartbeats 4000000 in
theorem Tryz.c_coneValue (c:Circ) (hc:c.Valid) (leaves:List Int) (x:Nat) : ∀ (n:Nat) (v:Int) (m:Kn),v.toNat<n->0<=v->v<c.vars->KnOk c leaves x m->
  ICall prog 208 [.d (pC c),.d (dI v),.map 0] [.map (knE m)] (fun r H'=>∃ m',KnOk c leaves x m'/\r=.d (dB (qcu c leaves x v))/\H'=[.map (knE m')]):=by
 have hf:=hc.first_bd;have hi0:=hc.i0;have hi1:=hc.i1;have hvv:=hc.vars_bd;have hfst:=c_firstGate c (by omega);intro n;induction n with
 | zero=>intro v m h;omega
 | succ n ih=>
  intro v m hvn hv0 hv hm;have ek:=qkG v m;have hks:=qhL m;have hnl:kn m v=none->v∉leaves:=fun h hv=>hm.leaf v hv h
  cases hkn:kn m v with
  | some b=>
   rw[hkn] at ek;refine qau (E:=env 1) tok rfl 1000 func208 rfl rfl ntmps208 (by simp) ?_;simp only[go_sem,seval,ek,yaj]
   repeat' first|assumption|(simp (disch:=first|assumption|omega|(simp;done)|(simp;omega)) only[];try simp only[go_sem,seval,ek,yaj])|(with_reducible first|apply And.intro|intro _)|(refine qab hfst ?_;simp only[go_sem,seval,ek,yaj])|(refine qaR (fun _=>hfst) ?_;simp only[go_sem,seval,ek,yaj])|((try rw[qaa]);omega)
   refine qaH (r0:=.d (dB (qcu c leaves x v))) (H1:=[.map (knE m)]) ?_ ⟨m,hm,rfl,rfl⟩;rw[<-hm.val v b hkn];simp only[go_sem,seval]
  | none=>
   rw[hkn] at ek;have hvl:=hnl hkn;by_cases hlow:v<c.first
   ·have hval:qcu c leaves x v=false:=by rw[qgj hv0 hlow,qd1,if_neg hvl]
    refine qau (E:=env 1) tok rfl 1000 func208 rfl rfl ntmps208 (by simp) ?_;simp only[go_sem,seval,ek,yah]
    repeat' first|assumption|(simp (disch:=first|assumption|omega|(simp;done)|(simp;omega)) only[];try simp only[go_sem,seval,ek,yah])|(with_reducible first|apply And.intro|intro _)|(refine qab hfst ?_;simp only[go_sem,seval,ek,yah])|(refine qaR (fun _=>hfst) ?_;simp only[go_sem,seval,ek,yah])|((try rw[qaa]);omega)
    refine qaH (r0:=.d (dB (qcu c leaves x v))) (H1:=[.map (knE m)]) ?_ ⟨m,hm,rfl,rfl⟩;rw[hval];simp only[go_sem,seval]
   ·obtain⟨i,rfl⟩ : ∃ i:Nat,v=c.first+(i:Int):=⟨(v-c.first).toNat,by omega⟩
    have hi:i<c.gates.length:=by unfold Circ.vars at hv;omega
    obtain⟨g1,g2⟩:=hc.g i hi;have hval:=qgZ hc (leaves:=leaves) (x:=x) hi;rw[qd1,if_neg hvl] at hval;have ei:(c.first+(i:Int)-c.first).toNat=i:=by omega
    have ea:qbN c i=(c.gates.getD i (0,0)).1:=rfl;have eb:qbO c i=(c.gates.getD i (0,0)).2:=rfl;rw[ea,eb] at hval;unfold qaK at g1 g2;have iha:=fun m hm=>ih ((c.gates.getD i (0,0)).1/2) m (by omega) (by omega) (by unfold Circ.vars;omega) hm
    have ihb:=fun m hm=>ih ((c.gates.getD i (0,0)).2/2) m (by omega) (by omega) (by unfold Circ.vars;omega) hm
    have hg : ∀ z,(c.gates.map fun x=>dP x).getD i z=dP (c.gates.getD i (0,0)):=fun z=>getD_lt _ _ _ _ _ hi
    generalize c.gates.getD i (0,0)=gg at *
    obtain⟨ga,gb⟩:=gg;simp only at hval g1 g2 iha ihb;have ha2:((ga.toNat &&& 1:Nat):Int)=ga%2:=by rw[Nat.and_one_is_mod];omega
    have hb2:((gb.toNat &&& 1:Nat):Int)=gb%2:=by rw[Nat.and_one_is_mod];omega
    have cva : ∀ {m:Kn}{T:List R}{K:I->List R->Prop},KnOk c leaves x m->(∀ m',KnOk c leaves x m'->K (.d (dB (qcu c leaves x (ga/2)))) (.map (knE m')::T))->
      ICall prog 208 [.d (pC c),.d (dI (ga/2)),.map 0] (.map (knE m)::T) K:=fun {m T K} hm hk=>by
     refine qal (iha m hm) [0] (by simp only[go_sem,seval]) ?_;rintro r0 H1 ⟨m',hm',rfl,rfl⟩;have:=hk m' hm';simp only[go_sem,seval];simpa using this
    have cvb : ∀ {m:Kn}{T:List R}{K:I->List R->Prop},KnOk c leaves x m->(∀ m',KnOk c leaves x m'->K (.d (dB (qcu c leaves x (gb/2)))) (.map (knE m')::T))->
      ICall prog 208 [.d (pC c),.d (dI (gb/2)),.map 0] (.map (knE m)::T) K:=fun {m T K} hm hk=>by
     refine qal (ihb m hm) [0] (by simp only[go_sem,seval]) ?_;rintro r0 H1 ⟨m',hm',rfl,rfl⟩;have:=hk m' hm';simp only[go_sem,seval];simpa using this
    refine qau (E:=env 1) tok rfl 1000 func208 rfl rfl ntmps208 (by simp) ?_;simp only[go_sem,seval,ek,yah,ei,hg]
    repeat' first|assumption|(simp (disch:=first|assumption|omega|(simp;done)|(simp;omega)) only[];try simp only[go_sem,seval,ek,yah,ei,hg])|(with_reducible first|apply And.intro|intro _)|(refine qab hfst ?_;simp only[go_sem,seval,ek,yah,ei,hg])|(refine qaR (fun _=>hfst) ?_;simp only[go_sem,seval,ek,yah,ei,hg])|((try rw[qaa]);omega)
    refine qaP (n:=1) [11] (fsts [0,1,2,4,5,3] (.two 6 (fsts [7,8] (.two 9 (.one 10 (.one 11 .done)) 10 (.one 9 (.one 11 .done)))) 10 (.one 6 (fsts [7,8] (.one 9 (.one 11 .done)))))) ?_;simp only[go_sem,seval,ek,yah,ei,hg]
    repeat' first|assumption|(simp (disch:=first|assumption|omega|(simp;done)|(simp;omega)) only[];try simp only[go_sem,seval,ek,yah,ei,hg])|(with_reducible first|apply And.intro|intro _)|(refine qab hfst ?_;simp only[go_sem,seval,ek,yah,ei,hg])|(refine qaR (fun _=>hfst) ?_;simp only[go_sem,seval,ek,yah,ei,hg])|((try rw[qaa]);omega)
    all_goals (
     refine qaP (n:=1) [5,17] (fsts [0,1,4,6,2,3] (.two 5 (.one 7 (fsts [8,9,10,11,12,13,16,18] (.two 14 (.fst 15 (.two 17 (.one 19 (fsts [20,21,22,23,24] .done)) 19 (fsts [20,21] (.one 17 (fsts [22,23,24] .done))))) 19 (fsts [20,21] (.one 14 (.fst 15 (.one 17 (fsts [22,23,24] .done)))))))) 7 (fsts [8,9] (.one 5 (fsts [10,11,12,13,16,18] (.two 14 (.fst 15 (.two 17 (.one 19 (fsts [20,21,22,23,24] .done)) 19 (fsts [20,21] (.one 17 (fsts [22,23,24] .done))))) 19 (fsts [20,21] (.one 14 (.fst 15 (.one 17 (fsts [22,23,24] .done))))))))))) ?_;simp only[go_sem,seval,ha2,hb2]
     repeat' first|assumption|(simp (disch:=first|assumption|omega|(simp;done)|(simp;omega)) only[];try simp only[go_sem,seval,ha2,hb2])|(with_reducible first|apply And.intro|intro _)|(refine cva (by assumption) ?_;simp only[go_sem,seval,ha2,hb2])|(refine cvb (by assumption) ?_;simp only[go_sem,seval,ha2,hb2])|(refine @Exists.intro I _ (I.d (D.bool false)) ?_;simp only[go_sem,seval,ha2,hb2])|((try rw[qaa]);omega))
    all_goals first
     | exact qhL _
     | exact quF (by assumption) hval.symm
     | exact quF (by assumption) (by rw[hval];simp_all)
end Go.Proofs

set_option maxRecDepth 20000
set_option linter.unusedVariables false
set_option linter.unusedSimpArgs false
namespace Go.Proofs
open Go Go.VL
abbrev dIss (l:List (List Int)):D:=.lst 1 (l.map fun x=>dIs x)
abbrev qta (l:List (List (List Int))):D:=.lst 1 (l.map fun x=>dIss x)
theorem qaN {l:List (List Int)}{i:Nat}{z:D}(h:i<l.length):(l.map fun x=>dIs x).getD i z=dIs (l.getD i []):=getD_lt _ _ _ _ _ h
theorem qci {l:List (List (List Int))}{i:Nat}{z:D}(h:i<l.length):(l.map fun x=>dIss x).getD i z=dIss (l.getD i []):=getD_lt _ _ _ _ _ h
theorem qa9 {α β : Type}{f : α->β}{l:List α}{i:Nat}(z : α) (h:i<l.length):(l.take (i+1)).map f=(l.take i).map f ++ [f (l.getD i z)]:=by
 rw[yal h,yaE];simp[List.getD,h]
def qfZ (c:Circ) (l:List (List Int)):List D:=List.replicate c.first.toNat .nil++(l.drop c.first.toNat).map fun x=>dIs x
theorem qe3 {c:Circ}{l:List (List Int)}(h:c.first.toNat<=l.length):(qfZ c l).length=l.length:=by simp[qfZ];omega
theorem qqI {c:Circ}{l:List (List Int)}{v:Nat}(h1:c.first.toNat<=v) (h2:v<l.length) {z:D}:(qfZ c l).getD v z=dIs (l.getD v []):=by
 unfold qfZ;rw[List.getD_eq_getElem?_getD,List.getElem?_append_right (by rw[yaH];exact h1)];simp[List.getD,h2,show c.first.toNat+(v-c.first.toNat)=v by omega]
theorem qjM {c:Circ}{l:List (List Int)}{x:List Int}(h:c.first.toNat<=l.length):qfZ c (l ++ [x])=qfZ c l ++ [dIs x]:=by
 unfold qfZ;rw[List.drop_append_of_le_length h,yaE,yaq];rfl
theorem qoV {c:Circ}(hc:c.Valid) {leaves:List Int}{x:Nat}{v:Int}(h0:0<=v) (hv:v<c.vars) (hm:v∈leaves):qcu c leaves x v=x.testBit (leaves.idxOf v):=by
 have hf:=hc.first_bd;have hvv:c.vars=c.first+(c.gates.length:Int):=rfl
 by_cases h:v<c.first
 ·rw[qgj h0 h,qd1,if_pos hm]
 ·obtain⟨i,rfl⟩ : ∃ i:Nat,v=c.first+(i:Int):=⟨(v-c.first).toNat,by omega⟩
  rw[qgZ hc (by omega),qd1,if_pos hm]
theorem qiN : ∀ {l:List Int}{v:Int}{k:Nat},k<l.length->l.getD k 0=v->(∀ j,j<k->l.getD j 0≠v)->l.idxOf v=k
 | [],v,k,h,_,_=>by simp at h
 | y::l,v,0,h,e,_=>by
  obtain rfl:y=v:=e;simp
 | y::l,v,k+1,h,e,hn=>by
  have hy:y≠v:=hn 0 (by omega);have ih:=qiN (k:=k) (l:=l) (v:=v) (by simpa using h) e (fun j hj=>hn (j+1) (by omega));rw[List.idxOf_cons,ih,show(y == v)=false by simpa using hy];rfl
end Go.Proofs
