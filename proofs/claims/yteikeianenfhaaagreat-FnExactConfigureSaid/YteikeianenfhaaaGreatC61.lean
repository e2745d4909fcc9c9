/- Contracts, plain definitions and lemmas. Conditions: none; lemmas. -/
import Derived.Test.YteikeianenfhaaaGreatVM8
set_option linter.unusedVariables false
set_option linter.unusedSimpArgs false
set_option maxHeartbeats 2000000
namespace Go.VL
theorem qax {α β : Type}{f : β->α->β}{b : β}{l:List α}{i:Nat}(z : α) (h:i<l.length):(l.take (i+1)).foldl f b=f ((l.take i).foldl f b) (l.getD i z):=by
 rw[yaK h,yaN];simp[List.getD,h]
def qaG:List Int->List Int->List Int
 | [],b=>b
 | x::a,[]=>x::a
 | x::a,y::b=>if x<y then x::qaG a (y::b) else if y<x then y::qaG (x::a) b else x::qaG a b
termination_by a b=>a.length+b.length
theorem qds (b:List Int):qaG [] b=b:=by rw[qaG]
theorem qdC (a:List Int):qaG a []=a:=by cases a <;> rw[qaG]
theorem qf6 {x y:Int}{a b:List Int}(h:x<y):qaG (x::a) (y::b)=x::qaG a (y::b):=by rw[qaG,if_pos h]
theorem qf7 {x y:Int}{a b:List Int}(h:y<x):qaG (x::a) (y::b)=y::qaG (x::a) b:=by rw[qaG,if_neg (by omega),if_pos h]
theorem qf8 {x:Int}{a b:List Int}:qaG (x::a) (x::b)=x::qaG a b:=by rw[qaG,if_neg (by omega),if_neg (by omega)]
theorem qbm {z:Int} : ∀ (a b:List Int),z∈qaG a b↔z∈a∨z∈b
 | [],b=>by rw[qds];simp
 | x::a,[]=>by rw[qdC];simp
 | x::a,y::b=>by
  have i1:=qbm (z:=z) a (y::b);have i2:=qbm (z:=z) (x::a) b;have i3:=qbm (z:=z) a b;rcases Int.lt_trichotomy x y with h|h|h
  ·rw[qf6 h,yax,i1];simp only[yax,or_assoc]
  ·subst h;rw[qf8,yax,i3];simp only[yax];constructor
   ·rintro(h|h|h) <;> simp[h]
   ·rintro((h|h)|h|h) <;> simp[h]
  ·rw[qf7 h,yax,i2];simp only[yax];constructor
   ·rintro(h|(h|h)|h) <;> simp[h]
   ·rintro((h|h)|h|h) <;> simp[h]
termination_by a b=>a.length+b.length
def asc (l:List Int):Prop:=l.Pairwise (· < ·)
theorem qd7 : ∀ {a b:List Int},asc a->asc b->asc (qaG a b)
 | [],b,_,hb=>by rw[qds];exact hb
 | x::a,[],ha,_=>by rw[qdC];exact ha
 | x::a,y::b,ha,hb=>by
  obtain⟨ha1,ha2⟩:=List.pairwise_cons.1 ha;obtain⟨hb1,hb2⟩:=List.pairwise_cons.1 hb;rcases Int.lt_trichotomy x y with h|h|h
  ·rw[qf6 h];refine List.pairwise_cons.2 ⟨fun z hz=>?_,qd7 ha2 hb⟩;rcases(qbm _ _).1 hz with h1|h1
   ·exact ha1 z h1
   ·rcases List.mem_cons.1 h1 with rfl|h2
    ·exact h
    ·have:=hb1 z h2;omega
  ·subst h;rw[qf8];refine List.pairwise_cons.2 ⟨fun z hz=>?_,qd7 ha2 hb2⟩;rcases(qbm _ _).1 hz with h1|h1
   ·exact ha1 z h1
   ·exact hb1 z h1
  ·rw[qf7 h];refine List.pairwise_cons.2 ⟨fun z hz=>?_,qd7 ha hb2⟩;rcases(qbm _ _).1 hz with h1|h1
   ·rcases List.mem_cons.1 h1 with rfl|h2
    ·exact h
    ·have:=ha1 z h2;omega
   ·exact hb1 z h1
termination_by a b=>a.length+b.length
theorem qo1 : ∀ {a b:List Int},asc a->asc b->(∀ z,z∈a↔z∈b)->a=b
 | [],[],_,_,_=>rfl
 | [],y::b,_,_,h=>by have:=(h y).2 (by simp);simp at this
 | x::a,[],_,_,h=>by have:=(h x).1 (by simp);simp at this
 | x::a,y::b,ha,hb,h=>by
  obtain⟨ha1,ha2⟩:=List.pairwise_cons.1 ha;obtain⟨hb1,hb2⟩:=List.pairwise_cons.1 hb;have hxy:x=y:=by
   rcases List.mem_cons.1 ((h x).1 (by simp)) with h1|h1
   ·exact h1
   ·rcases List.mem_cons.1 ((h y).2 (by simp)) with h2|h2
    ·exact h2.symm
    ·have:=hb1 x h1;have:=ha1 y h2;omega
  subst hxy;congr 1;refine qo1 ha2 hb2 fun z=>⟨fun hz=>?_,fun hz=>?_⟩
  ·have hlt:=ha1 z hz;rcases List.mem_cons.1 ((h z).1 (by simp[hz])) with h1|h1
   ·omega
   ·exact h1
  ·have hlt:=hb1 z hz;rcases List.mem_cons.1 ((h z).2 (by simp[hz])) with h1|h1
   ·omega
   ·exact h1
theorem qd8 : ∀ (a b:List Int),(qaG a b).length<=a.length+b.length
 | [],b=>by rw[qds];simp
 | x::a,[]=>by rw[qdC];simp
 | x::a,y::b=>by
  have i1:=qd8 a (y::b);have i2:=qd8 (x::a) b;have i3:=qd8 a b;rcases Int.lt_trichotomy x y with h|h|h
  ·rw[qf6 h];simp only[yaf] at *;omega
  ·subst h;rw[qf8];simp only[yaf] at *;omega
  ·rw[qf7 h];simp only[yaf] at *;omega
termination_by a b=>a.length+b.length
def addC (l:List (List Int)) (cut:List Int):List (List Int):=if cut.length<=3/\l.length<8/\cut∉l then l ++ [cut] else l
def rowC (x:List Int) (q:List (List Int)) (l:List (List Int)):List (List Int):=q.foldl (fun l y=>addC l (qaG x y)) l
def qfp (p q:List (List Int)):List (List Int):=p.foldl (fun l x=>rowC x q l) []
def qbe (c:Circ) (i:Nat):Int:=(c.gates.getD i (0,0)).1
def qbf (c:Circ) (i:Nat):Int:=(c.gates.getD i (0,0)).2
def qaH (c:Circ):Nat->List (List (List Int))
 | 0=>[[]]::(List.range (c.first.toNat-1)).map fun(v:Nat)=>[[(v:Int)+1]]
 | i+1=>qaH c i ++ [qfp ((qaH c i).getD (qbe c i/2).toNat []) ((qaH c i).getD (qbf c i/2).toNat []) ++ [[c.first+(i:Int)]]]
def qba (c:Circ):List (List (List Int)):=qaH c c.gates.length
theorem qaZ {c:Circ}(h:1<=c.first) : ∀ i,(qaH c i).length=c.first.toNat+i
 | 0=>by simp[qaH];omega
 | i+1=>by rw[qaH,yae,qaZ h i];simp;omega
theorem addC_le {l:List (List Int)}{cut:List Int}(h:l.length<=8):(addC l cut).length<=8:=by
 unfold addC;split
 ·rename_i h2;simp;omega
 ·exact h
theorem qgL {x:List Int} : ∀ {q l:List (List Int)},l.length<=8->(rowC x q l).length<=8
 | [],l,h=>h
 | y::q,l,h=>qgL (q:=q) (addC_le h)
theorem qj5 (p q:List (List Int)):(qfp p q).length<=8:=by
 have : ∀ (p l:List (List Int)),l.length<=8->(p.foldl (fun l x=>rowC x q l) l).length<=8:=by
  intro p;induction p with
  | nil=>exact fun l h=>h
  | cons x p ih=>exact fun l h=>ih _ (qgL h)
 exact this p [] (by simp)
theorem qq1 {P:List Int->Prop}{l:List (List Int)}{cut:List Int}(h : ∀ x∈l,P x) (hc:cut.length<=3->P cut) : ∀ x∈addC l cut,P x:=by
 unfold addC;split
 ·rename_i h2;intro x hx;rcases List.mem_append.1 hx with h1|h1
  ·exact h x h1
  ·obtain rfl:x=cut:=by simpa using h1
   exact hc h2.1
 ·exact h
theorem qmV {P:List Int->Prop}{x:List Int} : ∀ {q l:List (List Int)},(∀ z∈l,P z)->(∀ y∈q,(qaG x y).length<=3->P (qaG x y))->∀ z∈rowC x q l,P z
 | [],l,h,_=>h
 | y::q,l,h,hq=>qmV (q:=q) (qq1 h (hq y (by simp))) fun z hz=>hq z (by simp[hz])
theorem qeZ {P:List Int->Prop}{p q:List (List Int)}(h : ∀ x∈p,∀ y∈q,(qaG x y).length<=3->P (qaG x y)) : ∀ z∈qfp p q,P z:=by
 have : ∀ (p l:List (List Int)),(∀ z∈l,P z)->(∀ x∈p,∀ y∈q,(qaG x y).length<=3->P (qaG x y))->∀ z∈p.foldl (fun l x=>rowC x q l) l,P z:=by
  intro p;induction p with
  | nil=>exact fun l h _=>h
  | cons x p ih=>exact fun l h hp=>ih _ (qmV h (hp x (by simp))) fun z hz=>hp z (by simp[hz])
 exact this p [] (by simp) h
theorem qo2 {l:List (List Int)}{cut:List Int}:l.length<=(addC l cut).length:=by
 unfold addC;split <;> simp
theorem qij {x:List Int} : ∀ {q l:List (List Int)},l.length<=(rowC x q l).length
 | [],l=>yad _
 | y::q,l=>yaA qo2 (qij (q:=q))
theorem qq3 {l:List (List Int)}{cut:List Int}(h:cut.length<=3):0<(addC l cut).length:=by
 unfold addC;split
 ·simp
 ·rename_i h2;cases l with
  | nil=>exact absurd ⟨h,by simp,by simp⟩ h2
  | cons x r=>simp
theorem qmW {x y:List Int}(h:(qaG x y).length<=3) : ∀ {q l:List (List Int)},y∈q->0<(rowC x q l).length
 | [],l,hy=>by simp at hy
 | z::q,l,hy=>by
  rcases List.mem_cons.1 hy with rfl|h1
  ·exact yak (qq3 (l:=l) h) (qij (q:=q))
  ·exact qmW h (q:=q) h1
theorem qo3 {p q:List (List Int)}{x y:List Int}(hx:x∈p) (hy:y∈q) (h:(qaG x y).length<=3):0<(qfp p q).length:=by
 have mono : ∀ (p l:List (List Int)),l.length<=(p.foldl (fun l x=>rowC x q l) l).length:=by
  intro p;induction p with
  | nil=>exact fun l=>yad _
  | cons x p ih=>exact fun l=>yaA (qij (q:=q)) (ih _)
 have : ∀ (p l:List (List Int)),x∈p->0<(p.foldl (fun l x=>rowC x q l) l).length:=by
  intro p;induction p with
  | nil=>exact fun l h=>by simp at h
  | cons z p ih=>
   intro l hz;rcases List.mem_cons.1 hz with rfl|h1
   ·exact yak (qmW h (l:=l) hy) (mono p _)
   ·exact ih _ h1
 exact this p [] hx
structure CutOk (c:Circ) (v:Int) (cut:List Int):Prop where
 asc:asc cut
 len:cut.length<=3
 rng : ∀ z∈cut,1<=z/\z<=v
theorem qcp {c:Circ}(hc:c.Valid) : ∀ i,i<=c.gates.length->∀ v,v<(qaH c i).length->(∀ cut∈(qaH c i).getD v [],CutOk c (v:Int) cut)/\(qaH c i).getD v []≠[]/\(∃ s∈(qaH c i).getD v [],s.length<=1)/\((qaH c i).getD v []).length<=9:=by
 have hf:=hc.first_bd;intro i;induction i with
 | zero=>
  intro _ v hv;rw[qaZ hf.1] at hv;cases v with
  | zero=>
   have e:(qaH c 0).getD 0 []=[[]]:=rfl;rw[e];refine⟨fun cut h=>?_,by simp,⟨[],by simp,by simp⟩,by simp⟩;obtain rfl:cut=[]:=by simpa using h
   exact⟨List.Pairwise.nil,by simp,by simp⟩
  | succ v=>
   have e:(qaH c 0).getD (v+1) []=[[(v:Int)+1]]:=by
    simp[qaH,List.getD,show v<c.first.toNat-1 by omega]
   rw[e];refine⟨fun cut h=>?_,by simp,⟨[(v:Int)+1],by simp,by simp⟩,by simp⟩;obtain rfl:cut=[(v:Int)+1]:=by simpa using h
   exact⟨by simp[asc],by simp,fun z hz=>by
    obtain rfl:z=(v:Int)+1:=by simpa using hz
    omega⟩
 | succ i ih=>
  intro hi v hv;have hl:=qaZ (c:=c) hf.1 i;rw[qaZ hf.1] at hv;by_cases h:v<c.first.toNat+i
  ·have e:(qaH c (i+1)).getD v []=(qaH c i).getD v []:=by rw[qaH];exact qao (by omega)
   rw[e];exact ih (by omega) v (by omega)
  ·have hv2:v=(qaH c i).length:=by omega
   have e:(qaH c (i+1)).getD v []=qfp ((qaH c i).getD (qbe c i/2).toNat []) ((qaH c i).getD (qbf c i/2).toNat []) ++ [[c.first+(i:Int)]]:=by
    rw[qaH,hv2];simp[List.getD]
   obtain⟨g1,g2⟩:=hc.g i (by omega);have ha:(qbe c i/2).toNat<c.first.toNat+i:=by unfold qbe;unfold qaX at g1;omega
   have hb:(qbf c i/2).toNat<c.first.toNat+i:=by unfold qbf;unfold qaX at g2;omega
   obtain⟨a1,a2,⟨sa,a3,a4⟩,a5⟩:=ih (by omega) _ (by rw[hl];exact ha);obtain⟨b1,b2,⟨sb,b3,b4⟩,b5⟩:=ih (by omega) _ (by rw[hl];exact hb);rw[e];have hj:=qj5 ((qaH c i).getD (qbe c i/2).toNat []) ((qaH c i).getD (qbf c i/2).toNat []);refine⟨fun cut h=>?_,by simp,⟨[c.first+(i:Int)],by simp,by simp⟩,by rw[yae,ybm];omega⟩;rcases List.mem_append.1 h with h1|h1
   ·refine qeZ (P:=fun cut=>CutOk c (v:Int) cut) (fun x hx y hy hle=>?_) cut h1;have hx':=a1 x hx;have hy':=b1 y hy;refine⟨qd7 hx'.asc hy'.asc,hle,fun z hz=>?_⟩;rcases(qbm _ _).1 hz with h2|h2
    ·have:=hx'.rng z h2;omega
    ·have:=hy'.rng z h2;omega
   ·obtain rfl:cut=[c.first+(i:Int)]:=by simpa using h1
    exact⟨by simp[asc],by simp,fun z hz=>by
     obtain rfl:z=c.first+(i:Int):=by simpa using hz
     omega⟩
theorem qcO {c:Circ}(hf:1<=c.first) {n i:Nat}(h:i<n):(qaH c n).getD (c.first.toNat+i) []=qfp ((qaH c i).getD (qbe c i/2).toNat []) ((qaH c i).getD (qbf c i/2).toNat []) ++ [[c.first+(i:Int)]]:=by
 induction n with
 | zero=>omega
 | succ n ih=>
  have hl:=qaZ (c:=c) hf n;by_cases hin:i<n
  ·rw[qaH,qao (by omega)];exact ih hin
  ·obtain rfl:i=n:=by omega
   rw[qaH,<-hl];simp[List.getD]
theorem qik {c:Circ}(hc:c.Valid) {i:Nat}(h:i<c.gates.length):0<(qfp ((qaH c i).getD (qbe c i/2).toNat []) ((qaH c i).getD (qbf c i/2).toNat [])).length:=by
 have hf:=hc.first_bd;have hl:=qaZ (c:=c) hf.1 i;obtain⟨g1,g2⟩:=hc.g i h;have ha:(qbe c i/2).toNat<c.first.toNat+i:=by unfold qbe;unfold qaX at g1;omega
 have hb:(qbf c i/2).toNat<c.first.toNat+i:=by unfold qbf;unfold qaX at g2;omega
 obtain⟨a1,a2,⟨sa,a3,a4⟩,a5⟩:=qcp hc i (by omega) _ (by rw[hl];exact ha);obtain⟨b1,b2,⟨sb,b3,b4⟩,b5⟩:=qcp hc i (by omega) _ (by rw[hl];exact hb);exact qo3 a3 b3 (by have:=qd8 sa sb;omega)
end Go.VL

set_option linter.unusedVariables false
set_option linter.unusedSimpArgs false
namespace Go.VL
def qb5 (arr:List Int) (cut:List Int):Int:=cut.foldl (fun t v=>max t (arr.getD v.toNat 0)) 0
def qbz (arr:List Int) (x b:List Int):Prop:=qb5 arr x<qb5 arr b∨(qb5 arr x=qb5 arr b/\x.length<b.length)
instance (arr:List Int) (x b:List Int):Decidable (qbz arr x b):=by unfold qbz;infer_instance
def qby (arr:List Int):List (List Int)->List Int
 | []=>[]
 | x::r=>r.foldl (fun b y=>if qbz arr y b then y else b) x
theorem qil {arr:List Int}{l:List (List Int)}{y:List Int}(h:0<l.length):qby arr (l ++ [y])=if qbz arr y (qby arr l) then y else qby arr l:=by
 cases l with
 | nil=>simp at h
 | cons x r=>
  have e : ∀ s,qby arr (x::s)=s.foldl (fun b y=>if qbz arr y b then y else b) x:=fun s=>rfl
  show qby arr (x::(r ++ [y]))=_
  rw[e (r ++ [y]),yaN];rfl
theorem qgM {arr:List Int}{l:List (List Int)}(h:0<l.length):qby arr l∈l:=by
 cases l with
 | nil=>simp at h
 | cons x r=>
  have : ∀ (r:List (List Int)) (b:List Int),r.foldl (fun b y=>if qbz arr y b then y else b) b=b∨r.foldl (fun b y=>if qbz arr y b then y else b) b∈r:=by
   intro r;induction r with
   | nil=>exact fun b=>.inl rfl
   | cons y r ih=>
    intro b;simp only[yaj];rcases ih (if qbz arr y b then y else b) with h1|h1
    ·rw[h1];split
     ·exact .inr (by simp)
     ·exact .inl rfl
    ·exact .inr (by simp[h1])
  rcases this r x with h1|h1
  ·rw[qby,h1];simp
  ·rw[qby];simp[h1]
def qaO (c:Circ) (cuts:List (List (List Int))):Nat->List (List Int)×List Int
 | 0=>(List.replicate c.first.toNat [],List.replicate c.first.toNat 0)
 | i+1=>
  (
   (qaO c cuts i).1 ++ [qby (qaO c cuts i).2 (cuts.getD (c.first.toNat+i) []).dropLast],
   (qaO c cuts i).2 ++ [1+qb5 (qaO c cuts i).2 (qby (qaO c cuts i).2 (cuts.getD (c.first.toNat+i) []).dropLast)])
theorem qdD (c:Circ) (cuts:List (List (List Int))) : ∀ i,(qaO c cuts i).1.length=c.first.toNat+i/\(qaO c cuts i).2.length=c.first.toNat+i
 | 0=>by simp[qaO]
 | i+1=>by
  have:=qdD c cuts i;simp only[qaO,yae,ybm];omega
theorem qd9 {arr:List Int}{cut:List Int}{m:Int}(h : ∀ z∈cut,arr.getD z.toNat 0<=m) (hm:0<=m):0<=qb5 arr cut/\qb5 arr cut<=m:=by
 have : ∀ (cut:List Int) (t:Int),(∀ z∈cut,arr.getD z.toNat 0<=m)->0<=t->t<=m->0<=cut.foldl (fun t v=>max t (arr.getD v.toNat 0)) t/\cut.foldl (fun t v=>max t (arr.getD v.toNat 0)) t<=m:=by
  intro cut;induction cut with
  | nil=>exact fun t _ h1 h2=>⟨h1,h2⟩
  | cons x r ih=>
   intro t h h1 h2;have hx:=h x (by simp);exact ih (max t (arr.getD x.toNat 0)) (fun z hz=>h z (by simp[hz])) (by omega) (by omega)
 exact this cut 0 h (Int.le_refl 0) hm
theorem qj6 (c:Circ) (cuts:List (List (List Int))) : ∀ i j,0<=(qaO c cuts i).2.getD j 0/\(qaO c cuts i).2.getD j 0<=i
 | 0,j=>by
  by_cases h:j<c.first.toNat
  ·simp[qaO,List.getD,h]
  ·simp[qaO,List.getD,h]
 | i+1,j=>by
  have ih:=qj6 c cuts i;have hl:=(qdD c cuts i).2;by_cases h:j<(qaO c cuts i).2.length
  ·have e:(qaO c cuts (i+1)).2.getD j 0=(qaO c cuts i).2.getD j 0:=by simp only[qaO];exact qao h
   have:=ih j;rw[e];omega
  ·have ha:=qd9 (arr:=(qaO c cuts i).2) (cut:=qby (qaO c cuts i).2 (cuts.getD (c.first.toNat+i) []).dropLast) (m:=i) (fun z _=>(ih z.toNat).2) (by omega);by_cases h2:j=(qaO c cuts i).2.length
   ·have e:(qaO c cuts (i+1)).2.getD j 0=1+qb5 (qaO c cuts i).2 (qby (qaO c cuts i).2 (cuts.getD (c.first.toNat+i) []).dropLast):=by
     simp only[qaO,h2];simp[List.getD]
    rw[e];omega
   ·have e:(qaO c cuts (i+1)).2.getD j 0=0:=by
     rw[List.getD_eq_getElem?_getD,List.getElem?_eq_none (by simp only[qaO,yae,ybm];omega)];rfl
    rw[e];omega
noncomputable def qbi (c:Circ):List (List Int):=(qaO c (qba c) c.gates.length).1
noncomputable def arrC (c:Circ):List Int:=(qaO c (qba c) c.gates.length).2
theorem qo4 {c:Circ}{cuts:List (List (List Int))}{i n:Nat}(h:i<=n) {v:Nat}(hv:v<c.first.toNat+i) :
  (qaO c cuts n).1.getD v []=(qaO c cuts i).1.getD v []/\(qaO c cuts n).2.getD v 0=(qaO c cuts i).2.getD v 0:=by
 induction n with
 | zero=>
      obtain rfl:i=0:=by omega
      exact⟨rfl,rfl⟩
 | succ n ih=>
  have hl:=qdD c cuts n;by_cases hin:i<=n
  ·have:=ih hin;simp only[qaO];rw[qao (by omega),qao (by omega)];exact this
  ·obtain rfl:i=n+1:=by omega
   exact⟨rfl,rfl⟩
theorem qnH {c:Circ}{cuts:List (List (List Int))}{i n:Nat}(h:i<n) :
  (qaO c cuts n).1.getD (c.first.toNat+i) []=qby (qaO c cuts i).2 (cuts.getD (c.first.toNat+i) []).dropLast/\
  (qaO c cuts n).2.getD (c.first.toNat+i) 0=1+qb5 (qaO c cuts i).2 (qby (qaO c cuts i).2 (cuts.getD (c.first.toNat+i) []).dropLast):=by
 have hl:=qdD c cuts i;have:=qo4 (c:=c) (cuts:=cuts) (i:=i+1) (n:=n) (by omega) (v:=c.first.toNat+i) (by omega);rw[this.1,this.2];simp only[qaO];constructor
 ·have e:c.first.toNat+i=(qaO c cuts i).1.length:=by omega
  rw[e];simp[List.getD]
 ·have e:c.first.toNat+i=(qaO c cuts i).2.length:=by omega
  rw[e];simp[List.getD]
theorem qk1 {c:Circ}(hc:c.Valid) {i:Nat}(h:i<c.gates.length):(qbi c).getD (c.first.toNat+i) []∈qfp ((qaH c i).getD (qbe c i/2).toNat []) ((qaH c i).getD (qbf c i/2).toNat []):=by
 have hf:=hc.first_bd;have e:((qba c).getD (c.first.toNat+i) []).dropLast=qfp ((qaH c i).getD (qbe c i/2).toNat []) ((qaH c i).getD (qbf c i/2).toNat []):=by
  rw[qba,qcO hf.1 h,List.dropLast_concat]
 rw[qbi,(qnH h).1,e];exact qgM (qik hc h)
theorem qcC {c:Circ}(hc:c.Valid) {i:Nat}(h:i<c.gates.length):asc ((qbi c).getD (c.first.toNat+i) [])/\((qbi c).getD (c.first.toNat+i) []).length<=3/\∀ z∈(qbi c).getD (c.first.toNat+i) [],1<=z/\z<c.first+i:=by
 have hf:=hc.first_bd;have hl:=qaZ (c:=c) hf.1 i;obtain⟨g1,g2⟩:=hc.g i h;have ha:(qbe c i/2).toNat<c.first.toNat+i:=by unfold qbe;unfold qaX at g1;omega
 have hb:(qbf c i/2).toNat<c.first.toNat+i:=by unfold qbf;unfold qaX at g2;omega
 obtain⟨a1,-⟩:=qcp hc i (by omega) _ (by rw[hl];exact ha);obtain⟨b1,-⟩:=qcp hc i (by omega) _ (by rw[hl];exact hb);have:=qeZ (P:=fun cut=>asc cut/\cut.length<=3/\∀ z∈cut,1<=z/\z<c.first+i) (fun x hx y hy hle=>by
  have hx':=a1 x hx;have hy':=b1 y hy;refine⟨qd7 hx'.asc hy'.asc,hle,fun z hz=>?_⟩;rcases(qbm _ _).1 hz with h2|h2
  ·have:=hx'.rng z h2;omega
  ·have:=hy'.rng z h2;omega) _ (qk1 hc h)
 exact this
theorem qk2 (c:Circ):(qbi c).length=c.first.toNat+c.gates.length:=(qdD c _ _).1
def qdE (leaves:List Int) (x:Nat) (v:Int) (d:Bool):Bool:=if v∈leaves then x.testBit (leaves.idxOf v) else d
def qfq (c:Circ) (leaves:List Int) (x:Nat):Nat->List Bool
 | 0=>(List.range c.first.toNat).map fun(v:Nat)=>qdE leaves x (v:Int) false
 | i+1=>qfq c leaves x i ++ [qdE leaves x (c.first+(i:Int)) (litV (qfq c leaves x i) (qbe c i)&&litV (qfq c leaves x i) (qbf c i))]
theorem qim (c:Circ) (leaves:List Int) (x:Nat) : ∀ i,(qfq c leaves x i).length=c.first.toNat+i
 | 0=>by simp[qfq]
 | i+1=>by rw[qfq,yae,qim c leaves x i];simp;omega
def qcl (c:Circ) (leaves:List Int) (x:Nat) (v:Int):Bool:=(qfq c leaves x c.gates.length).getD v.toNat false
theorem qin {c:Circ}{leaves:List Int}{x:Nat}{i n:Nat}(h:i<=n) {v:Nat}(hv:v<c.first.toNat+i):(qfq c leaves x n).getD v false=(qfq c leaves x i).getD v false:=by
 induction n with
 | zero=>
      obtain rfl:i=0:=by omega
      rfl
 | succ n ih=>
  have hl:=qim c leaves x n;by_cases hin:i<=n
  ·rw[qfq,qao (by omega)];exact ih hin
  ·obtain rfl:i=n+1:=by omega
   rfl
theorem qe0 {c:Circ}{leaves:List Int}{x:Nat}{v:Int}(h0:0<=v) (h:v<c.first):qcl c leaves x v=qdE leaves x v false:=by
 rw[qcl,qin (i:=0) (by omega) (by omega),qfq];simp[List.getD,show v.toNat<c.first.toNat by omega,Int.toNat_of_nonneg h0]
theorem qjk {c:Circ}{leaves:List Int}{x:Nat}{i:Nat}{l:Int}(h:qaX l (c.first+(i:Int))) (hi:i<=c.gates.length) (hf:1<=c.first):litV (qfq c leaves x i) l=(qcl c leaves x (l/2) != decide (l%2=1)):=by
 unfold qaX at h;rw[litV,qcl,qin hi (by omega)]
theorem qfg {c:Circ}(hc:c.Valid) {leaves:List Int}{x:Nat}{i:Nat}(h:i<c.gates.length) :
  qcl c leaves x (c.first+(i:Int))=qdE leaves x (c.first+(i:Int)) ((qcl c leaves x (qbe c i/2) != decide (qbe c i%2=1))&&(qcl c leaves x (qbf c i/2) != decide (qbf c i%2=1))):=by
 have hf:=hc.first_bd;obtain⟨g1,g2⟩:=hc.g i h;have q1:litV (qfq c leaves x i) (qbe c i)=(qcl c leaves x (qbe c i/2) != decide (qbe c i%2=1)):=qjk (i:=i) g1 (by omega) hf.1;have q2:litV (qfq c leaves x i) (qbf c i)=(qcl c leaves x (qbf c i/2) != decide (qbf c i%2=1)):=qjk (i:=i) g2 (by omega) hf.1;rw[<-q1,<-q2];rw[qcl,qin (i:=i+1) (by omega) (by omega),qfq];have e:(c.first+(i:Int)).toNat=(qfq c leaves x i).length:=by rw[qim];omega
 rw[e];simp[List.getD]
def qc0 (c:Circ) (v:Int) (leaves:List Int):Nat->Nat
 | 0=>0
 | x+1=>qc0 c v leaves x+(if qcl c leaves x v then 2 ^ x else 0)
theorem qe1 (c:Circ) (v:Int) (leaves:List Int) : ∀ n,qc0 c v leaves n<2 ^ n
 | 0=>by simp[qc0]
 | n+1=>by
  have:=qe1 c v leaves n;rw[qc0,Nat.pow_succ];split <;> omega
theorem qjl (c:Circ) (v:Int) (leaves:List Int) : ∀ n x,x<n->(qc0 c v leaves n).testBit x=qcl c leaves x v
 | 0,x,h=>by omega
 | n+1,x,h=>by
  have hlt:=qe1 c v leaves n;have ih:=qjl c v leaves n;rw[qc0];by_cases hx:x=n
  ·subst hx;split
   ·rename_i h1;rw[Nat.add_comm,Nat.testBit_two_pow_add_eq,Nat.testBit_lt_two_pow hlt,h1];rfl
   ·rename_i h1;rw[ybi,Nat.testBit_lt_two_pow hlt];simpa using h1
  ·have hxn:x<n:=by omega
   split
   ·rw[Nat.add_comm,Nat.testBit_two_pow_add_gt hxn];exact ih x hxn
   ·exact ih x hxn
def qf9 (c:Circ) (v:Int) (leaves:List Int):Int:=(qc0 c v leaves (2 ^ leaves.length):Nat)
structure Lut where
 var:Int
 leaves:List Int
 table:Int
def qbg (need:List Bool) (vs:List Int):List Bool:=vs.foldl (fun n v=>n.set v.toNat true) need
theorem qcf : ∀ (vs:List Int) (need:List Bool),(qbg need vs).length=need.length
 | [],need=>rfl
 | v::vs,need=>by
  show(qbg (need.set v.toNat true) vs).length=_
  rw[qcf vs,yar]
theorem qea : ∀ (vs:List Int) (need:List Bool) (j:Nat),(∀ v∈vs,0<=v)->(qbg need vs).getD j false=(need.getD j false || decide (j<need.length/\(j:Int)∈vs))
 | [],need,j,_=>by simp[qbg]
 | v::vs,need,j,h=>by
  show(qbg (need.set v.toNat true) vs).getD j false=_
  rw[qea vs _ j fun z hz=>h z (by simp[hz])];have hv:=h v (by simp);by_cases e:v.toNat=j
  ·subst e;by_cases hl:v.toNat<need.length
   ·simp[List.getD,hl,Int.toNat_of_nonneg hv]
   ·simp[List.getD,hl]
  ·have : ¬ (j:Int)=v:=by omega
   simp[List.getD,List.getElem?_set,e,this]
def qbh (c:Circ):List Int:=(c.outs++c.next).map (· / 2)
def qe2 (c:Circ):List Bool:=qbg (List.replicate c.vars.toNat false) (qbh c)
noncomputable def mapD (c:Circ):Nat->List Bool->List Lut->List Lut
 | 0,_,out=>out
 | j+1,need,out=>
  if need.getD (c.first.toNat+j) false=true then
   mapD c j (qbg need ((qbi c).getD (c.first.toNat+j) [])) (⟨c.first+(j:Int),(qbi c).getD (c.first.toNat+j) [],qf9 c (c.first+(j:Int)) ((qbi c).getD (c.first.toNat+j) [])⟩::out)
  else mapD c j need out
noncomputable def qdk (c:Circ):List Lut:=mapD c c.gates.length (qe2 c) []
structure Cel where
 net:Int
 inputs:List Int
 table:Int
 reg:Bool
def qaK (c:Circ) (i:Nat):Cel:=
 if(c.next.getD i 0)/2 > 0 then⟨c.inputs+1+i,[(c.next.getD i 0)/2],2-(c.next.getD i 0)%2,true⟩ else⟨c.inputs+1+i,[],(c.next.getD i 0)%2,true⟩
def qa1 (l:Lut):Cel:=⟨l.var,l.leaves,l.table,false⟩
noncomputable def qac (c:Circ):List Cel:=(List.range c.next.length).map (qaK c)++(qdk c).map qa1
def ce0:Cel:=⟨0,[],0,false⟩
def qe3 (x:Cel) (net:Int) (i:Nat):List Int:=(x.inputs.filter fun z=>decide (z=net)).map fun _=>(i:Int)
def qa6 (cells:List Cel) (net:Int):Nat->List Int
 | 0=>[]
 | i+1=>qa6 cells net i++qe3 (cells.getD i ce0) net i
def qdd (cells:List Cel) (net:Int):List Int:=qa6 cells net cells.length
theorem qeb {cells:List Cel}{net:Int}{z:Int} : ∀ {n:Nat},z∈qa6 cells net n↔∃ i:Nat,i<n/\net∈(cells.getD i ce0).inputs/\z=(i:Int)
 | 0=>by simp[qa6]
 | n+1=>by
  rw[qa6,yaq,qeb];constructor
  ·rintro(⟨i,h1,h2,h3⟩|h)
   ·exact⟨i,by omega,h2,h3⟩
   ·simp only[qe3,List.mem_map,List.mem_filter,decide_eq_true_eq] at h;obtain⟨w,⟨h1,rfl⟩,rfl⟩:=h;exact⟨n,by omega,h1,rfl⟩
  ·rintro⟨i,h1,h2,rfl⟩;by_cases hi:i<n
   ·exact .inl ⟨i,hi,h2,rfl⟩
   ·obtain rfl:i=n:=by omega
    exact .inr (List.mem_map.2 ⟨net,List.mem_filter.2 ⟨h2,by simp⟩,rfl⟩)
end Go.VL
