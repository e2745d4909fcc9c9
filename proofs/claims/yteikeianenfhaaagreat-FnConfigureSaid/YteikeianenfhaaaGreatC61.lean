/- Contracts, plain definitions and lemmas. Conditions: none; lemmas. -/
import Derived.Test.YteikeianenfhaaaGreatVM8
set_option linter.unusedVariables false
set_option linter.unusedSimpArgs false
set_option maxHeartbeats 2000000
namespace Go.VL
theorem qaA {α β : Type}{f : β->α->β}{b : β}{l:List α}{i:Nat}(z : α) (h:i<l.length):(l.take (i+1)).foldl f b=f ((l.take i).foldl f b) (l.getD i z):=by
 rw[yaJ h,yaO];simp[List.getD,h]
def qaH:List Int->List Int->List Int
 | [],b=>b
 | x::a,[]=>x::a
 | x::a,y::b=>if x<y then x::qaH a (y::b) else if y<x then y::qaH (x::a) b else x::qaH a b
termination_by a b=>a.length+b.length
theorem qdF (b:List Int):qaH [] b=b:=by rw[qaH]
theorem qdO (a:List Int):qaH a []=a:=by cases a <;> rw[qaH]
theorem qgk {x y:Int}{a b:List Int}(h:x<y):qaH (x::a) (y::b)=x::qaH a (y::b):=by rw[qaH,if_pos h]
theorem qgl {x y:Int}{a b:List Int}(h:y<x):qaH (x::a) (y::b)=y::qaH (x::a) b:=by rw[qaH,if_neg (by omega),if_pos h]
theorem qgm {x:Int}{a b:List Int}:qaH (x::a) (x::b)=x::qaH a b:=by rw[qaH,if_neg (by omega),if_neg (by omega)]
theorem qbo {z:Int} : ∀ (a b:List Int),z∈qaH a b↔z∈a∨z∈b
 | [],b=>by rw[qdF];simp
 | x::a,[]=>by rw[qdO];simp
 | x::a,y::b=>by
  have i1:=qbo (z:=z) a (y::b);have i2:=qbo (z:=z) (x::a) b;have i3:=qbo (z:=z) a b;rcases Int.lt_trichotomy x y with h|h|h
  ·rw[qgk h,yaC,i1];simp only[yaC,or_assoc]
  ·subst h;rw[qgm,yaC,i3];simp only[yaC];constructor
   ·rintro(h|h|h) <;> simp[h]
   ·rintro((h|h)|h|h) <;> simp[h]
  ·rw[qgl h,yaC,i2];simp only[yaC];constructor
   ·rintro(h|(h|h)|h) <;> simp[h]
   ·rintro((h|h)|h|h) <;> simp[h]
termination_by a b=>a.length+b.length
def asc (l:List Int):Prop:=l.Pairwise (· < ·)
theorem qen : ∀ {a b:List Int},asc a->asc b->asc (qaH a b)
 | [],b,_,hb=>by rw[qdF];exact hb
 | x::a,[],ha,_=>by rw[qdO];exact ha
 | x::a,y::b,ha,hb=>by
  obtain⟨ha1,ha2⟩:=List.pairwise_cons.1 ha;obtain⟨hb1,hb2⟩:=List.pairwise_cons.1 hb;rcases Int.lt_trichotomy x y with h|h|h
  ·rw[qgk h];refine List.pairwise_cons.2 ⟨fun z hz=>?_,qen ha2 hb⟩;rcases(qbo _ _).1 hz with h1|h1
   ·exact ha1 z h1
   ·rcases List.mem_cons.1 h1 with rfl|h2
    ·exact h
    ·have:=hb1 z h2;omega
  ·subst h;rw[qgm];refine List.pairwise_cons.2 ⟨fun z hz=>?_,qen ha2 hb2⟩;rcases(qbo _ _).1 hz with h1|h1
   ·exact ha1 z h1
   ·exact hb1 z h1
  ·rw[qgl h];refine List.pairwise_cons.2 ⟨fun z hz=>?_,qen ha hb2⟩;rcases(qbo _ _).1 hz with h1|h1
   ·rcases List.mem_cons.1 h1 with rfl|h2
    ·exact h
    ·have:=ha1 z h2;omega
   ·exact hb1 z h1
termination_by a b=>a.length+b.length
theorem qpw : ∀ {a b:List Int},asc a->asc b->(∀ z,z∈a↔z∈b)->a=b
 | [],[],_,_,_=>rfl
 | [],y::b,_,_,h=>by have:=(h y).2 (by simp);simp at this
 | x::a,[],_,_,h=>by have:=(h x).1 (by simp);simp at this
 | x::a,y::b,ha,hb,h=>by
  obtain⟨ha1,ha2⟩:=List.pairwise_cons.1 ha;obtain⟨hb1,hb2⟩:=List.pairwise_cons.1 hb;have hxy:x=y:=by
   rcases List.mem_cons.1 ((h x).1 (by simp)) with h1|h1
   ·exact h1
   ·rcases List.mem_cons.1 ((h y).2 (by simp)) with h2|h2
    ·exact h2.symm
    ·have:=hb1 x h1;have:=ha1 y h2;omega
  subst hxy;congr 1;refine qpw ha2 hb2 fun z=>⟨fun hz=>?_,fun hz=>?_⟩
  ·have hlt:=ha1 z hz;rcases List.mem_cons.1 ((h z).1 (by simp[hz])) with h1|h1
   ·omega
   ·exact h1
  ·have hlt:=hb1 z hz;rcases List.mem_cons.1 ((h z).2 (by simp[hz])) with h1|h1
   ·omega
   ·exact h1
theorem qeo : ∀ (a b:List Int),(qaH a b).length<=a.length+b.length
 | [],b=>by rw[qdF];simp
 | x::a,[]=>by rw[qdO];simp
 | x::a,y::b=>by
  have i1:=qeo a (y::b);have i2:=qeo (x::a) b;have i3:=qeo a b;rcases Int.lt_trichotomy x y with h|h|h
  ·rw[qgk h];simp only[yaf] at *;omega
  ·subst h;rw[qgm];simp only[yaf] at *;omega
  ·rw[qgl h];simp only[yaf] at *;omega
termination_by a b=>a.length+b.length
def addC (l:List (List Int)) (cut:List Int):List (List Int):=if cut.length<=3/\l.length<8/\cut∉l then l ++ [cut] else l
def rowC (x:List Int) (q:List (List Int)) (l:List (List Int)):List (List Int):=q.foldl (fun l y=>addC l (qaH x y)) l
def qfF (p q:List (List Int)):List (List Int):=p.foldl (fun l x=>rowC x q l) []
def qbi (c:Circ) (i:Nat):Int:=(c.gates.getD i (0,0)).1
def qbj (c:Circ) (i:Nat):Int:=(c.gates.getD i (0,0)).2
def qaI (c:Circ):Nat->List (List (List Int))
 | 0=>[[]]::(List.range (c.first.toNat-1)).map fun(v:Nat)=>[[(v:Int)+1]]
 | i+1=>qaI c i ++ [qfF ((qaI c i).getD (qbi c i/2).toNat []) ((qaI c i).getD (qbj c i/2).toNat []) ++ [[c.first+(i:Int)]]]
def qbe (c:Circ):List (List (List Int)):=qaI c c.gates.length
theorem qa4 {c:Circ}(h:1<=c.first) : ∀ i,(qaI c i).length=c.first.toNat+i
 | 0=>by simp[qaI];omega
 | i+1=>by rw[qaI,yae,qa4 h i];simp;omega
theorem addC_le {l:List (List Int)}{cut:List Int}(h:l.length<=8):(addC l cut).length<=8:=by
 unfold addC;split
 ·rename_i h2;simp;omega
 ·exact h
theorem qg0 {x:List Int} : ∀ {q l:List (List Int)},l.length<=8->(rowC x q l).length<=8
 | [],l,h=>h
 | y::q,l,h=>qg0 (q:=q) (addC_le h)
theorem qkl (p q:List (List Int)):(qfF p q).length<=8:=by
 have : ∀ (p l:List (List Int)),l.length<=8->(p.foldl (fun l x=>rowC x q l) l).length<=8:=by
  intro p;induction p with
  | nil=>exact fun l h=>h
  | cons x p ih=>exact fun l h=>ih _ (qg0 h)
 exact this p [] (by simp)
theorem qrB {P:List Int->Prop}{l:List (List Int)}{cut:List Int}(h : ∀ x∈l,P x) (hc:cut.length<=3->P cut) : ∀ x∈addC l cut,P x:=by
 unfold addC;split
 ·rename_i h2;intro x hx;rcases List.mem_append.1 hx with h1|h1
  ·exact h x h1
  ·obtain rfl:x=cut:=by simpa using h1
   exact hc h2.1
 ·exact h
theorem qnc {P:List Int->Prop}{x:List Int} : ∀ {q l:List (List Int)},(∀ z∈l,P z)->(∀ y∈q,(qaH x y).length<=3->P (qaH x y))->∀ z∈rowC x q l,P z
 | [],l,h,_=>h
 | y::q,l,h,hq=>qnc (q:=q) (qrB h (hq y (by simp))) fun z hz=>hq z (by simp[hz])
theorem qfd {P:List Int->Prop}{p q:List (List Int)}(h : ∀ x∈p,∀ y∈q,(qaH x y).length<=3->P (qaH x y)) : ∀ z∈qfF p q,P z:=by
 have : ∀ (p l:List (List Int)),(∀ z∈l,P z)->(∀ x∈p,∀ y∈q,(qaH x y).length<=3->P (qaH x y))->∀ z∈p.foldl (fun l x=>rowC x q l) l,P z:=by
  intro p;induction p with
  | nil=>exact fun l h _=>h
  | cons x p ih=>exact fun l h hp=>ih _ (qnc h (hp x (by simp))) fun z hz=>hp z (by simp[hz])
 exact this p [] (by simp) h
theorem qpx {l:List (List Int)}{cut:List Int}:l.length<=(addC l cut).length:=by
 unfold addC;split <;> simp
theorem qiC {x:List Int} : ∀ {q l:List (List Int)},l.length<=(rowC x q l).length
 | [],l=>yad _
 | y::q,l=>yaB qpx (qiC (q:=q))
theorem qrC {l:List (List Int)}{cut:List Int}(h:cut.length<=3):0<(addC l cut).length:=by
 unfold addC;split
 ·simp
 ·rename_i h2;cases l with
  | nil=>exact absurd ⟨h,by simp,by simp⟩ h2
  | cons x r=>simp
theorem qnd {x y:List Int}(h:(qaH x y).length<=3) : ∀ {q l:List (List Int)},y∈q->0<(rowC x q l).length
 | [],l,hy=>by simp at hy
 | z::q,l,hy=>by
  rcases List.mem_cons.1 hy with rfl|h1
  ·exact yaq (qrC (l:=l) h) (qiC (q:=q))
  ·exact qnd h (q:=q) h1
theorem qpy {p q:List (List Int)}{x y:List Int}(hx:x∈p) (hy:y∈q) (h:(qaH x y).length<=3):0<(qfF p q).length:=by
 have mono : ∀ (p l:List (List Int)),l.length<=(p.foldl (fun l x=>rowC x q l) l).length:=by
  intro p;induction p with
  | nil=>exact fun l=>yad _
  | cons x p ih=>exact fun l=>yaB (qiC (q:=q)) (ih _)
 have : ∀ (p l:List (List Int)),x∈p->0<(p.foldl (fun l x=>rowC x q l) l).length:=by
  intro p;induction p with
  | nil=>exact fun l h=>by simp at h
  | cons z p ih=>
   intro l hz;rcases List.mem_cons.1 hz with rfl|h1
   ·exact yaq (qnd h (l:=l) hy) (mono p _)
   ·exact ih _ h1
 exact this p [] hx
structure CutOk (c:Circ) (v:Int) (cut:List Int):Prop where
 asc:asc cut
 len:cut.length<=3
 rng : ∀ z∈cut,1<=z/\z<=v
theorem qcq {c:Circ}(hc:c.Valid) : ∀ i,i<=c.gates.length->∀ v,v<(qaI c i).length->(∀ cut∈(qaI c i).getD v [],CutOk c (v:Int) cut)/\(qaI c i).getD v []≠[]/\(∃ s∈(qaI c i).getD v [],s.length<=1)/\((qaI c i).getD v []).length<=9:=by
 have hf:=hc.first_bd;intro i;induction i with
 | zero=>
  intro _ v hv;rw[qa4 hf.1] at hv;cases v with
  | zero=>
   have e:(qaI c 0).getD 0 []=[[]]:=rfl;rw[e];refine⟨fun cut h=>?_,by simp,⟨[],by simp,by simp⟩,by simp⟩;obtain rfl:cut=[]:=by simpa using h
   exact⟨List.Pairwise.nil,by simp,by simp⟩
  | succ v=>
   have e:(qaI c 0).getD (v+1) []=[[(v:Int)+1]]:=by
    simp[qaI,List.getD,show v<c.first.toNat-1 by omega]
   rw[e];refine⟨fun cut h=>?_,by simp,⟨[(v:Int)+1],by simp,by simp⟩,by simp⟩;obtain rfl:cut=[(v:Int)+1]:=by simpa using h
   exact⟨by simp[asc],by simp,fun z hz=>by
    obtain rfl:z=(v:Int)+1:=by simpa using hz
    omega⟩
 | succ i ih=>
  intro hi v hv;have hl:=qa4 (c:=c) hf.1 i;rw[qa4 hf.1] at hv;by_cases h:v<c.first.toNat+i
  ·have e:(qaI c (i+1)).getD v []=(qaI c i).getD v []:=by rw[qaI];exact qaq (by omega)
   rw[e];exact ih (by omega) v (by omega)
  ·have hv2:v=(qaI c i).length:=by omega
   have e:(qaI c (i+1)).getD v []=qfF ((qaI c i).getD (qbi c i/2).toNat []) ((qaI c i).getD (qbj c i/2).toNat []) ++ [[c.first+(i:Int)]]:=by
    rw[qaI,hv2];simp[List.getD]
   obtain⟨g1,g2⟩:=hc.g i (by omega);have ha:(qbi c i/2).toNat<c.first.toNat+i:=by unfold qbi;unfold qaX at g1;omega
   have hb:(qbj c i/2).toNat<c.first.toNat+i:=by unfold qbj;unfold qaX at g2;omega
   obtain⟨a1,a2,⟨sa,a3,a4⟩,a5⟩:=ih (by omega) _ (by rw[hl];exact ha);obtain⟨b1,b2,⟨sb,b3,b4⟩,b5⟩:=ih (by omega) _ (by rw[hl];exact hb);rw[e];have hj:=qkl ((qaI c i).getD (qbi c i/2).toNat []) ((qaI c i).getD (qbj c i/2).toNat []);refine⟨fun cut h=>?_,by simp,⟨[c.first+(i:Int)],by simp,by simp⟩,by rw[yae,ybm];omega⟩;rcases List.mem_append.1 h with h1|h1
   ·refine qfd (P:=fun cut=>CutOk c (v:Int) cut) (fun x hx y hy hle=>?_) cut h1;have hx':=a1 x hx;have hy':=b1 y hy;refine⟨qen hx'.asc hy'.asc,hle,fun z hz=>?_⟩;rcases(qbo _ _).1 hz with h2|h2
    ·have:=hx'.rng z h2;omega
    ·have:=hy'.rng z h2;omega
   ·obtain rfl:cut=[c.first+(i:Int)]:=by simpa using h1
    exact⟨by simp[asc],by simp,fun z hz=>by
     obtain rfl:z=c.first+(i:Int):=by simpa using hz
     omega⟩
theorem qcX {c:Circ}(hf:1<=c.first) {n i:Nat}(h:i<n):(qaI c n).getD (c.first.toNat+i) []=qfF ((qaI c i).getD (qbi c i/2).toNat []) ((qaI c i).getD (qbj c i/2).toNat []) ++ [[c.first+(i:Int)]]:=by
 induction n with
 | zero=>omega
 | succ n ih=>
  have hl:=qa4 (c:=c) hf n;by_cases hin:i<n
  ·rw[qaI,qaq (by omega)];exact ih hin
  ·obtain rfl:i=n:=by omega
   rw[qaI,<-hl];simp[List.getD]
theorem qiD {c:Circ}(hc:c.Valid) {i:Nat}(h:i<c.gates.length):0<(qfF ((qaI c i).getD (qbi c i/2).toNat []) ((qaI c i).getD (qbj c i/2).toNat [])).length:=by
 have hf:=hc.first_bd;have hl:=qa4 (c:=c) hf.1 i;obtain⟨g1,g2⟩:=hc.g i h;have ha:(qbi c i/2).toNat<c.first.toNat+i:=by unfold qbi;unfold qaX at g1;omega
 have hb:(qbj c i/2).toNat<c.first.toNat+i:=by unfold qbj;unfold qaX at g2;omega
 obtain⟨a1,a2,⟨sa,a3,a4⟩,a5⟩:=qcq hc i (by omega) _ (by rw[hl];exact ha);obtain⟨b1,b2,⟨sb,b3,b4⟩,b5⟩:=qcq hc i (by omega) _ (by rw[hl];exact hb);exact qpy a3 b3 (by have:=qeo sa sb;omega)
end Go.VL

set_option linter.unusedVariables false
set_option linter.unusedSimpArgs false
namespace Go.VL
def qb8 (arr:List Int) (cut:List Int):Int:=cut.foldl (fun t v=>max t (arr.getD v.toNat 0)) 0
def qbE (arr:List Int) (x b:List Int):Prop:=qb8 arr x<qb8 arr b∨(qb8 arr x=qb8 arr b/\x.length<b.length)
instance (arr:List Int) (x b:List Int):Decidable (qbE arr x b):=by unfold qbE;infer_instance
def qbD (arr:List Int):List (List Int)->List Int
 | []=>[]
 | x::r=>r.foldl (fun b y=>if qbE arr y b then y else b) x
theorem qiE {arr:List Int}{l:List (List Int)}{y:List Int}(h:0<l.length):qbD arr (l ++ [y])=if qbE arr y (qbD arr l) then y else qbD arr l:=by
 cases l with
 | nil=>simp at h
 | cons x r=>
  have e : ∀ s,qbD arr (x::s)=s.foldl (fun b y=>if qbE arr y b then y else b) x:=fun s=>rfl
  show qbD arr (x::(r ++ [y]))=_
  rw[e (r ++ [y]),yaO];rfl
theorem qg1 {arr:List Int}{l:List (List Int)}(h:0<l.length):qbD arr l∈l:=by
 cases l with
 | nil=>simp at h
 | cons x r=>
  have : ∀ (r:List (List Int)) (b:List Int),r.foldl (fun b y=>if qbE arr y b then y else b) b=b∨r.foldl (fun b y=>if qbE arr y b then y else b) b∈r:=by
   intro r;induction r with
   | nil=>exact fun b=>.inl rfl
   | cons y r ih=>
    intro b;simp only[yao];rcases ih (if qbE arr y b then y else b) with h1|h1
    ·rw[h1];split
     ·exact .inr (by simp)
     ·exact .inl rfl
    ·exact .inr (by simp[h1])
  rcases this r x with h1|h1
  ·rw[qbD,h1];simp
  ·rw[qbD];simp[h1]
def qaP (c:Circ) (cuts:List (List (List Int))):Nat->List (List Int)×List Int
 | 0=>(List.replicate c.first.toNat [],List.replicate c.first.toNat 0)
 | i+1=>
  (
   (qaP c cuts i).1 ++ [qbD (qaP c cuts i).2 (cuts.getD (c.first.toNat+i) []).dropLast],
   (qaP c cuts i).2 ++ [1+qb8 (qaP c cuts i).2 (qbD (qaP c cuts i).2 (cuts.getD (c.first.toNat+i) []).dropLast)])
theorem qdP (c:Circ) (cuts:List (List (List Int))) : ∀ i,(qaP c cuts i).1.length=c.first.toNat+i/\(qaP c cuts i).2.length=c.first.toNat+i
 | 0=>by simp[qaP]
 | i+1=>by
  have:=qdP c cuts i;simp only[qaP,yae,ybm];omega
theorem qep {arr:List Int}{cut:List Int}{m:Int}(h : ∀ z∈cut,arr.getD z.toNat 0<=m) (hm:0<=m):0<=qb8 arr cut/\qb8 arr cut<=m:=by
 have : ∀ (cut:List Int) (t:Int),(∀ z∈cut,arr.getD z.toNat 0<=m)->0<=t->t<=m->0<=cut.foldl (fun t v=>max t (arr.getD v.toNat 0)) t/\cut.foldl (fun t v=>max t (arr.getD v.toNat 0)) t<=m:=by
  intro cut;induction cut with
  | nil=>exact fun t _ h1 h2=>⟨h1,h2⟩
  | cons x r ih=>
   intro t h h1 h2;have hx:=h x (by simp);exact ih (max t (arr.getD x.toNat 0)) (fun z hz=>h z (by simp[hz])) (by omega) (by omega)
 exact this cut 0 h (Int.le_refl 0) hm
theorem qkm (c:Circ) (cuts:List (List (List Int))) : ∀ i j,0<=(qaP c cuts i).2.getD j 0/\(qaP c cuts i).2.getD j 0<=i
 | 0,j=>by
  by_cases h:j<c.first.toNat
  ·simp[qaP,List.getD,h]
  ·simp[qaP,List.getD,h]
 | i+1,j=>by
  have ih:=qkm c cuts i;have hl:=(qdP c cuts i).2;by_cases h:j<(qaP c cuts i).2.length
  ·have e:(qaP c cuts (i+1)).2.getD j 0=(qaP c cuts i).2.getD j 0:=by simp only[qaP];exact qaq h
   have:=ih j;rw[e];omega
  ·have ha:=qep (arr:=(qaP c cuts i).2) (cut:=qbD (qaP c cuts i).2 (cuts.getD (c.first.toNat+i) []).dropLast) (m:=i) (fun z _=>(ih z.toNat).2) (by omega);by_cases h2:j=(qaP c cuts i).2.length
   ·have e:(qaP c cuts (i+1)).2.getD j 0=1+qb8 (qaP c cuts i).2 (qbD (qaP c cuts i).2 (cuts.getD (c.first.toNat+i) []).dropLast):=by
     simp only[qaP,h2];simp[List.getD]
    rw[e];omega
   ·have e:(qaP c cuts (i+1)).2.getD j 0=0:=by
     rw[List.getD_eq_getElem?_getD,List.getElem?_eq_none (by simp only[qaP,yae,ybm];omega)];rfl
    rw[e];omega
noncomputable def qbm (c:Circ):List (List Int):=(qaP c (qbe c) c.gates.length).1
noncomputable def arrC (c:Circ):List Int:=(qaP c (qbe c) c.gates.length).2
theorem qpz {c:Circ}{cuts:List (List (List Int))}{i n:Nat}(h:i<=n) {v:Nat}(hv:v<c.first.toNat+i) :
  (qaP c cuts n).1.getD v []=(qaP c cuts i).1.getD v []/\(qaP c cuts n).2.getD v 0=(qaP c cuts i).2.getD v 0:=by
 induction n with
 | zero=>
      obtain rfl:i=0:=by omega
      exact⟨rfl,rfl⟩
 | succ n ih=>
  have hl:=qdP c cuts n;by_cases hin:i<=n
  ·have:=ih hin;simp only[qaP];rw[qaq (by omega),qaq (by omega)];exact this
  ·obtain rfl:i=n+1:=by omega
   exact⟨rfl,rfl⟩
theorem qn4 {c:Circ}{cuts:List (List (List Int))}{i n:Nat}(h:i<n) :
  (qaP c cuts n).1.getD (c.first.toNat+i) []=qbD (qaP c cuts i).2 (cuts.getD (c.first.toNat+i) []).dropLast/\
  (qaP c cuts n).2.getD (c.first.toNat+i) 0=1+qb8 (qaP c cuts i).2 (qbD (qaP c cuts i).2 (cuts.getD (c.first.toNat+i) []).dropLast):=by
 have hl:=qdP c cuts i;have:=qpz (c:=c) (cuts:=cuts) (i:=i+1) (n:=n) (by omega) (v:=c.first.toNat+i) (by omega);rw[this.1,this.2];simp only[qaP];constructor
 ·have e:c.first.toNat+i=(qaP c cuts i).1.length:=by omega
  rw[e];simp[List.getD]
 ·have e:c.first.toNat+i=(qaP c cuts i).2.length:=by omega
  rw[e];simp[List.getD]
theorem qlh {c:Circ}(hc:c.Valid) {i:Nat}(h:i<c.gates.length):(qbm c).getD (c.first.toNat+i) []∈qfF ((qaI c i).getD (qbi c i/2).toNat []) ((qaI c i).getD (qbj c i/2).toNat []):=by
 have hf:=hc.first_bd;have e:((qbe c).getD (c.first.toNat+i) []).dropLast=qfF ((qaI c i).getD (qbi c i/2).toNat []) ((qaI c i).getD (qbj c i/2).toNat []):=by
  rw[qbe,qcX hf.1 h,List.dropLast_concat]
 rw[qbm,(qn4 h).1,e];exact qg1 (qiD hc h)
theorem qcF {c:Circ}(hc:c.Valid) {i:Nat}(h:i<c.gates.length):asc ((qbm c).getD (c.first.toNat+i) [])/\((qbm c).getD (c.first.toNat+i) []).length<=3/\∀ z∈(qbm c).getD (c.first.toNat+i) [],1<=z/\z<c.first+i:=by
 have hf:=hc.first_bd;have hl:=qa4 (c:=c) hf.1 i;obtain⟨g1,g2⟩:=hc.g i h;have ha:(qbi c i/2).toNat<c.first.toNat+i:=by unfold qbi;unfold qaX at g1;omega
 have hb:(qbj c i/2).toNat<c.first.toNat+i:=by unfold qbj;unfold qaX at g2;omega
 obtain⟨a1,-⟩:=qcq hc i (by omega) _ (by rw[hl];exact ha);obtain⟨b1,-⟩:=qcq hc i (by omega) _ (by rw[hl];exact hb);have:=qfd (P:=fun cut=>asc cut/\cut.length<=3/\∀ z∈cut,1<=z/\z<c.first+i) (fun x hx y hy hle=>by
  have hx':=a1 x hx;have hy':=b1 y hy;refine⟨qen hx'.asc hy'.asc,hle,fun z hz=>?_⟩;rcases(qbo _ _).1 hz with h2|h2
  ·have:=hx'.rng z h2;omega
  ·have:=hy'.rng z h2;omega) _ (qlh hc h)
 exact this
theorem qli (c:Circ):(qbm c).length=c.first.toNat+c.gates.length:=(qdP c _ _).1
def qdQ (leaves:List Int) (x:Nat) (v:Int) (d:Bool):Bool:=if v∈leaves then x.testBit (leaves.idxOf v) else d
def qfG (c:Circ) (leaves:List Int) (x:Nat):Nat->List Bool
 | 0=>(List.range c.first.toNat).map fun(v:Nat)=>qdQ leaves x (v:Int) false
 | i+1=>qfG c leaves x i ++ [qdQ leaves x (c.first+(i:Int)) (litV (qfG c leaves x i) (qbi c i)&&litV (qfG c leaves x i) (qbj c i))]
theorem qiF (c:Circ) (leaves:List Int) (x:Nat) : ∀ i,(qfG c leaves x i).length=c.first.toNat+i
 | 0=>by simp[qfG]
 | i+1=>by rw[qfG,yae,qiF c leaves x i];simp;omega
def qcl (c:Circ) (leaves:List Int) (x:Nat) (v:Int):Bool:=(qfG c leaves x c.gates.length).getD v.toNat false
theorem qiG {c:Circ}{leaves:List Int}{x:Nat}{i n:Nat}(h:i<=n) {v:Nat}(hv:v<c.first.toNat+i):(qfG c leaves x n).getD v false=(qfG c leaves x i).getD v false:=by
 induction n with
 | zero=>
      obtain rfl:i=0:=by omega
      rfl
 | succ n ih=>
  have hl:=qiF c leaves x n;by_cases hin:i<=n
  ·rw[qfG,qaq (by omega)];exact ih hin
  ·obtain rfl:i=n+1:=by omega
   rfl
theorem qfe {c:Circ}{leaves:List Int}{x:Nat}{v:Int}(h0:0<=v) (h:v<c.first):qcl c leaves x v=qdQ leaves x v false:=by
 rw[qcl,qiG (i:=0) (by omega) (by omega),qfG];simp[List.getD,show v.toNat<c.first.toNat by omega,Int.toNat_of_nonneg h0]
theorem qjx {c:Circ}{leaves:List Int}{x:Nat}{i:Nat}{l:Int}(h:qaX l (c.first+(i:Int))) (hi:i<=c.gates.length) (hf:1<=c.first):litV (qfG c leaves x i) l=(qcl c leaves x (l/2) != decide (l%2=1)):=by
 unfold qaX at h;rw[litV,qcl,qiG hi (by omega)]
theorem qfu {c:Circ}(hc:c.Valid) {leaves:List Int}{x:Nat}{i:Nat}(h:i<c.gates.length) :
  qcl c leaves x (c.first+(i:Int))=qdQ leaves x (c.first+(i:Int)) ((qcl c leaves x (qbi c i/2) != decide (qbi c i%2=1))&&(qcl c leaves x (qbj c i/2) != decide (qbj c i%2=1))):=by
 have hf:=hc.first_bd;obtain⟨g1,g2⟩:=hc.g i h;have q1:litV (qfG c leaves x i) (qbi c i)=(qcl c leaves x (qbi c i/2) != decide (qbi c i%2=1)):=qjx (i:=i) g1 (by omega) hf.1;have q2:litV (qfG c leaves x i) (qbj c i)=(qcl c leaves x (qbj c i/2) != decide (qbj c i%2=1)):=qjx (i:=i) g2 (by omega) hf.1;rw[<-q1,<-q2];rw[qcl,qiG (i:=i+1) (by omega) (by omega),qfG];have e:(c.first+(i:Int)).toNat=(qfG c leaves x i).length:=by rw[qiF];omega
 rw[e];simp[List.getD]
def qdh (c:Circ) (v:Int) (leaves:List Int):Nat->Nat
 | 0=>0
 | x+1=>qdh c v leaves x+(if qcl c leaves x v then 2 ^ x else 0)
theorem qff (c:Circ) (v:Int) (leaves:List Int) : ∀ n,qdh c v leaves n<2 ^ n
 | 0=>by simp[qdh]
 | n+1=>by
  have:=qff c v leaves n;rw[qdh,Nat.pow_succ];split <;> omega
theorem qjy (c:Circ) (v:Int) (leaves:List Int) : ∀ n x,x<n->(qdh c v leaves n).testBit x=qcl c leaves x v
 | 0,x,h=>by omega
 | n+1,x,h=>by
  have hlt:=qff c v leaves n;have ih:=qjy c v leaves n;rw[qdh];by_cases hx:x=n
  ·subst hx;split
   ·rename_i h1;rw[Nat.add_comm,Nat.testBit_two_pow_add_eq,Nat.testBit_lt_two_pow hlt,h1];rfl
   ·rename_i h1;rw[ybe,Nat.testBit_lt_two_pow hlt];simpa using h1
  ·have hxn:x<n:=by omega
   split
   ·rw[Nat.add_comm,Nat.testBit_two_pow_add_gt hxn];exact ih x hxn
   ·exact ih x hxn
def qgn (c:Circ) (v:Int) (leaves:List Int):Int:=(qdh c v leaves (2 ^ leaves.length):Nat)
structure Lut where
 var:Int
 leaves:List Int
 table:Int
def qbk (need:List Bool) (vs:List Int):List Bool:=vs.foldl (fun n v=>n.set v.toNat true) need
theorem qci : ∀ (vs:List Int) (need:List Bool),(qbk need vs).length=need.length
 | [],need=>rfl
 | v::vs,need=>by
  show(qbk (need.set v.toNat true) vs).length=_
  rw[qci vs,yax]
theorem qeq : ∀ (vs:List Int) (need:List Bool) (j:Nat),(∀ v∈vs,0<=v)->(qbk need vs).getD j false=(need.getD j false || decide (j<need.length/\(j:Int)∈vs))
 | [],need,j,_=>by simp[qbk]
 | v::vs,need,j,h=>by
  show(qbk (need.set v.toNat true) vs).getD j false=_
  rw[qeq vs _ j fun z hz=>h z (by simp[hz])];have hv:=h v (by simp);by_cases e:v.toNat=j
  ·subst e;by_cases hl:v.toNat<need.length
   ·simp[List.getD,hl,Int.toNat_of_nonneg hv]
   ·simp[List.getD,hl]
  ·have : ¬ (j:Int)=v:=by omega
   simp[List.getD,List.getElem?_set,e,this]
def qbl (c:Circ):List Int:=(c.outs++c.next).map (· / 2)
def qfg (c:Circ):List Bool:=qbk (List.replicate c.vars.toNat false) (qbl c)
noncomputable def mapD (c:Circ):Nat->List Bool->List Lut->List Lut
 | 0,_,out=>out
 | j+1,need,out=>
  if need.getD (c.first.toNat+j) false=true then
   mapD c j (qbk need ((qbm c).getD (c.first.toNat+j) [])) (⟨c.first+(j:Int),(qbm c).getD (c.first.toNat+j) [],qgn c (c.first+(j:Int)) ((qbm c).getD (c.first.toNat+j) [])⟩::out)
  else mapD c j need out
noncomputable def qdx (c:Circ):List Lut:=mapD c c.gates.length (qfg c) []
structure Cel where
 net:Int
 inputs:List Int
 table:Int
 reg:Bool
def qaL (c:Circ) (i:Nat):Cel:=
 if(c.next.getD i 0)/2 > 0 then⟨c.inputs+1+i,[(c.next.getD i 0)/2],2-(c.next.getD i 0)%2,true⟩ else⟨c.inputs+1+i,[],(c.next.getD i 0)%2,true⟩
def qa5 (l:Lut):Cel:=⟨l.var,l.leaves,l.table,false⟩
noncomputable def qae (c:Circ):List Cel:=(List.range c.next.length).map (qaL c)++(qdx c).map qa5
def ce0:Cel:=⟨0,[],0,false⟩
def qfh (x:Cel) (net:Int) (i:Nat):List Int:=(x.inputs.filter fun z=>decide (z=net)).map fun _=>(i:Int)
def qa9 (cells:List Cel) (net:Int):Nat->List Int
 | 0=>[]
 | i+1=>qa9 cells net i++qfh (cells.getD i ce0) net i
def qdn (cells:List Cel) (net:Int):List Int:=qa9 cells net cells.length
theorem qer {cells:List Cel}{net:Int}{z:Int} : ∀ {n:Nat},z∈qa9 cells net n↔∃ i:Nat,i<n/\net∈(cells.getD i ce0).inputs/\z=(i:Int)
 | 0=>by simp[qa9]
 | n+1=>by
  rw[qa9,yaw,qer];constructor
  ·rintro(⟨i,h1,h2,h3⟩|h)
   ·exact⟨i,by omega,h2,h3⟩
   ·simp only[qfh,List.mem_map,List.mem_filter,decide_eq_true_eq] at h;obtain⟨w,⟨h1,rfl⟩,rfl⟩:=h;exact⟨n,by omega,h1,rfl⟩
  ·rintro⟨i,h1,h2,rfl⟩;by_cases hi:i<n
   ·exact .inl ⟨i,hi,h2,rfl⟩
   ·obtain rfl:i=n:=by omega
    exact .inr (List.mem_map.2 ⟨net,List.mem_filter.2 ⟨h2,by simp⟩,rfl⟩)
end Go.VL
