/- Contracts, plain definitions and lemmas. Conditions: none; lemmas. -/
import Derived.Test.YteikeianenfhaaaGreatVM8
set_option linter.unusedVariables false
set_option linter.unusedSimpArgs false
set_option maxHeartbeats 2000000
namespace Go.VL
theorem qaw {α β : Type}{f : β->α->β}{b : β}{l:List α}{i:Nat}(z : α) (h:i<l.length):(l.take (i+1)).foldl f b=f ((l.take i).foldl f b) (l.getD i z):=by
 rw[yaE h,ybf];simp[List.getD,h]
def qaC:List Int->List Int->List Int
 | [],b=>b
 | x::a,[]=>x::a
 | x::a,y::b=>if x<y then x::qaC a (y::b) else if y<x then y::qaC (x::a) b else x::qaC a b
termination_by a b=>a.length+b.length
theorem qcS (b:List Int):qaC [] b=b:=by rw[qaC]
theorem qdb (a:List Int):qaC a []=a:=by cases a <;> rw[qaC]
theorem qfD {x y:Int}{a b:List Int}(h:x<y):qaC (x::a) (y::b)=x::qaC a (y::b):=by rw[qaC,if_pos h]
theorem qfE {x y:Int}{a b:List Int}(h:y<x):qaC (x::a) (y::b)=y::qaC (x::a) b:=by rw[qaC,if_neg (by omega),if_pos h]
theorem qfF {x:Int}{a b:List Int}:qaC (x::a) (x::b)=x::qaC a b:=by rw[qaC,if_neg (by omega),if_neg (by omega)]
theorem qbB {z:Int} : ∀ (a b:List Int),z∈qaC a b↔z∈a∨z∈b
 | [],b=>by rw[qcS];simp
 | x::a,[]=>by rw[qdb];simp
 | x::a,y::b=>by
  have i1:=qbB (z:=z) a (y::b);have i2:=qbB (z:=z) (x::a) b;have i3:=qbB (z:=z) a b;rcases Int.lt_trichotomy x y with h|h|h
  ·rw[qfD h,yas,i1];simp only[yas,or_assoc]
  ·subst h;rw[qfF,yas,i3];simp only[yas];constructor
   ·rintro(h|h|h) <;> simp[h]
   ·rintro((h|h)|h|h) <;> simp[h]
  ·rw[qfE h,yas,i2];simp only[yas];constructor
   ·rintro(h|(h|h)|h) <;> simp[h]
   ·rintro((h|h)|h|h) <;> simp[h]
termination_by a b=>a.length+b.length
def asc (l:List Int):Prop:=l.Pairwise (· < ·)
theorem qdF : ∀ {a b:List Int},asc a->asc b->asc (qaC a b)
 | [],b,_,hb=>by rw[qcS];exact hb
 | x::a,[],ha,_=>by rw[qdb];exact ha
 | x::a,y::b,ha,hb=>by
  obtain⟨ha1,ha2⟩:=List.pairwise_cons.1 ha;obtain⟨hb1,hb2⟩:=List.pairwise_cons.1 hb;rcases Int.lt_trichotomy x y with h|h|h
  ·rw[qfD h];refine List.pairwise_cons.2 ⟨fun z hz=>?_,qdF ha2 hb⟩;rcases(qbB _ _).1 hz with h1|h1
   ·exact ha1 z h1
   ·rcases List.mem_cons.1 h1 with rfl|h2
    ·exact h
    ·have:=hb1 z h2;omega
  ·subst h;rw[qfF];refine List.pairwise_cons.2 ⟨fun z hz=>?_,qdF ha2 hb2⟩;rcases(qbB _ _).1 hz with h1|h1
   ·exact ha1 z h1
   ·exact hb1 z h1
  ·rw[qfE h];refine List.pairwise_cons.2 ⟨fun z hz=>?_,qdF ha hb2⟩;rcases(qbB _ _).1 hz with h1|h1
   ·rcases List.mem_cons.1 h1 with rfl|h2
    ·exact h
    ·have:=ha1 z h2;omega
   ·exact hb1 z h1
termination_by a b=>a.length+b.length
theorem qnQ : ∀ {a b:List Int},asc a->asc b->(∀ z,z∈a↔z∈b)->a=b
 | [],[],_,_,_=>rfl
 | [],y::b,_,_,h=>by have:=(h y).2 (by simp);simp at this
 | x::a,[],_,_,h=>by have:=(h x).1 (by simp);simp at this
 | x::a,y::b,ha,hb,h=>by
  obtain⟨ha1,ha2⟩:=List.pairwise_cons.1 ha;obtain⟨hb1,hb2⟩:=List.pairwise_cons.1 hb;have hxy:x=y:=by
   rcases List.mem_cons.1 ((h x).1 (by simp)) with h1|h1
   ·exact h1
   ·rcases List.mem_cons.1 ((h y).2 (by simp)) with h2|h2
    ·exact h2.symm
    ·have:=hb1 x h1;have:=ha1 y h2;omega
  subst hxy;congr 1;refine qnQ ha2 hb2 fun z=>⟨fun hz=>?_,fun hz=>?_⟩
  ·have hlt:=ha1 z hz;rcases List.mem_cons.1 ((h z).1 (by simp[hz])) with h1|h1
   ·omega
   ·exact h1
  ·have hlt:=hb1 z hz;rcases List.mem_cons.1 ((h z).2 (by simp[hz])) with h1|h1
   ·omega
   ·exact h1
theorem qdG : ∀ (a b:List Int),(qaC a b).length<=a.length+b.length
 | [],b=>by rw[qcS];simp
 | x::a,[]=>by rw[qdb];simp
 | x::a,y::b=>by
  have i1:=qdG a (y::b);have i2:=qdG (x::a) b;have i3:=qdG a b;rcases Int.lt_trichotomy x y with h|h|h
  ·rw[qfD h];simp only[yah] at *;omega
  ·subst h;rw[qfF];simp only[yah] at *;omega
  ·rw[qfE h];simp only[yah] at *;omega
termination_by a b=>a.length+b.length
def addC (l:List (List Int)) (cut:List Int):List (List Int):=if cut.length<=3/\l.length<8/\cut∉l then l ++ [cut] else l
def rowC (x:List Int) (q:List (List Int)) (l:List (List Int)):List (List Int):=q.foldl (fun l y=>addC l (qaC x y)) l
def qeW (p q:List (List Int)):List (List Int):=p.foldl (fun l x=>rowC x q l) []
def qbq (c:Circ) (i:Nat):Int:=(c.gates.getD i (0,0)).1
def qbr (c:Circ) (i:Nat):Int:=(c.gates.getD i (0,0)).2
def qaH (c:Circ):Nat->List (List (List Int))
 | 0=>[[]]::(List.range (c.first.toNat-1)).map fun(v:Nat)=>[[(v:Int)+1]]
 | i+1=>qaH c i ++ [qeW ((qaH c i).getD (qbq c i/2).toNat []) ((qaH c i).getD (qbr c i/2).toNat []) ++ [[c.first+(i:Int)]]]
def qaF (c:Circ):List (List (List Int)):=qaH c c.gates.length
theorem qbc {c:Circ}(h:1<=c.first) : ∀ i,(qaH c i).length=c.first.toNat+i
 | 0=>by simp[qaH];omega
 | i+1=>by rw[qaH,yae,qbc h i];simp;omega
theorem addC_le {l:List (List Int)}{cut:List Int}(h:l.length<=8):(addC l cut).length<=8:=by
 unfold addC;split
 ·rename_i h2;simp;omega
 ·exact h
theorem qge {x:List Int} : ∀ {q l:List (List Int)},l.length<=8->(rowC x q l).length<=8
 | [],l,h=>h
 | y::q,l,h=>qge (q:=q) (addC_le h)
theorem qjc (p q:List (List Int)):(qeW p q).length<=8:=by
 have : ∀ (p l:List (List Int)),l.length<=8->(p.foldl (fun l x=>rowC x q l) l).length<=8:=by
  intro p;induction p with
  | nil=>exact fun l h=>h
  | cons x p ih=>exact fun l h=>ih _ (qge h)
 exact this p [] (by simp)
theorem qpF {P:List Int->Prop}{l:List (List Int)}{cut:List Int}(h : ∀ x∈l,P x) (hc:cut.length<=3->P cut) : ∀ x∈addC l cut,P x:=by
 unfold addC;split
 ·rename_i h2;intro x hx;rcases List.mem_append.1 hx with h1|h1
  ·exact h x h1
  ·obtain rfl:x=cut:=by simpa using h1
   exact hc h2.1
 ·exact h
theorem qlI {P:List Int->Prop}{x:List Int} : ∀ {q l:List (List Int)},(∀ z∈l,P z)->(∀ y∈q,(qaC x y).length<=3->P (qaC x y))->∀ z∈rowC x q l,P z
 | [],l,h,_=>h
 | y::q,l,h,hq=>qlI (q:=q) (qpF h (hq y (by simp))) fun z hz=>hq z (by simp[hz])
theorem qfG {P:List Int->Prop}{p q:List (List Int)}(h : ∀ x∈p,∀ y∈q,(qaC x y).length<=3->P (qaC x y)) : ∀ z∈qeW p q,P z:=by
 have : ∀ (p l:List (List Int)),(∀ z∈l,P z)->(∀ x∈p,∀ y∈q,(qaC x y).length<=3->P (qaC x y))->∀ z∈p.foldl (fun l x=>rowC x q l) l,P z:=by
  intro p;induction p with
  | nil=>exact fun l h _=>h
  | cons x p ih=>exact fun l h hp=>ih _ (qlI h (hp x (by simp))) fun z hz=>hp z (by simp[hz])
 exact this p [] (by simp) h
theorem qnR {l:List (List Int)}{cut:List Int}:l.length<=(addC l cut).length:=by
 unfold addC;split <;> simp
theorem qhy {x:List Int} : ∀ {q l:List (List Int)},l.length<=(rowC x q l).length
 | [],l=>yad _
 | y::q,l=>yat qnR (qhy (q:=q))
theorem qpG {l:List (List Int)}{cut:List Int}(h:cut.length<=3):0<(addC l cut).length:=by
 unfold addC;split
 ·simp
 ·rename_i h2;cases l with
  | nil=>exact absurd ⟨h,by simp,by simp⟩ h2
  | cons x r=>simp
theorem qlJ {x y:List Int}(h:(qaC x y).length<=3) : ∀ {q l:List (List Int)},y∈q->0<(rowC x q l).length
 | [],l,hy=>by simp at hy
 | z::q,l,hy=>by
  rcases List.mem_cons.1 hy with rfl|h1
  ·exact yai (qpG (l:=l) h) (qhy (q:=q))
  ·exact qlJ h (q:=q) h1
theorem qnS {p q:List (List Int)}{x y:List Int}(hx:x∈p) (hy:y∈q) (h:(qaC x y).length<=3):0<(qeW p q).length:=by
 have mono : ∀ (p l:List (List Int)),l.length<=(p.foldl (fun l x=>rowC x q l) l).length:=by
  intro p;induction p with
  | nil=>exact fun l=>yad _
  | cons x p ih=>exact fun l=>yat (qhy (q:=q)) (ih _)
 have : ∀ (p l:List (List Int)),x∈p->0<(p.foldl (fun l x=>rowC x q l) l).length:=by
  intro p;induction p with
  | nil=>exact fun l h=>by simp at h
  | cons z p ih=>
   intro l hz;rcases List.mem_cons.1 hz with rfl|h1
   ·exact yai (qlJ h (l:=l) hy) (mono p _)
   ·exact ih _ h1
 exact this p [] hx
structure CutOk (c:Circ) (v:Int) (cut:List Int):Prop where
 asc:asc cut
 len:cut.length<=3
 rng : ∀ z∈cut,1<=z/\z<=v
theorem qb9 {c:Circ}(hc:c.Valid) : ∀ i,i<=c.gates.length->∀ v,v<(qaH c i).length->(∀ cut∈(qaH c i).getD v [],CutOk c (v:Int) cut)/\(qaH c i).getD v []≠[]/\(∃ s∈(qaH c i).getD v [],s.length<=1)/\((qaH c i).getD v []).length<=9:=by
 have hf:=hc.first_bd;intro i;induction i with
 | zero=>
  intro _ v hv;rw[qbc hf.1] at hv;cases v with
  | zero=>
   have e:(qaH c 0).getD 0 []=[[]]:=rfl;rw[e];refine⟨fun cut h=>?_,by simp,⟨[],by simp,by simp⟩,by simp⟩;obtain rfl:cut=[]:=by simpa using h
   exact⟨List.Pairwise.nil,by simp,by simp⟩
  | succ v=>
   have e:(qaH c 0).getD (v+1) []=[[(v:Int)+1]]:=by
    simp[qaH,List.getD,show v<c.first.toNat-1 by omega]
   rw[e];refine⟨fun cut h=>?_,by simp,⟨[(v:Int)+1],by simp,by simp⟩,by simp⟩;obtain rfl:cut=[(v:Int)+1]:=by simpa using h
   exact⟨by simp[asc],by simp,fun z hz=>by
    obtain rfl:z=(v:Int)+1:=by simpa using hz
    omega⟩
 | succ i ih=>
  intro hi v hv;have hl:=qbc (c:=c) hf.1 i;rw[qbc hf.1] at hv;by_cases h:v<c.first.toNat+i
  ·have e:(qaH c (i+1)).getD v []=(qaH c i).getD v []:=by rw[qaH];exact qar (by omega)
   rw[e];exact ih (by omega) v (by omega)
  ·have hv2:v=(qaH c i).length:=by omega
   have e:(qaH c (i+1)).getD v []=qeW ((qaH c i).getD (qbq c i/2).toNat []) ((qaH c i).getD (qbr c i/2).toNat []) ++ [[c.first+(i:Int)]]:=by
    rw[qaH,hv2];simp[List.getD]
   obtain⟨g1,g2⟩:=hc.g i (by omega);have ha:(qbq c i/2).toNat<c.first.toNat+i:=by unfold qbq;unfold qa6 at g1;omega
   have hb:(qbr c i/2).toNat<c.first.toNat+i:=by unfold qbr;unfold qa6 at g2;omega
   obtain⟨a1,a2,⟨sa,a3,a4⟩,a5⟩:=ih (by omega) _ (by rw[hl];exact ha);obtain⟨b1,b2,⟨sb,b3,b4⟩,b5⟩:=ih (by omega) _ (by rw[hl];exact hb);rw[e];have hj:=qjc ((qaH c i).getD (qbq c i/2).toNat []) ((qaH c i).getD (qbr c i/2).toNat []);refine⟨fun cut h=>?_,by simp,⟨[c.first+(i:Int)],by simp,by simp⟩,by rw[yae,yaO];omega⟩;rcases List.mem_append.1 h with h1|h1
   ·refine qfG (P:=fun cut=>CutOk c (v:Int) cut) (fun x hx y hy hle=>?_) cut h1;have hx':=a1 x hx;have hy':=b1 y hy;refine⟨qdF hx'.asc hy'.asc,hle,fun z hz=>?_⟩;rcases(qbB _ _).1 hz with h2|h2
    ·have:=hx'.rng z h2;omega
    ·have:=hy'.rng z h2;omega
   ·obtain rfl:cut=[c.first+(i:Int)]:=by simpa using h1
    exact⟨by simp[asc],by simp,fun z hz=>by
     obtain rfl:z=c.first+(i:Int):=by simpa using hz
     omega⟩
theorem qdH {c:Circ}(hf:1<=c.first) {n i:Nat}(h:i<n):(qaH c n).getD (c.first.toNat+i) []=qeW ((qaH c i).getD (qbq c i/2).toNat []) ((qaH c i).getD (qbr c i/2).toNat []) ++ [[c.first+(i:Int)]]:=by
 induction n with
 | zero=>omega
 | succ n ih=>
  have hl:=qbc (c:=c) hf n;by_cases hin:i<n
  ·rw[qaH,qar (by omega)];exact ih hin
  ·obtain rfl:i=n:=by omega
   rw[qaH,<-hl];simp[List.getD]
theorem qhz {c:Circ}(hc:c.Valid) {i:Nat}(h:i<c.gates.length):0<(qeW ((qaH c i).getD (qbq c i/2).toNat []) ((qaH c i).getD (qbr c i/2).toNat [])).length:=by
 have hf:=hc.first_bd;have hl:=qbc (c:=c) hf.1 i;obtain⟨g1,g2⟩:=hc.g i h;have ha:(qbq c i/2).toNat<c.first.toNat+i:=by unfold qbq;unfold qa6 at g1;omega
 have hb:(qbr c i/2).toNat<c.first.toNat+i:=by unfold qbr;unfold qa6 at g2;omega
 obtain⟨a1,a2,⟨sa,a3,a4⟩,a5⟩:=qb9 hc i (by omega) _ (by rw[hl];exact ha);obtain⟨b1,b2,⟨sb,b3,b4⟩,b5⟩:=qb9 hc i (by omega) _ (by rw[hl];exact hb);exact qnS a3 b3 (by have:=qdG sa sb;omega)
end Go.VL

set_option linter.unusedVariables false
set_option linter.unusedSimpArgs false
namespace Go.VL
def qbC (arr:List Int) (cut:List Int):Int:=cut.foldl (fun t v=>max t (arr.getD v.toNat 0)) 0
def qbo (arr:List Int) (x b:List Int):Prop:=qbC arr x<qbC arr b∨(qbC arr x=qbC arr b/\x.length<b.length)
instance (arr:List Int) (x b:List Int):Decidable (qbo arr x b):=by unfold qbo;infer_instance
def qbn (arr:List Int):List (List Int)->List Int
 | []=>[]
 | x::r=>r.foldl (fun b y=>if qbo arr y b then y else b) x
theorem qhA {arr:List Int}{l:List (List Int)}{y:List Int}(h:0<l.length):qbn arr (l ++ [y])=if qbo arr y (qbn arr l) then y else qbn arr l:=by
 cases l with
 | nil=>simp at h
 | cons x r=>
  have e : ∀ s,qbn arr (x::s)=s.foldl (fun b y=>if qbo arr y b then y else b) x:=fun s=>rfl
  show qbn arr (x::(r ++ [y]))=_
  rw[e (r ++ [y]),ybf];rfl
theorem qgf {arr:List Int}{l:List (List Int)}(h:0<l.length):qbn arr l∈l:=by
 cases l with
 | nil=>simp at h
 | cons x r=>
  have : ∀ (r:List (List Int)) (b:List Int),r.foldl (fun b y=>if qbo arr y b then y else b) b=b∨r.foldl (fun b y=>if qbo arr y b then y else b) b∈r:=by
   intro r;induction r with
   | nil=>exact fun b=>.inl rfl
   | cons y r ih=>
    intro b;simp only[yan];rcases ih (if qbo arr y b then y else b) with h1|h1
    ·rw[h1];split
     ·exact .inr (by simp)
     ·exact .inl rfl
    ·exact .inr (by simp[h1])
  rcases this r x with h1|h1
  ·rw[qbn,h1];simp
  ·rw[qbn];simp[h1]
def qaG (c:Circ) (cuts:List (List (List Int))):Nat->List (List Int)×List Int
 | 0=>(List.replicate c.first.toNat [],List.replicate c.first.toNat 0)
 | i+1=>
  (
   (qaG c cuts i).1 ++ [qbn (qaG c cuts i).2 (cuts.getD (c.first.toNat+i) []).dropLast],
   (qaG c cuts i).2 ++ [1+qbC (qaG c cuts i).2 (qbn (qaG c cuts i).2 (cuts.getD (c.first.toNat+i) []).dropLast)])
theorem qcG (c:Circ) (cuts:List (List (List Int))) : ∀ i,(qaG c cuts i).1.length=c.first.toNat+i/\(qaG c cuts i).2.length=c.first.toNat+i
 | 0=>by simp[qaG]
 | i+1=>by
  have:=qcG c cuts i;simp only[qaG,yae,yaO];omega
theorem qdI {arr:List Int}{cut:List Int}{m:Int}(h : ∀ z∈cut,arr.getD z.toNat 0<=m) (hm:0<=m):0<=qbC arr cut/\qbC arr cut<=m:=by
 have : ∀ (cut:List Int) (t:Int),(∀ z∈cut,arr.getD z.toNat 0<=m)->0<=t->t<=m->0<=cut.foldl (fun t v=>max t (arr.getD v.toNat 0)) t/\cut.foldl (fun t v=>max t (arr.getD v.toNat 0)) t<=m:=by
  intro cut;induction cut with
  | nil=>exact fun t _ h1 h2=>⟨h1,h2⟩
  | cons x r ih=>
   intro t h h1 h2;have hx:=h x (by simp);exact ih (max t (arr.getD x.toNat 0)) (fun z hz=>h z (by simp[hz])) (by omega) (by omega)
 exact this cut 0 h (Int.le_refl 0) hm
theorem qfH (c:Circ) (cuts:List (List (List Int))) : ∀ i j,0<=(qaG c cuts i).2.getD j 0/\(qaG c cuts i).2.getD j 0<=i
 | 0,j=>by
  by_cases h:j<c.first.toNat
  ·simp[qaG,List.getD,h]
  ·simp[qaG,List.getD,h]
 | i+1,j=>by
  have ih:=qfH c cuts i;have hl:=(qcG c cuts i).2;by_cases h:j<(qaG c cuts i).2.length
  ·have e:(qaG c cuts (i+1)).2.getD j 0=(qaG c cuts i).2.getD j 0:=by simp only[qaG];exact qar h
   have:=ih j;rw[e];omega
  ·have ha:=qdI (arr:=(qaG c cuts i).2) (cut:=qbn (qaG c cuts i).2 (cuts.getD (c.first.toNat+i) []).dropLast) (m:=i) (fun z _=>(ih z.toNat).2) (by omega);by_cases h2:j=(qaG c cuts i).2.length
   ·have e:(qaG c cuts (i+1)).2.getD j 0=1+qbC (qaG c cuts i).2 (qbn (qaG c cuts i).2 (cuts.getD (c.first.toNat+i) []).dropLast):=by
     simp only[qaG,h2];simp[List.getD]
    rw[e];omega
   ·have e:(qaG c cuts (i+1)).2.getD j 0=0:=by
     rw[List.getD_eq_getElem?_getD,List.getElem?_eq_none (by simp only[qaG,yae,yaO];omega)];rfl
    rw[e];omega
noncomputable def qa8 (c:Circ):List (List Int):=(qaG c (qaF c) c.gates.length).1
noncomputable def arrC (c:Circ):List Int:=(qaG c (qaF c) c.gates.length).2
theorem qj4 {c:Circ}{cuts:List (List (List Int))}{i n:Nat}(h:i<=n) {v:Nat}(hv:v<c.first.toNat+i) :
  (qaG c cuts n).1.getD v []=(qaG c cuts i).1.getD v []/\(qaG c cuts n).2.getD v 0=(qaG c cuts i).2.getD v 0:=by
 induction n with
 | zero=>
      obtain rfl:i=0:=by omega
      exact⟨rfl,rfl⟩
 | succ n ih=>
  have hl:=qcG c cuts n;by_cases hin:i<=n
  ·have:=ih hin;simp only[qaG];rw[qar (by omega),qar (by omega)];exact this
  ·obtain rfl:i=n+1:=by omega
   exact⟨rfl,rfl⟩
theorem qiw {c:Circ}{cuts:List (List (List Int))}{i n:Nat}(h:i<n) :
  (qaG c cuts n).1.getD (c.first.toNat+i) []=qbn (qaG c cuts i).2 (cuts.getD (c.first.toNat+i) []).dropLast/\
  (qaG c cuts n).2.getD (c.first.toNat+i) 0=1+qbC (qaG c cuts i).2 (qbn (qaG c cuts i).2 (cuts.getD (c.first.toNat+i) []).dropLast):=by
 have hl:=qcG c cuts i;have:=qj4 (c:=c) (cuts:=cuts) (i:=i+1) (n:=n) (by omega) (v:=c.first.toNat+i) (by omega);rw[this.1,this.2];simp only[qaG];constructor
 ·have e:c.first.toNat+i=(qaG c cuts i).1.length:=by omega
  rw[e];simp[List.getD]
 ·have e:c.first.toNat+i=(qaG c cuts i).2.length:=by omega
  rw[e];simp[List.getD]
theorem qnT {c:Circ}(hc:c.Valid) {i:Nat}(h:i<c.gates.length):(qa8 c).getD (c.first.toNat+i) []∈qeW ((qaH c i).getD (qbq c i/2).toNat []) ((qaH c i).getD (qbr c i/2).toNat []):=by
 have hf:=hc.first_bd;have e:((qaF c).getD (c.first.toNat+i) []).dropLast=qeW ((qaH c i).getD (qbq c i/2).toNat []) ((qaH c i).getD (qbr c i/2).toNat []):=by
  rw[qaF,qdH hf.1 h,List.dropLast_concat]
 rw[qa8,(qiw h).1,e];exact qgf (qhz hc h)
theorem qcy {c:Circ}(hc:c.Valid) {i:Nat}(h:i<c.gates.length):asc ((qa8 c).getD (c.first.toNat+i) [])/\((qa8 c).getD (c.first.toNat+i) []).length<=3/\∀ z∈(qa8 c).getD (c.first.toNat+i) [],1<=z/\z<c.first+i:=by
 have hf:=hc.first_bd;have hl:=qbc (c:=c) hf.1 i;obtain⟨g1,g2⟩:=hc.g i h;have ha:(qbq c i/2).toNat<c.first.toNat+i:=by unfold qbq;unfold qa6 at g1;omega
 have hb:(qbr c i/2).toNat<c.first.toNat+i:=by unfold qbr;unfold qa6 at g2;omega
 obtain⟨a1,-⟩:=qb9 hc i (by omega) _ (by rw[hl];exact ha);obtain⟨b1,-⟩:=qb9 hc i (by omega) _ (by rw[hl];exact hb);have:=qfG (P:=fun cut=>asc cut/\cut.length<=3/\∀ z∈cut,1<=z/\z<c.first+i) (fun x hx y hy hle=>by
  have hx':=a1 x hx;have hy':=b1 y hy;refine⟨qdF hx'.asc hy'.asc,hle,fun z hz=>?_⟩;rcases(qbB _ _).1 hz with h2|h2
  ·have:=hx'.rng z h2;omega
  ·have:=hy'.rng z h2;omega) _ (qnT hc h)
 exact this
theorem qj5 (c:Circ):(qa8 c).length=c.first.toNat+c.gates.length:=(qcG c _ _).1
theorem qpH (c:Circ):(arrC c).length=c.first.toNat+c.gates.length:=(qcG c _ _).2
def qey (leaves:List Int) (x:Nat) (v:Int) (d:Bool):Bool:=if v∈leaves then x.testBit (leaves.idxOf v) else d
def qeX (c:Circ) (leaves:List Int) (x:Nat):Nat->List Bool
 | 0=>(List.range c.first.toNat).map fun(v:Nat)=>qey leaves x (v:Int) false
 | i+1=>qeX c leaves x i ++ [qey leaves x (c.first+(i:Int)) (litV (qeX c leaves x i) (qbq c i)&&litV (qeX c leaves x i) (qbr c i))]
theorem qhB (c:Circ) (leaves:List Int) (x:Nat) : ∀ i,(qeX c leaves x i).length=c.first.toNat+i
 | 0=>by simp[qeX]
 | i+1=>by rw[qeX,yae,qhB c leaves x i];simp;omega
def qcf (c:Circ) (leaves:List Int) (x:Nat) (v:Int):Bool:=(qeX c leaves x c.gates.length).getD v.toNat false
theorem qhC {c:Circ}{leaves:List Int}{x:Nat}{i n:Nat}(h:i<=n) {v:Nat}(hv:v<c.first.toNat+i):(qeX c leaves x n).getD v false=(qeX c leaves x i).getD v false:=by
 induction n with
 | zero=>
      obtain rfl:i=0:=by omega
      rfl
 | succ n ih=>
  have hl:=qhB c leaves x n;by_cases hin:i<=n
  ·rw[qeX,qar (by omega)];exact ih hin
  ·obtain rfl:i=n+1:=by omega
   rfl
theorem qfI {c:Circ}{leaves:List Int}{x:Nat}{v:Int}(h0:0<=v) (h:v<c.first):qcf c leaves x v=qey leaves x v false:=by
 rw[qcf,qhC (i:=0) (by omega) (by omega),qeX];simp[List.getD,show v.toNat<c.first.toNat by omega,Int.toNat_of_nonneg h0]
theorem qix {c:Circ}{leaves:List Int}{x:Nat}{i:Nat}{l:Int}(h:qa6 l (c.first+(i:Int))) (hi:i<=c.gates.length) (hf:1<=c.first):litV (qeX c leaves x i) l=(qcf c leaves x (l/2) != decide (l%2=1)):=by
 unfold qa6 at h;rw[litV,qcf,qhC hi (by omega)]
theorem qgg {c:Circ}(hc:c.Valid) {leaves:List Int}{x:Nat}{i:Nat}(h:i<c.gates.length) :
  qcf c leaves x (c.first+(i:Int))=qey leaves x (c.first+(i:Int)) ((qcf c leaves x (qbq c i/2) != decide (qbq c i%2=1))&&(qcf c leaves x (qbr c i/2) != decide (qbr c i%2=1))):=by
 have hf:=hc.first_bd;obtain⟨g1,g2⟩:=hc.g i h;have q1:litV (qeX c leaves x i) (qbq c i)=(qcf c leaves x (qbq c i/2) != decide (qbq c i%2=1)):=qix (i:=i) g1 (by omega) hf.1;have q2:litV (qeX c leaves x i) (qbr c i)=(qcf c leaves x (qbr c i/2) != decide (qbr c i%2=1)):=qix (i:=i) g2 (by omega) hf.1;rw[<-q1,<-q2];rw[qcf,qhC (i:=i+1) (by omega) (by omega),qeX];have e:(c.first+(i:Int)).toNat=(qeX c leaves x i).length:=by rw[qhB];omega
 rw[e];simp[List.getD]
def qdJ (c:Circ) (v:Int) (leaves:List Int):Nat->Nat
 | 0=>0
 | x+1=>qdJ c v leaves x+(if qcf c leaves x v then 2 ^ x else 0)
theorem qhD (c:Circ) (v:Int) (leaves:List Int) : ∀ n,qdJ c v leaves n<2 ^ n
 | 0=>by simp[qdJ]
 | n+1=>by
  have:=qhD c v leaves n;rw[qdJ,Nat.pow_succ];split <;> omega
def qfJ (c:Circ) (v:Int) (leaves:List Int):Int:=(qdJ c v leaves (2 ^ leaves.length):Nat)
structure Lut where
 var:Int
 leaves:List Int
 table:Int
def qa5 (need:List Bool) (vs:List Int):List Bool:=vs.foldl (fun n v=>n.set v.toNat true) need
theorem qb4 : ∀ (vs:List Int) (need:List Bool),(qa5 need vs).length=need.length
 | [],need=>rfl
 | v::vs,need=>by
  show(qa5 (need.set v.toNat true) vs).length=_
  rw[qb4 vs,yaz]
theorem qdK : ∀ (vs:List Int) (need:List Bool) (j:Nat),(∀ v∈vs,0<=v)->(qa5 need vs).getD j false=(need.getD j false || decide (j<need.length/\(j:Int)∈vs))
 | [],need,j,_=>by simp[qa5]
 | v::vs,need,j,h=>by
  show(qa5 (need.set v.toNat true) vs).getD j false=_
  rw[qdK vs _ j fun z hz=>h z (by simp[hz])];have hv:=h v (by simp);by_cases e:v.toNat=j
  ·subst e;by_cases hl:v.toNat<need.length
   ·simp[List.getD,hl,Int.toNat_of_nonneg hv]
   ·simp[List.getD,hl]
  ·have : ¬ (j:Int)=v:=by omega
   simp[List.getD,List.getElem?_set,e,this]
def qaP (c:Circ):List Int:=(c.outs++c.next).map (· / 2)
def qez (c:Circ):List Bool:=qa5 (List.replicate c.vars.toNat false) (qaP c)
noncomputable def mapD (c:Circ):Nat->List Bool->List Lut->List Lut
 | 0,_,out=>out
 | j+1,need,out=>
  if need.getD (c.first.toNat+j) false=true then
   mapD c j (qa5 need ((qa8 c).getD (c.first.toNat+j) [])) (⟨c.first+(j:Int),(qa8 c).getD (c.first.toNat+j) [],qfJ c (c.first+(j:Int)) ((qa8 c).getD (c.first.toNat+j) [])⟩::out)
  else mapD c j need out
noncomputable def qcw (c:Circ):List Lut:=mapD c c.gates.length (qez c) []
structure Cel where
 net:Int
 inputs:List Int
 table:Int
 reg:Bool
def qa4 (c:Circ) (i:Nat):Cel:=
 if(c.next.getD i 0)/2 > 0 then⟨c.inputs+1+i,[(c.next.getD i 0)/2],2-(c.next.getD i 0)%2,true⟩ else⟨c.inputs+1+i,[],(c.next.getD i 0)%2,true⟩
def qaW (l:Lut):Cel:=⟨l.var,l.leaves,l.table,false⟩
noncomputable def qac (c:Circ):List Cel:=(List.range c.next.length).map (qa4 c)++(qcw c).map qaW
def ce0:Cel:=⟨0,[],0,false⟩
def qeA (x:Cel) (net:Int) (i:Nat):List Int:=(x.inputs.filter fun z=>decide (z=net)).map fun _=>(i:Int)
def qaU (cells:List Cel) (net:Int):Nat->List Int
 | 0=>[]
 | i+1=>qaU cells net i++qeA (cells.getD i ce0) net i
def qcJ (cells:List Cel) (net:Int):List Int:=qaU cells net cells.length
theorem qdL {cells:List Cel}{net:Int}{z:Int} : ∀ {n:Nat},z∈qaU cells net n↔∃ i:Nat,i<n/\net∈(cells.getD i ce0).inputs/\z=(i:Int)
 | 0=>by simp[qaU]
 | n+1=>by
  rw[qaU,yao,qdL];constructor
  ·rintro(⟨i,h1,h2,h3⟩|h)
   ·exact⟨i,by omega,h2,h3⟩
   ·simp only[qeA,List.mem_map,List.mem_filter,decide_eq_true_eq] at h;obtain⟨w,⟨h1,rfl⟩,rfl⟩:=h;exact⟨n,by omega,h1,rfl⟩
  ·rintro⟨i,h1,h2,rfl⟩;by_cases hi:i<n
   ·exact .inl ⟨i,hi,h2,rfl⟩
   ·obtain rfl:i=n:=by omega
    exact .inr (List.mem_map.2 ⟨net,List.mem_filter.2 ⟨h2,by simp⟩,rfl⟩)
end Go.VL
