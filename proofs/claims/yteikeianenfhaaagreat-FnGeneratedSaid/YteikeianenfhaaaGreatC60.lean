/- Contracts, plain definitions and lemmas. Conditions: none; lemmas. -/
import Derived.Test.YteikeianenfhaaaGreatO8
import Derived.Test.YteikeianenfhaaaGreatVM8
set_option maxRecDepth 20000
set_option linter.unusedVariables false
set_option linter.unusedSimpArgs false
set_option maxHeartbeats 2000000
namespace Go.Proofs
open Go Go.VL Tryz
theorem qnQ {c:Circ}(hf:c.first=(cFst c:Int)) : ∀ i,i<=cFst c->(plS c i).2=c.first/\∀ v,v<i->(plS c i).1.getD v 0=(v:Int)
 | 0,_=>⟨rfl,fun v h=>by omega⟩
 | i+1,hi=>by
  obtain⟨h1,h2⟩:=qnQ hf i (by omega);have hl:=qfX (c:=c) i;rw[plS,if_pos (by omega)];refine⟨h1,fun v h=>?_⟩;simp only;by_cases e:i=v
  ·subst e;rw[qah (by omega)]
  ·rw[qaA e];exact h2 v (by omega)
theorem qnR {c:Circ}{j v:Nat}(h:v<j) : ∀ e,(plS c (j+e)).1.getD v 0=(plS c j).1.getD v 0
 | 0=>rfl
 | e+1=>by
  have ih:=qnR (c:=c) h e;rw[<-yaF,plS];split
  ·simp only;rw[qaA (by omega)];exact ih
  ·split
   ·simp only;rw[qaA (by omega)];exact ih
   ·exact ih
theorem qqB {c:Circ}(hv:c.Valid) : ∀ k,k<=c.gates.length->(plS c (cFst c+k)).2=c.first+((bdSt c (usdN c c.gates.length) false k).gates.length:Int)/\∀ v,v<cFst c+k->good c (usdN c c.gates.length) v->(bdSt c (usdN c c.gates.length) false k).m.getD v 0=2*(plS c (cFst c+k)).1.getD v 0
 | 0,_=>by
  have hf:=qaI hv;obtain⟨h1,h2⟩:=qnQ hf (cFst c) (yad _);refine⟨by rw[yaP,h1];simp[bdSt],fun v h _=>?_⟩;rw[yaP,h2 v h];exact(qqt hv (u:=usdN c c.gates.length) 0 (by omega)).pre v h
 | k+1,hk=>by
  obtain⟨h1,h2⟩:=qqB hv k (by omega);have hf:=qaI hv;have hl:=qfX (c:=c) (cFst c+k);have hrc:=qs7 hv c.gates.length (yad _) k (by omega);have hml:=(qgV hv (usdN c c.gates.length) false k (by omega)).ml;rw[<-yaF,plS,if_neg (by omega),bdSt];generalize hs:bdSt c (usdN c c.gates.length) false k=s at *
  cases hu:(usdN c c.gates.length).getD k false with
  | false=>
   rw[if_neg (fun h=>by have:=hrc.1 h;rw[hu] at this;cases this),qe2 hu];refine⟨h1,fun v h hg=>?_⟩;have hne:v≠cFst c+k:=by
    rintro rfl;rcases hg with h3|h3
    ·omega
    ·rw[Nat.add_sub_cancel_left,hu] at h3;cases h3
   simp only;rw[qae (by omega)];exact h2 v (by omega) hg
  | true=>
   rw[if_pos (hrc.2 hu),qes hu];refine⟨by simp only[yae,yaK];omega,fun v h hg=>?_⟩;simp only;by_cases e:v=cFst c+k
   ·subst e;rw[qah (by omega),h1];have e:=qbQ (l:=s.m) (x:=2*((cFst c:Int)+(s.gates.length:Int))) (z:=0);rw[hml] at e;rw[e];omega
   ·rw[qae (by omega),qaA (by omega)];exact h2 v (by omega) hg
theorem plC_bd {c:Circ}(hv:c.Valid) {k v:Nat}(hk:k<=c.gates.length) (h:v<cFst c+k) (hg:good c (usdN c c.gates.length) v):(bdSt c (usdN c c.gates.length) false k).m.getD v 0=2*(plC c).getD v 0:=by
 rw[(qqB hv k hk).2 v h hg,plC,show cFst c+c.gates.length=cFst c+k+(c.gates.length-k) by omega,qnR h]
theorem qqC {c:Circ}(hv:c.Valid) {k:Nat}{l:Int}(hk:k<=c.gates.length) (h:(l/2).toNat<cFst c+k) (hg:good c (usdN c c.gates.length) (l/2).toNat):plH c l=lmap (bdSt c (usdN c c.gates.length) false k).m l:=by
 have e:=plC_bd hv hk h hg;rw[qoS (by rw[e];omega),e,plH]
theorem quE {c:Circ}(hv:c.Valid) : ∀ k,k<=c.gates.length->prG c k=(bdSt c (usdN c c.gates.length) false k).gates
 | 0,_=>rfl
 | k+1,hk=>by
  have ih:=quE hv k (by omega);have hrc:=qs7 hv c.gates.length (yad _) k (by omega);have hf:=qaI hv;have hg:=hv.g k (by omega);unfold qaK at hg;rw[prG,bdSt];cases hu:(usdN c c.gates.length).getD k false with
  | false=>
   rw[if_neg (fun h=>by have:=hrc.1 h;rw[hu] at this;cases this),qe2 hu];exact ih
  | true=>
   obtain⟨c1,c2⟩:=qfV hv k (by omega) hu;rw[if_pos (hrc.2 hu),qes hu,ih,qqC hv (k:=k) (by omega) (by omega) c1,qqC hv (k:=k) (by omega) (by omega) c2]
theorem prC_eq {c:Circ}(hv:c.Valid):prC c=built c false:=by
 have key : ∀ l,l∈c.outs++c.next->plH c l=lmap (qkz c false).m l:=fun l hl=>by
  obtain⟨h1,h2⟩:=qlC hv hl;have hf:=qaI hv;unfold Circ.vars at h1;exact qqC hv (yad _) (by omega) h2
 unfold prC built;rw[quE hv _ (yad _),ybd (fun l hl=>key l (List.mem_append_right _ hl)),ybd (fun l hl=>key l (yaC _ hl))];rfl
theorem opt_eq {c:Circ}(hv:c.Valid):prC (opD c)=optC c:=by
 rw[prC_eq (by rw[qqA hv];exact qfW hv),qqA hv];rfl
theorem Tryz.c_Opt (c:Circ):Pure prog 33 [dC c] (dC (if c.Valid then optC c else Circ.zero)):=by
 have h:=c_Optimize c (fun hv=>by rw[qqA hv];exact qfW hv);by_cases hv:c.Valid
 ·rw[if_pos hv,<-opt_eq hv];rwa [if_pos hv] at h
 ·rw[if_neg hv];rwa [if_neg hv] at h
end Go.Proofs

set_option linter.unusedVariables false
set_option linter.unusedSimpArgs false
namespace Go.VL
theorem qa8 {α β : Type}{f : β->α->β}{b : β}{l:List α}{i:Nat}(z : α) (h:i<l.length):(l.take (i+1)).foldl f b=f ((l.take i).foldl f b) (l.getD i z):=by
 rw[yal h,yaQ];simp[List.getD,h]
def qaS:List Int->List Int->List Int
 | [],b=>b
 | x::a,[]=>x::a
 | x::a,y::b=>if x<y then x::qaS a (y::b) else if y<x then y::qaS (x::a) b else x::qaS a b
termination_by a b=>a.length+b.length
theorem qgW (b:List Int):qaS [] b=b:=by rw[qaS]
theorem qfY (a:List Int):qaS a []=a:=by cases a <;> rw[qaS]
theorem qiH {x y:Int}{a b:List Int}(h:x<y):qaS (x::a) (y::b)=x::qaS a (y::b):=by rw[qaS,if_pos h]
theorem qiI {x y:Int}{a b:List Int}(h:y<x):qaS (x::a) (y::b)=y::qaS (x::a) b:=by rw[qaS,if_neg (by omega),if_pos h]
theorem qiJ {x:Int}{a b:List Int}:qaS (x::a) (x::b)=x::qaS a b:=by rw[qaS,if_neg (by omega),if_neg (by omega)]
theorem qbl {z:Int} : ∀ (a b:List Int),z∈qaS a b↔z∈a∨z∈b
 | [],b=>by rw[qgW];simp
 | x::a,[]=>by rw[qfY];simp
 | x::a,y::b=>by
  have i1:=qbl (z:=z) a (y::b);have i2:=qbl (z:=z) (x::a) b;have i3:=qbl (z:=z) a b;rcases Int.lt_trichotomy x y with h|h|h
  ·rw[qiH h,yaA,i1];simp only[yaA,or_assoc]
  ·subst h;rw[qiJ,yaA,i3];simp only[yaA];constructor
   ·rintro(h|h|h) <;> simp[h]
   ·rintro((h|h)|h|h) <;> simp[h]
  ·rw[qiI h,yaA,i2];simp only[yaA];constructor
   ·rintro(h|(h|h)|h) <;> simp[h]
   ·rintro((h|h)|h|h) <;> simp[h]
termination_by a b=>a.length+b.length
def asc (l:List Int):Prop:=l.Pairwise (· < ·)
theorem qdY : ∀ {a b:List Int},asc a->asc b->asc (qaS a b)
 | [],b,_,hb=>by rw[qgW];exact hb
 | x::a,[],ha,_=>by rw[qfY];exact ha
 | x::a,y::b,ha,hb=>by
  obtain⟨ha1,ha2⟩:=List.pairwise_cons.1 ha;obtain⟨hb1,hb2⟩:=List.pairwise_cons.1 hb;rcases Int.lt_trichotomy x y with h|h|h
  ·rw[qiH h];refine List.pairwise_cons.2 ⟨fun z hz=>?_,qdY ha2 hb⟩;rcases(qbl _ _).1 hz with h1|h1
   ·exact ha1 z h1
   ·rcases List.mem_cons.1 h1 with rfl|h2
    ·exact h
    ·have:=hb1 z h2;omega
  ·subst h;rw[qiJ];refine List.pairwise_cons.2 ⟨fun z hz=>?_,qdY ha2 hb2⟩;rcases(qbl _ _).1 hz with h1|h1
   ·exact ha1 z h1
   ·exact hb1 z h1
  ·rw[qiI h];refine List.pairwise_cons.2 ⟨fun z hz=>?_,qdY ha hb2⟩;rcases(qbl _ _).1 hz with h1|h1
   ·rcases List.mem_cons.1 h1 with rfl|h2
    ·exact h
    ·have:=ha1 z h2;omega
   ·exact hb1 z h1
termination_by a b=>a.length+b.length
theorem qqD : ∀ {a b:List Int},asc a->asc b->(∀ z,z∈a↔z∈b)->a=b
 | [],[],_,_,_=>rfl
 | [],y::b,_,_,h=>by have:=(h y).2 (by simp);simp at this
 | x::a,[],_,_,h=>by have:=(h x).1 (by simp);simp at this
 | x::a,y::b,ha,hb,h=>by
  obtain⟨ha1,ha2⟩:=List.pairwise_cons.1 ha;obtain⟨hb1,hb2⟩:=List.pairwise_cons.1 hb;have hxy:x=y:=by
   rcases List.mem_cons.1 ((h x).1 (by simp)) with h1|h1
   ·exact h1
   ·rcases List.mem_cons.1 ((h y).2 (by simp)) with h2|h2
    ·exact h2.symm
    ·have:=hb1 x h1;have:=ha1 y h2;omega
  subst hxy;congr 1;refine qqD ha2 hb2 fun z=>⟨fun hz=>?_,fun hz=>?_⟩
  ·have hlt:=ha1 z hz;rcases List.mem_cons.1 ((h z).1 (by simp[hz])) with h1|h1
   ·omega
   ·exact h1
  ·have hlt:=hb1 z hz;rcases List.mem_cons.1 ((h z).2 (by simp[hz])) with h1|h1
   ·omega
   ·exact h1
theorem qfl : ∀ (a b:List Int),(qaS a b).length<=a.length+b.length
 | [],b=>by rw[qgW];simp
 | x::a,[]=>by rw[qfY];simp
 | x::a,y::b=>by
  have i1:=qfl a (y::b);have i2:=qfl (x::a) b;have i3:=qfl a b;rcases Int.lt_trichotomy x y with h|h|h
  ·rw[qiH h];simp only[yau] at *;omega
  ·subst h;rw[qiJ];simp only[yau] at *;omega
  ·rw[qiI h];simp only[yau] at *;omega
termination_by a b=>a.length+b.length
def addC (l:List (List Int)) (cut:List Int):List (List Int):=if cut.length<=3/\l.length<8/\cut∉l then l ++ [cut] else l
def rowC (x:List Int) (q:List (List Int)) (l:List (List Int)):List (List Int):=q.foldl (fun l y=>addC l (qaS x y)) l
def qgX (p q:List (List Int)):List (List Int):=p.foldl (fun l x=>rowC x q l) []
def qbN (c:Circ) (i:Nat):Int:=(c.gates.getD i (0,0)).1
def qbO (c:Circ) (i:Nat):Int:=(c.gates.getD i (0,0)).2
def qaM (c:Circ):Nat->List (List (List Int))
 | 0=>[[]]::(List.range (c.first.toNat-1)).map fun(v:Nat)=>[[(v:Int)+1]]
 | i+1=>qaM c i ++ [qgX ((qaM c i).getD (qbN c i/2).toNat []) ((qaM c i).getD (qbO c i/2).toNat []) ++ [[c.first+(i:Int)]]]
def qco (c:Circ):List (List (List Int)):=qaM c c.gates.length
theorem qbf {c:Circ}(h:1<=c.first) : ∀ i,(qaM c i).length=c.first.toNat+i
 | 0=>by simp[qaM];omega
 | i+1=>by rw[qaM,yae,qbf h i];simp;omega
theorem addC_le {l:List (List Int)}{cut:List Int}(h:l.length<=8):(addC l cut).length<=8:=by
 unfold addC;split
 ·rename_i h2;simp;omega
 ·exact h
theorem qkF {x:List Int} : ∀ {q l:List (List Int)},l.length<=8->(rowC x q l).length<=8
 | [],l,h=>h
 | y::q,l,h=>qkF (q:=q) (addC_le h)
theorem qnS (p q:List (List Int)):(qgX p q).length<=8:=by
 have : ∀ (p l:List (List Int)),l.length<=8->(p.foldl (fun l x=>rowC x q l) l).length<=8:=by
  intro p;induction p with
  | nil=>exact fun l h=>h
  | cons x p ih=>exact fun l h=>ih _ (qkF h)
 exact this p [] (by simp)
theorem qs8 {P:List Int->Prop}{l:List (List Int)}{cut:List Int}(h : ∀ x∈l,P x) (hc:cut.length<=3->P cut) : ∀ x∈addC l cut,P x:=by
 unfold addC;split
 ·rename_i h2;intro x hx;rcases List.mem_append.1 hx with h1|h1
  ·exact h x h1
  ·obtain rfl:x=cut:=by simpa using h1
   exact hc h2.1
 ·exact h
theorem qnT {P:List Int->Prop}{x:List Int} : ∀ {q l:List (List Int)},(∀ z∈l,P z)->(∀ y∈q,(qaS x y).length<=3->P (qaS x y))->∀ z∈rowC x q l,P z
 | [],l,h,_=>h
 | y::q,l,h,hq=>qnT (q:=q) (qs8 h (hq y (by simp))) fun z hz=>hq z (by simp[hz])
theorem qgi {P:List Int->Prop}{p q:List (List Int)}(h : ∀ x∈p,∀ y∈q,(qaS x y).length<=3->P (qaS x y)) : ∀ z∈qgX p q,P z:=by
 have : ∀ (p l:List (List Int)),(∀ z∈l,P z)->(∀ x∈p,∀ y∈q,(qaS x y).length<=3->P (qaS x y))->∀ z∈p.foldl (fun l x=>rowC x q l) l,P z:=by
  intro p;induction p with
  | nil=>exact fun l h _=>h
  | cons x p ih=>exact fun l h hp=>ih _ (qnT h (hp x (by simp))) fun z hz=>hp z (by simp[hz])
 exact this p [] (by simp) h
theorem qqE {l:List (List Int)}{cut:List Int}:l.length<=(addC l cut).length:=by
 unfold addC;split <;> simp
theorem qiK {x:List Int} : ∀ {q l:List (List Int)},l.length<=(rowC x q l).length
 | [],l=>yad _
 | y::q,l=>yaD qqE (qiK (q:=q))
theorem qs9 {l:List (List Int)}{cut:List Int}(h:cut.length<=3):0<(addC l cut).length:=by
 unfold addC;split
 ·simp
 ·rename_i h2;cases l with
  | nil=>exact absurd ⟨h,by simp,by simp⟩ h2
  | cons x r=>simp
theorem qnU {x y:List Int}(h:(qaS x y).length<=3) : ∀ {q l:List (List Int)},y∈q->0<(rowC x q l).length
 | [],l,hy=>by simp at hy
 | z::q,l,hy=>by
  rcases List.mem_cons.1 hy with rfl|h1
  ·exact yao (qs9 (l:=l) h) (qiK (q:=q))
  ·exact qnU h (q:=q) h1
theorem qqF {p q:List (List Int)}{x y:List Int}(hx:x∈p) (hy:y∈q) (h:(qaS x y).length<=3):0<(qgX p q).length:=by
 have mono : ∀ (p l:List (List Int)),l.length<=(p.foldl (fun l x=>rowC x q l) l).length:=by
  intro p;induction p with
  | nil=>exact fun l=>yad _
  | cons x p ih=>exact fun l=>yaD (qiK (q:=q)) (ih _)
 have : ∀ (p l:List (List Int)),x∈p->0<(p.foldl (fun l x=>rowC x q l) l).length:=by
  intro p;induction p with
  | nil=>exact fun l h=>by simp at h
  | cons z p ih=>
   intro l hz;rcases List.mem_cons.1 hz with rfl|h1
   ·exact yao (qnU h (l:=l) hy) (mono p _)
   ·exact ih _ h1
 exact this p [] hx
structure CutOk (c:Circ) (v:Int) (cut:List Int):Prop where
 asc:asc cut
 len:cut.length<=3
 rng : ∀ z∈cut,1<=z/\z<=v
theorem qdE {c:Circ}(hc:c.Valid) : ∀ i,i<=c.gates.length->∀ v,v<(qaM c i).length->(∀ cut∈(qaM c i).getD v [],CutOk c (v:Int) cut)/\(qaM c i).getD v []≠[]/\(∃ s∈(qaM c i).getD v [],s.length<=1)/\((qaM c i).getD v []).length<=9:=by
 have hf:=hc.first_bd;intro i;induction i with
 | zero=>
  intro _ v hv;rw[qbf hf.1] at hv;cases v with
  | zero=>
   have e:(qaM c 0).getD 0 []=[[]]:=rfl;rw[e];refine⟨fun cut h=>?_,by simp,⟨[],by simp,by simp⟩,by simp⟩;obtain rfl:cut=[]:=by simpa using h
   exact⟨List.Pairwise.nil,by simp,by simp⟩
  | succ v=>
   have e:(qaM c 0).getD (v+1) []=[[(v:Int)+1]]:=by
    simp[qaM,List.getD,show v<c.first.toNat-1 by omega]
   rw[e];refine⟨fun cut h=>?_,by simp,⟨[(v:Int)+1],by simp,by simp⟩,by simp⟩;obtain rfl:cut=[(v:Int)+1]:=by simpa using h
   exact⟨by simp[asc],by simp,fun z hz=>by
    obtain rfl:z=(v:Int)+1:=by simpa using hz
    omega⟩
 | succ i ih=>
  intro hi v hv;have hl:=qbf (c:=c) hf.1 i;rw[qbf hf.1] at hv;by_cases h:v<c.first.toNat+i
  ·have e:(qaM c (i+1)).getD v []=(qaM c i).getD v []:=by rw[qaM];exact qae (by omega)
   rw[e];exact ih (by omega) v (by omega)
  ·have hv2:v=(qaM c i).length:=by omega
   have e:(qaM c (i+1)).getD v []=qgX ((qaM c i).getD (qbN c i/2).toNat []) ((qaM c i).getD (qbO c i/2).toNat []) ++ [[c.first+(i:Int)]]:=by
    rw[qaM,hv2];simp[List.getD]
   obtain⟨g1,g2⟩:=hc.g i (by omega);have ha:(qbN c i/2).toNat<c.first.toNat+i:=by unfold qbN;unfold qaK at g1;omega
   have hb:(qbO c i/2).toNat<c.first.toNat+i:=by unfold qbO;unfold qaK at g2;omega
   obtain⟨a1,a2,⟨sa,a3,a4⟩,a5⟩:=ih (by omega) _ (by rw[hl];exact ha);obtain⟨b1,b2,⟨sb,b3,b4⟩,b5⟩:=ih (by omega) _ (by rw[hl];exact hb);rw[e];have hj:=qnS ((qaM c i).getD (qbN c i/2).toNat []) ((qaM c i).getD (qbO c i/2).toNat []);refine⟨fun cut h=>?_,by simp,⟨[c.first+(i:Int)],by simp,by simp⟩,by rw[yae,yaK];omega⟩;rcases List.mem_append.1 h with h1|h1
   ·refine qgi (P:=fun cut=>CutOk c (v:Int) cut) (fun x hx y hy hle=>?_) cut h1;have hx':=a1 x hx;have hy':=b1 y hy;refine⟨qdY hx'.asc hy'.asc,hle,fun z hz=>?_⟩;rcases(qbl _ _).1 hz with h2|h2
    ·have:=hx'.rng z h2;omega
    ·have:=hy'.rng z h2;omega
   ·obtain rfl:cut=[c.first+(i:Int)]:=by simpa using h1
    exact⟨by simp[asc],by simp,fun z hz=>by
     obtain rfl:z=c.first+(i:Int):=by simpa using hz
     omega⟩
theorem qdZ {c:Circ}(hf:1<=c.first) {n i:Nat}(h:i<n):(qaM c n).getD (c.first.toNat+i) []=qgX ((qaM c i).getD (qbN c i/2).toNat []) ((qaM c i).getD (qbO c i/2).toNat []) ++ [[c.first+(i:Int)]]:=by
 induction n with
 | zero=>omega
 | succ n ih=>
  have hl:=qbf (c:=c) hf n;by_cases hin:i<n
  ·rw[qaM,qae (by omega)];exact ih hin
  ·obtain rfl:i=n:=by omega
   rw[qaM,<-hl];simp[List.getD]
theorem qlG {c:Circ}(hc:c.Valid) {i:Nat}(h:i<c.gates.length):0<(qgX ((qaM c i).getD (qbN c i/2).toNat []) ((qaM c i).getD (qbO c i/2).toNat [])).length:=by
 have hf:=hc.first_bd;have hl:=qbf (c:=c) hf.1 i;obtain⟨g1,g2⟩:=hc.g i h;have ha:(qbN c i/2).toNat<c.first.toNat+i:=by unfold qbN;unfold qaK at g1;omega
 have hb:(qbO c i/2).toNat<c.first.toNat+i:=by unfold qbO;unfold qaK at g2;omega
 obtain⟨a1,a2,⟨sa,a3,a4⟩,a5⟩:=qdE hc i (by omega) _ (by rw[hl];exact ha);obtain⟨b1,b2,⟨sb,b3,b4⟩,b5⟩:=qdE hc i (by omega) _ (by rw[hl];exact hb);exact qqF a3 b3 (by have:=qfl sa sb;omega)
end Go.VL
