/- Contracts, plain definitions and lemmas. Conditions: none; lemmas. -/
import Derived.Test.YteikeianenfhaaaGreatVM8
set_option linter.unusedVariables false
set_option linter.unusedSimpArgs false
namespace Go.VL
theorem qaC {α β : Type}{f : β->α->β}{b : β}{l:List α}{i:Nat}(z : α) (h:i<l.length):(l.take (i+1)).foldl f b=f ((l.take i).foldl f b) (l.getD i z):=by
 rw[yaL h,yaO];simp[List.getD,h]
def qaJ:List Int->List Int->List Int
 | [],b=>b
 | x::a,[]=>x::a
 | x::a,y::b=>if x<y then x::qaJ a (y::b) else if y<x then y::qaJ (x::a) b else x::qaJ a b
termination_by a b=>a.length+b.length
theorem qdz (b:List Int):qaJ [] b=b:=by rw[qaJ]
theorem qdI (a:List Int):qaJ a []=a:=by cases a <;> rw[qaJ]
theorem qgb {x y:Int}{a b:List Int}(h:x<y):qaJ (x::a) (y::b)=x::qaJ a (y::b):=by rw[qaJ,if_pos h]
theorem qgc {x y:Int}{a b:List Int}(h:y<x):qaJ (x::a) (y::b)=y::qaJ (x::a) b:=by rw[qaJ,if_neg (by omega),if_pos h]
theorem qgd {x:Int}{a b:List Int}:qaJ (x::a) (x::b)=x::qaJ a b:=by rw[qaJ,if_neg (by omega),if_neg (by omega)]
theorem qbu {z:Int} : ∀ (a b:List Int),z∈qaJ a b↔z∈a∨z∈b
 | [],b=>by rw[qdz];simp
 | x::a,[]=>by rw[qdI];simp
 | x::a,y::b=>by
  have i1:=qbu (z:=z) a (y::b);have i2:=qbu (z:=z) (x::a) b;have i3:=qbu (z:=z) a b;rcases Int.lt_trichotomy x y with h|h|h
  ·rw[qgb h,yax,i1];simp only[yax,or_assoc]
  ·subst h;rw[qgd,yax,i3];simp only[yax];constructor
   ·rintro(h|h|h) <;> simp[h]
   ·rintro((h|h)|h|h) <;> simp[h]
  ·rw[qgc h,yax,i2];simp only[yax];constructor
   ·rintro(h|(h|h)|h) <;> simp[h]
   ·rintro((h|h)|h|h) <;> simp[h]
termination_by a b=>a.length+b.length
def asc (l:List Int):Prop:=l.Pairwise (· < ·)
theorem qed : ∀ {a b:List Int},asc a->asc b->asc (qaJ a b)
 | [],b,_,hb=>by rw[qdz];exact hb
 | x::a,[],ha,_=>by rw[qdI];exact ha
 | x::a,y::b,ha,hb=>by
  obtain⟨ha1,ha2⟩:=List.pairwise_cons.1 ha;obtain⟨hb1,hb2⟩:=List.pairwise_cons.1 hb;rcases Int.lt_trichotomy x y with h|h|h
  ·rw[qgb h];refine List.pairwise_cons.2 ⟨fun z hz=>?_,qed ha2 hb⟩;rcases(qbu _ _).1 hz with h1|h1
   ·exact ha1 z h1
   ·rcases List.mem_cons.1 h1 with rfl|h2
    ·exact h
    ·have:=hb1 z h2;omega
  ·subst h;rw[qgd];refine List.pairwise_cons.2 ⟨fun z hz=>?_,qed ha2 hb2⟩;rcases(qbu _ _).1 hz with h1|h1
   ·exact ha1 z h1
   ·exact hb1 z h1
  ·rw[qgc h];refine List.pairwise_cons.2 ⟨fun z hz=>?_,qed ha hb2⟩;rcases(qbu _ _).1 hz with h1|h1
   ·rcases List.mem_cons.1 h1 with rfl|h2
    ·exact h
    ·have:=ha1 z h2;omega
   ·exact hb1 z h1
termination_by a b=>a.length+b.length
theorem qo7 : ∀ {a b:List Int},asc a->asc b->(∀ z,z∈a↔z∈b)->a=b
 | [],[],_,_,_=>rfl
 | [],y::b,_,_,h=>by have:=(h y).2 (by simp);simp at this
 | x::a,[],_,_,h=>by have:=(h x).1 (by simp);simp at this
 | x::a,y::b,ha,hb,h=>by
  obtain⟨ha1,ha2⟩:=List.pairwise_cons.1 ha;obtain⟨hb1,hb2⟩:=List.pairwise_cons.1 hb;have hxy:x=y:=by
   rcases List.mem_cons.1 ((h x).1 (by simp)) with h1|h1
   ·exact h1
   ·rcases List.mem_cons.1 ((h y).2 (by simp)) with h2|h2
    ·exact h2.symm
    ·have:=hb1 x h1;have:=ha1 y h2;omega
  subst hxy;congr 1;refine qo7 ha2 hb2 fun z=>⟨fun hz=>?_,fun hz=>?_⟩
  ·have hlt:=ha1 z hz;rcases List.mem_cons.1 ((h z).1 (by simp[hz])) with h1|h1
   ·omega
   ·exact h1
  ·have hlt:=hb1 z hz;rcases List.mem_cons.1 ((h z).2 (by simp[hz])) with h1|h1
   ·omega
   ·exact h1
theorem qee : ∀ (a b:List Int),(qaJ a b).length<=a.length+b.length
 | [],b=>by rw[qdz];simp
 | x::a,[]=>by rw[qdI];simp
 | x::a,y::b=>by
  have i1:=qee a (y::b);have i2:=qee (x::a) b;have i3:=qee a b;rcases Int.lt_trichotomy x y with h|h|h
  ·rw[qgb h];simp only[yae] at *;omega
  ·subst h;rw[qgd];simp only[yae] at *;omega
  ·rw[qgc h];simp only[yae] at *;omega
termination_by a b=>a.length+b.length
def addC (l:List (List Int)) (cut:List Int):List (List Int):=if cut.length<=3/\l.length<8/\cut∉l then l ++ [cut] else l
def rowC (x:List Int) (q:List (List Int)) (l:List (List Int)):List (List Int):=q.foldl (fun l y=>addC l (qaJ x y)) l
def qft (p q:List (List Int)):List (List Int):=p.foldl (fun l x=>rowC x q l) []
def qbn (c:Circ) (i:Nat):Int:=(c.gates.getD i (0,0)).1
def qbo (c:Circ) (i:Nat):Int:=(c.gates.getD i (0,0)).2
def qaK (c:Circ):Nat->List (List (List Int))
 | 0=>[[]]::(List.range (c.first.toNat-1)).map fun(v:Nat)=>[[(v:Int)+1]]
 | i+1=>qaK c i ++ [qft ((qaK c i).getD (qbn c i/2).toNat []) ((qaK c i).getD (qbo c i/2).toNat []) ++ [[c.first+(i:Int)]]]
def qbk (c:Circ):List (List (List Int)):=qaK c c.gates.length
theorem qa6 {c:Circ}(h:1<=c.first) : ∀ i,(qaK c i).length=c.first.toNat+i
 | 0=>by simp[qaK];omega
 | i+1=>by rw[qaK,yag,qa6 h i];simp;omega
theorem addC_le {l:List (List Int)}{cut:List Int}(h:l.length<=8):(addC l cut).length<=8:=by
 unfold addC;split
 ·rename_i h2;simp;omega
 ·exact h
theorem qgT {x:List Int} : ∀ {q l:List (List Int)},l.length<=8->(rowC x q l).length<=8
 | [],l,h=>h
 | y::q,l,h=>qgT (q:=q) (addC_le h)
theorem qkd (p q:List (List Int)):(qft p q).length<=8:=by
 have : ∀ (p l:List (List Int)),l.length<=8->(p.foldl (fun l x=>rowC x q l) l).length<=8:=by
  intro p;induction p with
  | nil=>exact fun l h=>h
  | cons x p ih=>exact fun l h=>ih _ (qgT h)
 exact this p [] (by simp)
theorem qq5 {P:List Int->Prop}{l:List (List Int)}{cut:List Int}(h : ∀ x∈l,P x) (hc:cut.length<=3->P cut) : ∀ x∈addC l cut,P x:=by
 unfold addC;split
 ·rename_i h2;intro x hx;rcases List.mem_append.1 hx with h1|h1
  ·exact h x h1
  ·obtain rfl:x=cut:=by simpa using h1
   exact hc h2.1
 ·exact h
theorem qmW {P:List Int->Prop}{x:List Int} : ∀ {q l:List (List Int)},(∀ z∈l,P z)->(∀ y∈q,(qaJ x y).length<=3->P (qaJ x y))->∀ z∈rowC x q l,P z
 | [],l,h,_=>h
 | y::q,l,h,hq=>qmW (q:=q) (qq5 h (hq y (by simp))) fun z hz=>hq z (by simp[hz])
theorem qe4 {P:List Int->Prop}{p q:List (List Int)}(h : ∀ x∈p,∀ y∈q,(qaJ x y).length<=3->P (qaJ x y)) : ∀ z∈qft p q,P z:=by
 have : ∀ (p l:List (List Int)),(∀ z∈l,P z)->(∀ x∈p,∀ y∈q,(qaJ x y).length<=3->P (qaJ x y))->∀ z∈p.foldl (fun l x=>rowC x q l) l,P z:=by
  intro p;induction p with
  | nil=>exact fun l h _=>h
  | cons x p ih=>exact fun l h hp=>ih _ (qmW h (hp x (by simp))) fun z hz=>hp z (by simp[hz])
 exact this p [] (by simp) h
theorem qo8 {l:List (List Int)}{cut:List Int}:l.length<=(addC l cut).length:=by
 unfold addC;split <;> simp
theorem qiq {x:List Int} : ∀ {q l:List (List Int)},l.length<=(rowC x q l).length
 | [],l=>yad _
 | y::q,l=>yaB qo8 (qiq (q:=q))
theorem qq6 {l:List (List Int)}{cut:List Int}(h:cut.length<=3):0<(addC l cut).length:=by
 unfold addC;split
 ·simp
 ·rename_i h2;cases l with
  | nil=>exact absurd ⟨h,by simp,by simp⟩ h2
  | cons x r=>simp
theorem qmX {x y:List Int}(h:(qaJ x y).length<=3) : ∀ {q l:List (List Int)},y∈q->0<(rowC x q l).length
 | [],l,hy=>by simp at hy
 | z::q,l,hy=>by
  rcases List.mem_cons.1 hy with rfl|h1
  ·exact yan (qq6 (l:=l) h) (qiq (q:=q))
  ·exact qmX h (q:=q) h1
theorem qo9 {p q:List (List Int)}{x y:List Int}(hx:x∈p) (hy:y∈q) (h:(qaJ x y).length<=3):0<(qft p q).length:=by
 have mono : ∀ (p l:List (List Int)),l.length<=(p.foldl (fun l x=>rowC x q l) l).length:=by
  intro p;induction p with
  | nil=>exact fun l=>yad _
  | cons x p ih=>exact fun l=>yaB (qiq (q:=q)) (ih _)
 have : ∀ (p l:List (List Int)),x∈p->0<(p.foldl (fun l x=>rowC x q l) l).length:=by
  intro p;induction p with
  | nil=>exact fun l h=>by simp at h
  | cons z p ih=>
   intro l hz;rcases List.mem_cons.1 hz with rfl|h1
   ·exact yan (qmX h (l:=l) hy) (mono p _)
   ·exact ih _ h1
 exact this p [] hx
structure CutOk (c:Circ) (v:Int) (cut:List Int):Prop where
 asc:asc cut
 len:cut.length<=3
 rng : ∀ z∈cut,1<=z/\z<=v
theorem qcv {c:Circ}(hc:c.Valid) : ∀ i,i<=c.gates.length->∀ v,v<(qaK c i).length->(∀ cut∈(qaK c i).getD v [],CutOk c (v:Int) cut)/\(qaK c i).getD v []≠[]/\(∃ s∈(qaK c i).getD v [],s.length<=1)/\((qaK c i).getD v []).length<=9:=by
 have hf:=hc.first_bd;intro i;induction i with
 | zero=>
  intro _ v hv;rw[qa6 hf.1] at hv;cases v with
  | zero=>
   have e:(qaK c 0).getD 0 []=[[]]:=rfl;rw[e];refine⟨fun cut h=>?_,by simp,⟨[],by simp,by simp⟩,by simp⟩;obtain rfl:cut=[]:=by simpa using h
   exact⟨List.Pairwise.nil,by simp,by simp⟩
  | succ v=>
   have e:(qaK c 0).getD (v+1) []=[[(v:Int)+1]]:=by
    simp[qaK,List.getD,show v<c.first.toNat-1 by omega]
   rw[e];refine⟨fun cut h=>?_,by simp,⟨[(v:Int)+1],by simp,by simp⟩,by simp⟩;obtain rfl:cut=[(v:Int)+1]:=by simpa using h
   exact⟨by simp[asc],by simp,fun z hz=>by
    obtain rfl:z=(v:Int)+1:=by simpa using hz
    omega⟩
 | succ i ih=>
  intro hi v hv;have hl:=qa6 (c:=c) hf.1 i;rw[qa6 hf.1] at hv;by_cases h:v<c.first.toNat+i
  ·have e:(qaK c (i+1)).getD v []=(qaK c i).getD v []:=by rw[qaK];exact qaw (by omega)
   rw[e];exact ih (by omega) v (by omega)
  ·have hv2:v=(qaK c i).length:=by omega
   have e:(qaK c (i+1)).getD v []=qft ((qaK c i).getD (qbn c i/2).toNat []) ((qaK c i).getD (qbo c i/2).toNat []) ++ [[c.first+(i:Int)]]:=by
    rw[qaK,hv2];simp[List.getD]
   obtain⟨g1,g2⟩:=hc.g i (by omega);have ha:(qbn c i/2).toNat<c.first.toNat+i:=by unfold qbn;unfold qa4 at g1;omega
   have hb:(qbo c i/2).toNat<c.first.toNat+i:=by unfold qbo;unfold qa4 at g2;omega
   obtain⟨a1,a2,⟨sa,a3,a4⟩,a5⟩:=ih (by omega) _ (by rw[hl];exact ha);obtain⟨b1,b2,⟨sb,b3,b4⟩,b5⟩:=ih (by omega) _ (by rw[hl];exact hb);rw[e];have hj:=qkd ((qaK c i).getD (qbn c i/2).toNat []) ((qaK c i).getD (qbo c i/2).toNat []);refine⟨fun cut h=>?_,by simp,⟨[c.first+(i:Int)],by simp,by simp⟩,by rw[yag,ybn];omega⟩;rcases List.mem_append.1 h with h1|h1
   ·refine qe4 (P:=fun cut=>CutOk c (v:Int) cut) (fun x hx y hy hle=>?_) cut h1;have hx':=a1 x hx;have hy':=b1 y hy;refine⟨qed hx'.asc hy'.asc,hle,fun z hz=>?_⟩;rcases(qbu _ _).1 hz with h2|h2
    ·have:=hx'.rng z h2;omega
    ·have:=hy'.rng z h2;omega
   ·obtain rfl:cut=[c.first+(i:Int)]:=by simpa using h1
    exact⟨by simp[asc],by simp,fun z hz=>by
     obtain rfl:z=c.first+(i:Int):=by simpa using hz
     omega⟩
theorem qcW {c:Circ}(hf:1<=c.first) {n i:Nat}(h:i<n):(qaK c n).getD (c.first.toNat+i) []=qft ((qaK c i).getD (qbn c i/2).toNat []) ((qaK c i).getD (qbo c i/2).toNat []) ++ [[c.first+(i:Int)]]:=by
 induction n with
 | zero=>omega
 | succ n ih=>
  have hl:=qa6 (c:=c) hf n;by_cases hin:i<n
  ·rw[qaK,qaw (by omega)];exact ih hin
  ·obtain rfl:i=n:=by omega
   rw[qaK,<-hl];simp[List.getD]
theorem qir {c:Circ}(hc:c.Valid) {i:Nat}(h:i<c.gates.length):0<(qft ((qaK c i).getD (qbn c i/2).toNat []) ((qaK c i).getD (qbo c i/2).toNat [])).length:=by
 have hf:=hc.first_bd;have hl:=qa6 (c:=c) hf.1 i;obtain⟨g1,g2⟩:=hc.g i h;have ha:(qbn c i/2).toNat<c.first.toNat+i:=by unfold qbn;unfold qa4 at g1;omega
 have hb:(qbo c i/2).toNat<c.first.toNat+i:=by unfold qbo;unfold qa4 at g2;omega
 obtain⟨a1,a2,⟨sa,a3,a4⟩,a5⟩:=qcv hc i (by omega) _ (by rw[hl];exact ha);obtain⟨b1,b2,⟨sb,b3,b4⟩,b5⟩:=qcv hc i (by omega) _ (by rw[hl];exact hb);exact qo9 a3 b3 (by have:=qee sa sb;omega)
end Go.VL

set_option linter.unusedVariables false
set_option linter.unusedSimpArgs false
namespace Go.VL
def qce (arr:List Int) (cut:List Int):Int:=cut.foldl (fun t v=>max t (arr.getD v.toNat 0)) 0
def qbI (arr:List Int) (x b:List Int):Prop:=qce arr x<qce arr b∨(qce arr x=qce arr b/\x.length<b.length)
instance (arr:List Int) (x b:List Int):Decidable (qbI arr x b):=by unfold qbI;infer_instance
def qbG (arr:List Int):List (List Int)->List Int
 | []=>[]
 | x::r=>r.foldl (fun b y=>if qbI arr y b then y else b) x
theorem qis {arr:List Int}{l:List (List Int)}{y:List Int}(h:0<l.length):qbG arr (l ++ [y])=if qbI arr y (qbG arr l) then y else qbG arr l:=by
 cases l with
 | nil=>simp at h
 | cons x r=>
  have e : ∀ s,qbG arr (x::s)=s.foldl (fun b y=>if qbI arr y b then y else b) x:=fun s=>rfl
  show qbG arr (x::(r ++ [y]))=_
  rw[e (r ++ [y]),yaO];rfl
theorem qgU {arr:List Int}{l:List (List Int)}(h:0<l.length):qbG arr l∈l:=by
 cases l with
 | nil=>simp at h
 | cons x r=>
  have : ∀ (r:List (List Int)) (b:List Int),r.foldl (fun b y=>if qbI arr y b then y else b) b=b∨r.foldl (fun b y=>if qbI arr y b then y else b) b∈r:=by
   intro r;induction r with
   | nil=>exact fun b=>.inl rfl
   | cons y r ih=>
    intro b;simp only[yam];rcases ih (if qbI arr y b then y else b) with h1|h1
    ·rw[h1];split
     ·exact .inr (by simp)
     ·exact .inl rfl
    ·exact .inr (by simp[h1])
  rcases this r x with h1|h1
  ·rw[qbG,h1];simp
  ·rw[qbG];simp[h1]
def qaU (c:Circ) (cuts:List (List (List Int))):Nat->List (List Int)×List Int
 | 0=>(List.replicate c.first.toNat [],List.replicate c.first.toNat 0)
 | i+1=>
  (
   (qaU c cuts i).1 ++ [qbG (qaU c cuts i).2 (cuts.getD (c.first.toNat+i) []).dropLast],
   (qaU c cuts i).2 ++ [1+qce (qaU c cuts i).2 (qbG (qaU c cuts i).2 (cuts.getD (c.first.toNat+i) []).dropLast)])
theorem qdJ (c:Circ) (cuts:List (List (List Int))) : ∀ i,(qaU c cuts i).1.length=c.first.toNat+i/\(qaU c cuts i).2.length=c.first.toNat+i
 | 0=>by simp[qaU]
 | i+1=>by
  have:=qdJ c cuts i;simp only[qaU,yag,ybn];omega
theorem qef {arr:List Int}{cut:List Int}{m:Int}(h : ∀ z∈cut,arr.getD z.toNat 0<=m) (hm:0<=m):0<=qce arr cut/\qce arr cut<=m:=by
 have : ∀ (cut:List Int) (t:Int),(∀ z∈cut,arr.getD z.toNat 0<=m)->0<=t->t<=m->0<=cut.foldl (fun t v=>max t (arr.getD v.toNat 0)) t/\cut.foldl (fun t v=>max t (arr.getD v.toNat 0)) t<=m:=by
  intro cut;induction cut with
  | nil=>exact fun t _ h1 h2=>⟨h1,h2⟩
  | cons x r ih=>
   intro t h h1 h2;have hx:=h x (by simp);exact ih (max t (arr.getD x.toNat 0)) (fun z hz=>h z (by simp[hz])) (by omega) (by omega)
 exact this cut 0 h (Int.le_refl 0) hm
theorem qke (c:Circ) (cuts:List (List (List Int))) : ∀ i j,0<=(qaU c cuts i).2.getD j 0/\(qaU c cuts i).2.getD j 0<=i
 | 0,j=>by
  by_cases h:j<c.first.toNat
  ·simp[qaU,List.getD,h]
  ·simp[qaU,List.getD,h]
 | i+1,j=>by
  have ih:=qke c cuts i;have hl:=(qdJ c cuts i).2;by_cases h:j<(qaU c cuts i).2.length
  ·have e:(qaU c cuts (i+1)).2.getD j 0=(qaU c cuts i).2.getD j 0:=by simp only[qaU];exact qaw h
   have:=ih j;rw[e];omega
  ·have ha:=qef (arr:=(qaU c cuts i).2) (cut:=qbG (qaU c cuts i).2 (cuts.getD (c.first.toNat+i) []).dropLast) (m:=i) (fun z _=>(ih z.toNat).2) (by omega);by_cases h2:j=(qaU c cuts i).2.length
   ·have e:(qaU c cuts (i+1)).2.getD j 0=1+qce (qaU c cuts i).2 (qbG (qaU c cuts i).2 (cuts.getD (c.first.toNat+i) []).dropLast):=by
     simp only[qaU,h2];simp[List.getD]
    rw[e];omega
   ·have e:(qaU c cuts (i+1)).2.getD j 0=0:=by
     rw[List.getD_eq_getElem?_getD,List.getElem?_eq_none (by simp only[qaU,yag,ybn];omega)];rfl
    rw[e];omega
noncomputable def qbr (c:Circ):List (List Int):=(qaU c (qbk c) c.gates.length).1
noncomputable def arrC (c:Circ):List Int:=(qaU c (qbk c) c.gates.length).2
theorem qpa {c:Circ}{cuts:List (List (List Int))}{i n:Nat}(h:i<=n) {v:Nat}(hv:v<c.first.toNat+i) :
  (qaU c cuts n).1.getD v []=(qaU c cuts i).1.getD v []/\(qaU c cuts n).2.getD v 0=(qaU c cuts i).2.getD v 0:=by
 induction n with
 | zero=>
      obtain rfl:i=0:=by omega
      exact⟨rfl,rfl⟩
 | succ n ih=>
  have hl:=qdJ c cuts n;by_cases hin:i<=n
  ·have:=ih hin;simp only[qaU];rw[qaw (by omega),qaw (by omega)];exact this
  ·obtain rfl:i=n+1:=by omega
   exact⟨rfl,rfl⟩
theorem qnI {c:Circ}{cuts:List (List (List Int))}{i n:Nat}(h:i<n) :
  (qaU c cuts n).1.getD (c.first.toNat+i) []=qbG (qaU c cuts i).2 (cuts.getD (c.first.toNat+i) []).dropLast/\
  (qaU c cuts n).2.getD (c.first.toNat+i) 0=1+qce (qaU c cuts i).2 (qbG (qaU c cuts i).2 (cuts.getD (c.first.toNat+i) []).dropLast):=by
 have hl:=qdJ c cuts i;have:=qpa (c:=c) (cuts:=cuts) (i:=i+1) (n:=n) (by omega) (v:=c.first.toNat+i) (by omega);rw[this.1,this.2];simp only[qaU];constructor
 ·have e:c.first.toNat+i=(qaU c cuts i).1.length:=by omega
  rw[e];simp[List.getD]
 ·have e:c.first.toNat+i=(qaU c cuts i).2.length:=by omega
  rw[e];simp[List.getD]
theorem qk9 {c:Circ}(hc:c.Valid) {i:Nat}(h:i<c.gates.length):(qbr c).getD (c.first.toNat+i) []∈qft ((qaK c i).getD (qbn c i/2).toNat []) ((qaK c i).getD (qbo c i/2).toNat []):=by
 have hf:=hc.first_bd;have e:((qbk c).getD (c.first.toNat+i) []).dropLast=qft ((qaK c i).getD (qbn c i/2).toNat []) ((qaK c i).getD (qbo c i/2).toNat []):=by
  rw[qbk,qcW hf.1 h,List.dropLast_concat]
 rw[qbr,(qnI h).1,e];exact qgU (qir hc h)
theorem qcI {c:Circ}(hc:c.Valid) {i:Nat}(h:i<c.gates.length):asc ((qbr c).getD (c.first.toNat+i) [])/\((qbr c).getD (c.first.toNat+i) []).length<=3/\∀ z∈(qbr c).getD (c.first.toNat+i) [],1<=z/\z<c.first+i:=by
 have hf:=hc.first_bd;have hl:=qa6 (c:=c) hf.1 i;obtain⟨g1,g2⟩:=hc.g i h;have ha:(qbn c i/2).toNat<c.first.toNat+i:=by unfold qbn;unfold qa4 at g1;omega
 have hb:(qbo c i/2).toNat<c.first.toNat+i:=by unfold qbo;unfold qa4 at g2;omega
 obtain⟨a1,-⟩:=qcv hc i (by omega) _ (by rw[hl];exact ha);obtain⟨b1,-⟩:=qcv hc i (by omega) _ (by rw[hl];exact hb);have:=qe4 (P:=fun cut=>asc cut/\cut.length<=3/\∀ z∈cut,1<=z/\z<c.first+i) (fun x hx y hy hle=>by
  have hx':=a1 x hx;have hy':=b1 y hy;refine⟨qed hx'.asc hy'.asc,hle,fun z hz=>?_⟩;rcases(qbu _ _).1 hz with h2|h2
  ·have:=hx'.rng z h2;omega
  ·have:=hy'.rng z h2;omega) _ (qk9 hc h)
 exact this
theorem qla (c:Circ):(qbr c).length=c.first.toNat+c.gates.length:=(qdJ c _ _).1
def qdK (leaves:List Int) (x:Nat) (v:Int) (d:Bool):Bool:=if v∈leaves then x.testBit (leaves.idxOf v) else d
def qfu (c:Circ) (leaves:List Int) (x:Nat):Nat->List Bool
 | 0=>(List.range c.first.toNat).map fun(v:Nat)=>qdK leaves x (v:Int) false
 | i+1=>qfu c leaves x i ++ [qdK leaves x (c.first+(i:Int)) (litV (qfu c leaves x i) (qbn c i)&&litV (qfu c leaves x i) (qbo c i))]
theorem qit (c:Circ) (leaves:List Int) (x:Nat) : ∀ i,(qfu c leaves x i).length=c.first.toNat+i
 | 0=>by simp[qfu]
 | i+1=>by rw[qfu,yag,qit c leaves x i];simp;omega
def qcr (c:Circ) (leaves:List Int) (x:Nat) (v:Int):Bool:=(qfu c leaves x c.gates.length).getD v.toNat false
theorem qiu {c:Circ}{leaves:List Int}{x:Nat}{i n:Nat}(h:i<=n) {v:Nat}(hv:v<c.first.toNat+i):(qfu c leaves x n).getD v false=(qfu c leaves x i).getD v false:=by
 induction n with
 | zero=>
      obtain rfl:i=0:=by omega
      rfl
 | succ n ih=>
  have hl:=qit c leaves x n;by_cases hin:i<=n
  ·rw[qfu,qaw (by omega)];exact ih hin
  ·obtain rfl:i=n+1:=by omega
   rfl
theorem qe5 {c:Circ}{leaves:List Int}{x:Nat}{v:Int}(h0:0<=v) (h:v<c.first):qcr c leaves x v=qdK leaves x v false:=by
 rw[qcr,qiu (i:=0) (by omega) (by omega),qfu];simp[List.getD,show v.toNat<c.first.toNat by omega,Int.toNat_of_nonneg h0]
theorem qjr {c:Circ}{leaves:List Int}{x:Nat}{i:Nat}{l:Int}(h:qa4 l (c.first+(i:Int))) (hi:i<=c.gates.length) (hf:1<=c.first):litV (qfu c leaves x i) l=(qcr c leaves x (l/2) != decide (l%2=1)):=by
 unfold qa4 at h;rw[litV,qcr,qiu hi (by omega)]
theorem qfk {c:Circ}(hc:c.Valid) {leaves:List Int}{x:Nat}{i:Nat}(h:i<c.gates.length) :
  qcr c leaves x (c.first+(i:Int))=qdK leaves x (c.first+(i:Int)) ((qcr c leaves x (qbn c i/2) != decide (qbn c i%2=1))&&(qcr c leaves x (qbo c i/2) != decide (qbo c i%2=1))):=by
 have hf:=hc.first_bd;obtain⟨g1,g2⟩:=hc.g i h;have q1:litV (qfu c leaves x i) (qbn c i)=(qcr c leaves x (qbn c i/2) != decide (qbn c i%2=1)):=qjr (i:=i) g1 (by omega) hf.1;have q2:litV (qfu c leaves x i) (qbo c i)=(qcr c leaves x (qbo c i/2) != decide (qbo c i%2=1)):=qjr (i:=i) g2 (by omega) hf.1;rw[<-q1,<-q2];rw[qcr,qiu (i:=i+1) (by omega) (by omega),qfu];have e:(c.first+(i:Int)).toNat=(qfu c leaves x i).length:=by rw[qit];omega
 rw[e];simp[List.getD]
def qda (c:Circ) (v:Int) (leaves:List Int):Nat->Nat
 | 0=>0
 | x+1=>qda c v leaves x+(if qcr c leaves x v then 2 ^ x else 0)
theorem qe6 (c:Circ) (v:Int) (leaves:List Int) : ∀ n,qda c v leaves n<2 ^ n
 | 0=>by simp[qda]
 | n+1=>by
  have:=qe6 c v leaves n;rw[qda,Nat.pow_succ];split <;> omega
theorem qjs (c:Circ) (v:Int) (leaves:List Int) : ∀ n x,x<n->(qda c v leaves n).testBit x=qcr c leaves x v
 | 0,x,h=>by omega
 | n+1,x,h=>by
  have hlt:=qe6 c v leaves n;have ih:=qjs c v leaves n;rw[qda];by_cases hx:x=n
  ·subst hx;split
   ·rename_i h1;rw[Nat.add_comm,Nat.testBit_two_pow_add_eq,Nat.testBit_lt_two_pow hlt,h1];rfl
   ·rename_i h1;rw[ybj,Nat.testBit_lt_two_pow hlt];simpa using h1
  ·have hxn:x<n:=by omega
   split
   ·rw[Nat.add_comm,Nat.testBit_two_pow_add_gt hxn];exact ih x hxn
   ·exact ih x hxn
def qge (c:Circ) (v:Int) (leaves:List Int):Int:=(qda c v leaves (2 ^ leaves.length):Nat)
structure Lut where
 var:Int
 leaves:List Int
 table:Int
def qbp (need:List Bool) (vs:List Int):List Bool:=vs.foldl (fun n v=>n.set v.toNat true) need
theorem qcm : ∀ (vs:List Int) (need:List Bool),(qbp need vs).length=need.length
 | [],need=>rfl
 | v::vs,need=>by
  show(qbp (need.set v.toNat true) vs).length=_
  rw[qcm vs,yar]
theorem qeg : ∀ (vs:List Int) (need:List Bool) (j:Nat),(∀ v∈vs,0<=v)->(qbp need vs).getD j false=(need.getD j false || decide (j<need.length/\(j:Int)∈vs))
 | [],need,j,_=>by simp[qbp]
 | v::vs,need,j,h=>by
  show(qbp (need.set v.toNat true) vs).getD j false=_
  rw[qeg vs _ j fun z hz=>h z (by simp[hz])];have hv:=h v (by simp);by_cases e:v.toNat=j
  ·subst e;by_cases hl:v.toNat<need.length
   ·simp[List.getD,hl,Int.toNat_of_nonneg hv]
   ·simp[List.getD,hl]
  ·have : ¬ (j:Int)=v:=by omega
   simp[List.getD,List.getElem?_set,e,this]
def qbq (c:Circ):List Int:=(c.outs++c.next).map (· / 2)
def qe7 (c:Circ):List Bool:=qbp (List.replicate c.vars.toNat false) (qbq c)
noncomputable def mapD (c:Circ):Nat->List Bool->List Lut->List Lut
 | 0,_,out=>out
 | j+1,need,out=>
  if need.getD (c.first.toNat+j) false=true then
   mapD c j (qbp need ((qbr c).getD (c.first.toNat+j) [])) (⟨c.first+(j:Int),(qbr c).getD (c.first.toNat+j) [],qge c (c.first+(j:Int)) ((qbr c).getD (c.first.toNat+j) [])⟩::out)
  else mapD c j need out
noncomputable def qdq (c:Circ):List Lut:=mapD c c.gates.length (qe7 c) []
structure Cel where
 net:Int
 inputs:List Int
 table:Int
 reg:Bool
def qaP (c:Circ) (i:Nat):Cel:=
 if(c.next.getD i 0)/2 > 0 then⟨c.inputs+1+i,[(c.next.getD i 0)/2],2-(c.next.getD i 0)%2,true⟩ else⟨c.inputs+1+i,[],(c.next.getD i 0)%2,true⟩
def qa7 (l:Lut):Cel:=⟨l.var,l.leaves,l.table,false⟩
noncomputable def qak (c:Circ):List Cel:=(List.range c.next.length).map (qaP c)++(qdq c).map qa7
def ce0:Cel:=⟨0,[],0,false⟩
def qe8 (x:Cel) (net:Int) (i:Nat):List Int:=(x.inputs.filter fun z=>decide (z=net)).map fun _=>(i:Int)
def qbc (cells:List Cel) (net:Int):Nat->List Int
 | 0=>[]
 | i+1=>qbc cells net i++qe8 (cells.getD i ce0) net i
def qdi (cells:List Cel) (net:Int):List Int:=qbc cells net cells.length
theorem qeh {cells:List Cel}{net:Int}{z:Int} : ∀ {n:Nat},z∈qbc cells net n↔∃ i:Nat,i<n/\net∈(cells.getD i ce0).inputs/\z=(i:Int)
 | 0=>by simp[qbc]
 | n+1=>by
  rw[qbc,yas,qeh];constructor
  ·rintro(⟨i,h1,h2,h3⟩|h)
   ·exact⟨i,by omega,h2,h3⟩
   ·simp only[qe8,List.mem_map,List.mem_filter,decide_eq_true_eq] at h;obtain⟨w,⟨h1,rfl⟩,rfl⟩:=h;exact⟨n,by omega,h1,rfl⟩
  ·rintro⟨i,h1,h2,rfl⟩;by_cases hi:i<n
   ·exact .inl ⟨i,hi,h2,rfl⟩
   ·obtain rfl:i=n:=by omega
    exact .inr (List.mem_map.2 ⟨net,List.mem_filter.2 ⟨h2,by simp⟩,rfl⟩)
end Go.VL
