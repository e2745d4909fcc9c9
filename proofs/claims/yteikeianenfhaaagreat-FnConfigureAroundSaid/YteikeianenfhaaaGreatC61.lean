/- Contracts, plain definitions and lemmas. Conditions: none; lemmas. -/
import Derived.Test.YteikeianenfhaaaGreatVM8
set_option linter.unusedVariables false
set_option linter.unusedSimpArgs false
set_option maxHeartbeats 2000000
namespace Go.VL
set_option linter.defProp false
variable {i:Nat}{x:Int}{a b cut:List Int}{l p q:List (List Int)}{P:List Int->Prop}{c:Circ}
def qaA {α β : Type}{f : β->α->β}{b : β}{l:List α}(z : α) (h:i<l.length):(l.take (i+1)).foldl f b=f ((l.take i).foldl f b) (l.getD i z):=by
 rw[yaB h,yaM];simp[List.getD,h]
def qaH:List Int->List Int->List Int
 | [],b=>b
 | x::a,[]=>x::a
 | x::a,y::b=>if x<y then x::qaH a (y::b) else if y<x then y::qaH (x::a) b else x::qaH a b
termination_by a b=>a.length+b.length
def qdG (b:List Int):qaH [] b=b:=by rw[qaH]
def qdQ (a:List Int):qaH a []=a:=by cases a <;> rw[qaH]
def qgu {y:Int}(h:x<y):qaH (x::a) (y::b)=x::qaH a (y::b):=by rw[qaH,if_pos h]
def qgv {y:Int}(h:y<x):qaH (x::a) (y::b)=y::qaH (x::a) b:=by rw[qaH,if_neg (by omega),if_pos h]
def qgw:qaH (x::a) (x::b)=x::qaH a b:=by rw[qaH,if_neg (by omega),if_neg (by omega)]
def qbo {z:Int} : ∀ (a b:List Int),z∈qaH a b↔z∈a∨z∈b
 | [],b=>by rw[qdG];simp
 | x::a,[]=>by rw[qdQ];simp
 | x::a,y::b=>by
  have i1:=qbo (z:=z) a (y::b);have i2:=qbo (z:=z) (x::a) b;have i3:=qbo (z:=z) a b;rcases Int.lt_trichotomy x y with h|h|h
  ·rw[qgu h,yaE,i1];simp only[yaE,or_assoc]
  ·subst h;rw[qgw,yaE,i3];simp only[yaE];constructor
   ·rintro(h|h|h) <;> simp[h]
   ·rintro((h|h)|h|h) <;> simp[h]
  ·rw[qgv h,yaE,i2];simp only[yaE];constructor
   ·rintro(h|(h|h)|h) <;> simp[h]
   ·rintro((h|h)|h|h) <;> simp[h]
termination_by a b=>a.length+b.length
def asc (l:List Int):Prop:=l.Pairwise (· < ·)
def qeo : ∀ {a b:List Int},asc a->asc b->asc (qaH a b)
 | [],b,_,hb=>by rw[qdG];exact hb
 | x::a,[],ha,_=>by rw[qdQ];exact ha
 | x::a,y::b,ha,hb=>by
  obtain⟨ha1,ha2⟩:=List.pairwise_cons.1 ha;obtain⟨hb1,hb2⟩:=List.pairwise_cons.1 hb;rcases Int.lt_trichotomy x y with h|h|h
  ·rw[qgu h];refine List.pairwise_cons.2 ⟨fun z hz=>?_,qeo ha2 hb⟩;rcases(qbo _ _).1 hz with h1|h1
   ·exact ha1 z h1
   ·rcases List.mem_cons.1 h1 with rfl|h2
    ·exact h
    ·have:=hb1 z h2;omega
  ·subst h;rw[qgw];refine List.pairwise_cons.2 ⟨fun z hz=>?_,qeo ha2 hb2⟩;rcases(qbo _ _).1 hz with h1|h1
   ·exact ha1 z h1
   ·exact hb1 z h1
  ·rw[qgv h];refine List.pairwise_cons.2 ⟨fun z hz=>?_,qeo ha hb2⟩;rcases(qbo _ _).1 hz with h1|h1
   ·rcases List.mem_cons.1 h1 with rfl|h2
    ·exact h
    ·have:=ha1 z h2;omega
   ·exact hb1 z h1
termination_by a b=>a.length+b.length
def qpN : ∀ {a b:List Int},asc a->asc b->(∀ z,z∈a↔z∈b)->a=b
 | [],[],_,_,_=>rfl
 | [],y::b,_,_,h=>by have:=(h y).2 (by simp);simp at this
 | x::a,[],_,_,h=>by have:=(h x).1 (by simp);simp at this
 | x::a,y::b,ha,hb,h=>by
  obtain⟨ha1,ha2⟩:=List.pairwise_cons.1 ha;obtain⟨hb1,hb2⟩:=List.pairwise_cons.1 hb;have hxy:x=y:=by
   rcases List.mem_cons.1 ((h x).1 (by simp)) with h1|h1
   ·exact h1
   ·rcases List.mem_cons.1 ((h y).2 (by simp)) with h2|h2
    ·exact h2.symm
    ·have:=hb1 x h1;have:=ha1 y h2;omega
  subst hxy;congr 1;refine qpN ha2 hb2 fun z=>⟨fun hz=>?_,fun hz=>?_⟩
  ·have hlt:=ha1 z hz;rcases List.mem_cons.1 ((h z).1 (by simp[hz])) with h1|h1
   ·omega
   ·exact h1
  ·have hlt:=hb1 z hz;rcases List.mem_cons.1 ((h z).2 (by simp[hz])) with h1|h1
   ·omega
   ·exact h1
def qep : ∀ (a b:List Int),(qaH a b).length<=a.length+b.length
 | [],b=>by rw[qdG];simp
 | x::a,[]=>by rw[qdQ];simp
 | x::a,y::b=>by
  have i1:=qep a (y::b);have i2:=qep (x::a) b;have i3:=qep a b;rcases Int.lt_trichotomy x y with h|h|h
  ·rw[qgu h];simp only[yaf] at *;omega
  ·subst h;rw[qgw];simp only[yaf] at *;omega
  ·rw[qgv h];simp only[yaf] at *;omega
termination_by a b=>a.length+b.length
def addC (l:List (List Int)) (cut:List Int):List (List Int):=if cut.length<=3/\l.length<8/\cut∉l then l ++ [cut] else l
def rowC (x:List Int) (q:List (List Int)) (l:List (List Int)):List (List Int):=q.foldl (fun l y=>addC l (qaH x y)) l
def qfL (p q:List (List Int)):List (List Int):=p.foldl (fun l x=>rowC x q l) []
def qbi (c:Circ) (i:Nat):Int:=(c.gates.getD i (0,0)).1
def qbj (c:Circ) (i:Nat):Int:=(c.gates.getD i (0,0)).2
def qaI (c:Circ):Nat->List (List (List Int))
 | 0=>[[]]::(List.range (c.first.toNat-1)).map fun(v:Nat)=>[[(v:Int)+1]]
 | i+1=>qaI c i ++ [qfL ((qaI c i).getD (qbi c i/2).toNat []) ((qaI c i).getD (qbj c i/2).toNat []) ++ [[c.first+(i:Int)]]]
def qbf (c:Circ):List (List (List Int)):=qaI c c.gates.length
def qa5 {c:Circ}(h:1<=c.first) : ∀ i,(qaI c i).length=c.first.toNat+i
 | 0=>by simp[qaI];omega
 | i+1=>by rw[qaI,yae,qa5 h i];simp;omega
def addC_le (h:l.length<=8):(addC l cut).length<=8:=by
 unfold addC;split
 ·rename_i h2;simp;omega
 ·exact h
def qhc {x:List Int} : ∀ {q l:List (List Int)},l.length<=8->(rowC x q l).length<=8
 | [],l,h=>h
 | y::q,l,h=>qhc (q:=q) (addC_le h)
def qkA (p q:List (List Int)):(qfL p q).length<=8:=by
 have : ∀ (p l:List (List Int)),l.length<=8->(p.foldl (fun l x=>rowC x q l) l).length<=8:=by
  intro p;induction p with
  | nil=>exact fun l h=>h
  | cons x p ih=>exact fun l h=>ih _ (qhc h)
 exact this p [] (by simp)
def qrS (h : ∀ x∈l,P x) (hc:cut.length<=3->P cut) : ∀ x∈addC l cut,P x:=by
 unfold addC;split
 ·rename_i h2;intro x hx;rcases List.mem_append.1 hx with h1|h1
  ·exact h x h1
  ·obtain rfl:x=cut:=by simpa using h1
   exact hc h2.1
 ·exact h
def qnp {P:List Int->Prop}{x:List Int} : ∀ {q l:List (List Int)},(∀ z∈l,P z)->(∀ y∈q,(qaH x y).length<=3->P (qaH x y))->∀ z∈rowC x q l,P z
 | [],l,h,_=>h
 | y::q,l,h,hq=>qnp (q:=q) (qrS h (hq y (by simp))) fun z hz=>hq z (by simp[hz])
def qfh (h : ∀ x∈p,∀ y∈q,(qaH x y).length<=3->P (qaH x y)) : ∀ z∈qfL p q,P z:=by
 have : ∀ (p l:List (List Int)),(∀ z∈l,P z)->(∀ x∈p,∀ y∈q,(qaH x y).length<=3->P (qaH x y))->∀ z∈p.foldl (fun l x=>rowC x q l) l,P z:=by
  intro p;induction p with
  | nil=>exact fun l h _=>h
  | cons x p ih=>exact fun l h hp=>ih _ (qnp h (hp x (by simp))) fun z hz=>hp z (by simp[hz])
 exact this p [] (by simp) h
def qpO:l.length<=(addC l cut).length:=by
 unfold addC;split <;> simp
def qiO {x:List Int} : ∀ {q l:List (List Int)},l.length<=(rowC x q l).length
 | [],l=>yad _
 | y::q,l=>yaD qpO (qiO (q:=q))
def qrT (h:cut.length<=3):0<(addC l cut).length:=by
 unfold addC;split
 ·simp
 ·rename_i h2;cases l with
  | nil=>exact absurd ⟨h,by simp,by simp⟩ h2
  | cons x r=>simp
def qnq {x y:List Int}(h:(qaH x y).length<=3) : ∀ {q l:List (List Int)},y∈q->0<(rowC x q l).length
 | [],l,hy=>by simp at hy
 | z::q,l,hy=>by
  rcases List.mem_cons.1 hy with rfl|h1
  ·exact yaq (qrT (l:=l) h) (qiO (q:=q))
  ·exact qnq h (q:=q) h1
def qpP {x y:List Int}(hx:x∈p) (hy:y∈q) (h:(qaH x y).length<=3):0<(qfL p q).length:=by
 have mono : ∀ (p l:List (List Int)),l.length<=(p.foldl (fun l x=>rowC x q l) l).length:=by
  intro p;induction p with
  | nil=>exact fun l=>yad _
  | cons x p ih=>exact fun l=>yaD (qiO (q:=q)) (ih _)
 have : ∀ (p l:List (List Int)),x∈p->0<(p.foldl (fun l x=>rowC x q l) l).length:=by
  intro p;induction p with
  | nil=>exact fun l h=>by simp at h
  | cons z p ih=>
   intro l hz;rcases List.mem_cons.1 hz with rfl|h1
   ·exact yaq (qnq h (l:=l) hy) (mono p _)
   ·exact ih _ h1
 exact this p [] hx
structure CutOk (c:Circ) (v:Int) (cut:List Int):Prop where
 asc:asc cut
 len:cut.length<=3
 rng : ∀ z∈cut,1<=z/\z<=v
def qcr (hc:c.Valid) : ∀ i,i<=c.gates.length->∀ v,v<(qaI c i).length->(∀ cut∈(qaI c i).getD v [],CutOk c (v:Int) cut)/\(qaI c i).getD v []≠[]/\(∃ s∈(qaI c i).getD v [],s.length<=1)/\((qaI c i).getD v []).length<=9:=by
 have hf:=hc.first_bd;intro i;induction i with
 | zero=>
  intro _ v hv;rw[qa5 hf.1] at hv;cases v with
  | zero=>
   have e:(qaI c 0).getD 0 []=[[]]:=rfl;rw[e];refine⟨fun cut h=>?_,by simp,⟨[],by simp,by simp⟩,by simp⟩;obtain rfl:cut=[]:=by simpa using h
   exact⟨List.Pairwise.nil,by simp,by simp⟩
  | succ v=>
   have e:(qaI c 0).getD (v+1) []=[[(v:Int)+1]]:=by
    simp[qaI,List.getD,show v<c.first.toNat-1 by omega]
   rw[e];refine⟨fun cut h=>?_,by simp,⟨[(v:Int)+1],by simp,by simp⟩,by simp⟩;obtain rfl:cut=[(v:Int)+1]:=by simpa using h
   exact⟨by simp[asc],by simp,fun z hz=>by
    obtain rfl:z=(v:Int)+1:=by simpa using hz
    omega⟩
 | succ i ih=>
  intro hi v hv;have hl:=qa5 (c:=c) hf.1 i;rw[qa5 hf.1] at hv;by_cases h:v<c.first.toNat+i
  ·have e:(qaI c (i+1)).getD v []=(qaI c i).getD v []:=by rw[qaI];exact qaq (by omega)
   rw[e];exact ih (by omega) v (by omega)
  ·have hv2:v=(qaI c i).length:=by omega
   have e:(qaI c (i+1)).getD v []=qfL ((qaI c i).getD (qbi c i/2).toNat []) ((qaI c i).getD (qbj c i/2).toNat []) ++ [[c.first+(i:Int)]]:=by
    rw[qaI,hv2];simp[List.getD]
   obtain⟨g1,g2⟩:=hc.g i (by omega);have ha:(qbi c i/2).toNat<c.first.toNat+i:=by unfold qbi;unfold qaY at g1;omega
   have hb:(qbj c i/2).toNat<c.first.toNat+i:=by unfold qbj;unfold qaY at g2;omega
   obtain⟨a1,a2,⟨sa,a3,a4⟩,a5⟩:=ih (by omega) _ (by rw[hl];exact ha);obtain⟨b1,b2,⟨sb,b3,b4⟩,b5⟩:=ih (by omega) _ (by rw[hl];exact hb);rw[e];have hj:=qkA ((qaI c i).getD (qbi c i/2).toNat []) ((qaI c i).getD (qbj c i/2).toNat []);refine⟨fun cut h=>?_,by simp,⟨[c.first+(i:Int)],by simp,by simp⟩,by rw[yae,ybo];omega⟩;rcases List.mem_append.1 h with h1|h1
   ·refine qfh (P:=fun cut=>CutOk c (v:Int) cut) (fun x hx y hy hle=>?_) cut h1;have hx':=a1 x hx;have hy':=b1 y hy;refine⟨qeo hx'.asc hy'.asc,hle,fun z hz=>?_⟩;rcases(qbo _ _).1 hz with h2|h2
    ·have:=hx'.rng z h2;omega
    ·have:=hy'.rng z h2;omega
   ·obtain rfl:cut=[c.first+(i:Int)]:=by simpa using h1
    exact⟨by simp[asc],by simp,fun z hz=>by
     obtain rfl:z=c.first+(i:Int):=by simpa using hz
     omega⟩
def qcZ (hf:1<=c.first) {n:Nat}(h:i<n):(qaI c n).getD (c.first.toNat+i) []=qfL ((qaI c i).getD (qbi c i/2).toNat []) ((qaI c i).getD (qbj c i/2).toNat []) ++ [[c.first+(i:Int)]]:=by
 induction n with
 | zero=>omega
 | succ n ih=>
  have hl:=qa5 (c:=c) hf n;by_cases hin:i<n
  ·rw[qaI,qaq (by omega)];exact ih hin
  ·obtain rfl:i=n:=by omega
   rw[qaI,<-hl];simp[List.getD]
def qiP (hc:c.Valid) (h:i<c.gates.length):0<(qfL ((qaI c i).getD (qbi c i/2).toNat []) ((qaI c i).getD (qbj c i/2).toNat [])).length:=by
 have hf:=hc.first_bd;have hl:=qa5 (c:=c) hf.1 i;obtain⟨g1,g2⟩:=hc.g i h;have ha:(qbi c i/2).toNat<c.first.toNat+i:=by unfold qbi;unfold qaY at g1;omega
 have hb:(qbj c i/2).toNat<c.first.toNat+i:=by unfold qbj;unfold qaY at g2;omega
 obtain⟨a1,a2,⟨sa,a3,a4⟩,a5⟩:=qcr hc i (by omega) _ (by rw[hl];exact ha);obtain⟨b1,b2,⟨sb,b3,b4⟩,b5⟩:=qcr hc i (by omega) _ (by rw[hl];exact hb);exact qpP a3 b3 (by have:=qep sa sb;omega)
end Go.VL

set_option linter.unusedVariables false
set_option linter.unusedSimpArgs false
namespace Go.VL
set_option linter.defProp false
variable {arr leaves:List Int}{l:List (List Int)}{c:Circ}{cuts:List (List (List Int))}{i n v x:Nat}
def qca (arr:List Int) (cut:List Int):Int:=cut.foldl (fun t v=>max t (arr.getD v.toNat 0)) 0
def qbF (arr:List Int) (x b:List Int):Prop:=qca arr x<qca arr b∨(qca arr x=qca arr b/\x.length<b.length)
instance (arr:List Int) (x b:List Int):Decidable (qbF arr x b):=by unfold qbF;infer_instance
def qbE (arr:List Int):List (List Int)->List Int
 | []=>[]
 | x::r=>r.foldl (fun b y=>if qbF arr y b then y else b) x
def qiQ {y:List Int}(h:0<l.length):qbE arr (l ++ [y])=if qbF arr y (qbE arr l) then y else qbE arr l:=by
 cases l with
 | nil=>simp at h
 | cons x r=>
  have e : ∀ s,qbE arr (x::s)=s.foldl (fun b y=>if qbF arr y b then y else b) x:=fun s=>rfl
  show qbE arr (x::(r ++ [y]))=_
  rw[e (r ++ [y]),yaM];rfl
def qhd (h:0<l.length):qbE arr l∈l:=by
 cases l with
 | nil=>simp at h
 | cons x r=>
  have : ∀ (r:List (List Int)) (b:List Int),r.foldl (fun b y=>if qbF arr y b then y else b) b=b∨r.foldl (fun b y=>if qbF arr y b then y else b) b∈r:=by
   intro r;induction r with
   | nil=>exact fun b=>.inl rfl
   | cons y r ih=>
    intro b;simp only[yao];rcases ih (if qbF arr y b then y else b) with h1|h1
    ·rw[h1];split
     ·exact .inr (by simp)
     ·exact .inl rfl
    ·exact .inr (by simp[h1])
  rcases this r x with h1|h1
  ·rw[qbE,h1];simp
  ·rw[qbE];simp[h1]
def qaR (c:Circ) (cuts:List (List (List Int))):Nat->List (List Int)×List Int
 | 0=>(List.replicate c.first.toNat [],List.replicate c.first.toNat 0)
 | i+1=>
  (
   (qaR c cuts i).1 ++ [qbE (qaR c cuts i).2 (cuts.getD (c.first.toNat+i) []).dropLast],
   (qaR c cuts i).2 ++ [1+qca (qaR c cuts i).2 (qbE (qaR c cuts i).2 (cuts.getD (c.first.toNat+i) []).dropLast)])
def qdR (c:Circ) (cuts:List (List (List Int))) : ∀ i,(qaR c cuts i).1.length=c.first.toNat+i/\(qaR c cuts i).2.length=c.first.toNat+i
 | 0=>by simp[qaR]
 | i+1=>by
  have:=qdR c cuts i;simp only[qaR,yae,ybo];omega
def qeq {cut:List Int}{m:Int}(h : ∀ z∈cut,arr.getD z.toNat 0<=m) (hm:0<=m):0<=qca arr cut/\qca arr cut<=m:=by
 have : ∀ (cut:List Int) (t:Int),(∀ z∈cut,arr.getD z.toNat 0<=m)->0<=t->t<=m->0<=cut.foldl (fun t v=>max t (arr.getD v.toNat 0)) t/\cut.foldl (fun t v=>max t (arr.getD v.toNat 0)) t<=m:=by
  intro cut;induction cut with
  | nil=>exact fun t _ h1 h2=>⟨h1,h2⟩
  | cons x r ih=>
   intro t h h1 h2;have hx:=h x (by simp);exact ih (max t (arr.getD x.toNat 0)) (fun z hz=>h z (by simp[hz])) (by omega) (by omega)
 exact this cut 0 h (Int.le_refl 0) hm
def qkB (c:Circ) (cuts:List (List (List Int))) : ∀ i j,0<=(qaR c cuts i).2.getD j 0/\(qaR c cuts i).2.getD j 0<=i
 | 0,j=>by
  by_cases h:j<c.first.toNat
  ·simp[qaR,List.getD,h]
  ·simp[qaR,List.getD,h]
 | i+1,j=>by
  have ih:=qkB c cuts i;have hl:=(qdR c cuts i).2;by_cases h:j<(qaR c cuts i).2.length
  ·have e:(qaR c cuts (i+1)).2.getD j 0=(qaR c cuts i).2.getD j 0:=by simp only[qaR];exact qaq h
   have:=ih j;rw[e];omega
  ·have ha:=qeq (arr:=(qaR c cuts i).2) (cut:=qbE (qaR c cuts i).2 (cuts.getD (c.first.toNat+i) []).dropLast) (m:=i) (fun z _=>(ih z.toNat).2) (by omega);by_cases h2:j=(qaR c cuts i).2.length
   ·have e:(qaR c cuts (i+1)).2.getD j 0=1+qca (qaR c cuts i).2 (qbE (qaR c cuts i).2 (cuts.getD (c.first.toNat+i) []).dropLast):=by
     simp only[qaR,h2];simp[List.getD]
    rw[e];omega
   ·have e:(qaR c cuts (i+1)).2.getD j 0=0:=by
     rw[List.getD_eq_getElem?_getD,List.getElem?_eq_none (by simp only[qaR,yae,ybo];omega)];rfl
    rw[e];omega
noncomputable def qbm (c:Circ):List (List Int):=(qaR c (qbf c) c.gates.length).1
noncomputable def arrC (c:Circ):List Int:=(qaR c (qbf c) c.gates.length).2
def qpQ (h:i<=n) (hv:v<c.first.toNat+i) :
  (qaR c cuts n).1.getD v []=(qaR c cuts i).1.getD v []/\(qaR c cuts n).2.getD v 0=(qaR c cuts i).2.getD v 0:=by
 induction n with
 | zero=>
      obtain rfl:i=0:=by omega
      exact⟨rfl,rfl⟩
 | succ n ih=>
  have hl:=qdR c cuts n;by_cases hin:i<=n
  ·have:=ih hin;simp only[qaR];rw[qaq (by omega),qaq (by omega)];exact this
  ·obtain rfl:i=n+1:=by omega
   exact⟨rfl,rfl⟩
def qol (h:i<n) :
  (qaR c cuts n).1.getD (c.first.toNat+i) []=qbE (qaR c cuts i).2 (cuts.getD (c.first.toNat+i) []).dropLast/\
  (qaR c cuts n).2.getD (c.first.toNat+i) 0=1+qca (qaR c cuts i).2 (qbE (qaR c cuts i).2 (cuts.getD (c.first.toNat+i) []).dropLast):=by
 have hl:=qdR c cuts i;have:=qpQ (c:=c) (cuts:=cuts) (i:=i+1) (n:=n) (by omega) (v:=c.first.toNat+i) (by omega);rw[this.1,this.2];simp only[qaR];constructor
 ·have e:c.first.toNat+i=(qaR c cuts i).1.length:=by omega
  rw[e];simp[List.getD]
 ·have e:c.first.toNat+i=(qaR c cuts i).2.length:=by omega
  rw[e];simp[List.getD]
def qly (hc:c.Valid) (h:i<c.gates.length):(qbm c).getD (c.first.toNat+i) []∈qfL ((qaI c i).getD (qbi c i/2).toNat []) ((qaI c i).getD (qbj c i/2).toNat []):=by
 have hf:=hc.first_bd;have e:((qbf c).getD (c.first.toNat+i) []).dropLast=qfL ((qaI c i).getD (qbi c i/2).toNat []) ((qaI c i).getD (qbj c i/2).toNat []):=by
  rw[qbf,qcZ hf.1 h,List.dropLast_concat]
 rw[qbm,(qol h).1,e];exact qhd (qiP hc h)
def qcI (hc:c.Valid) (h:i<c.gates.length):asc ((qbm c).getD (c.first.toNat+i) [])/\((qbm c).getD (c.first.toNat+i) []).length<=3/\∀ z∈(qbm c).getD (c.first.toNat+i) [],1<=z/\z<c.first+i:=by
 have hf:=hc.first_bd;have hl:=qa5 (c:=c) hf.1 i;obtain⟨g1,g2⟩:=hc.g i h;have ha:(qbi c i/2).toNat<c.first.toNat+i:=by unfold qbi;unfold qaY at g1;omega
 have hb:(qbj c i/2).toNat<c.first.toNat+i:=by unfold qbj;unfold qaY at g2;omega
 obtain⟨a1,-⟩:=qcr hc i (by omega) _ (by rw[hl];exact ha);obtain⟨b1,-⟩:=qcr hc i (by omega) _ (by rw[hl];exact hb);have:=qfh (P:=fun cut=>asc cut/\cut.length<=3/\∀ z∈cut,1<=z/\z<c.first+i) (fun x hx y hy hle=>by
  have hx':=a1 x hx;have hy':=b1 y hy;refine⟨qeo hx'.asc hy'.asc,hle,fun z hz=>?_⟩;rcases(qbo _ _).1 hz with h2|h2
  ·have:=hx'.rng z h2;omega
  ·have:=hy'.rng z h2;omega) _ (qly hc h)
 exact this
def qlz (c:Circ):(qbm c).length=c.first.toNat+c.gates.length:=(qdR c _ _).1
def qdS (leaves:List Int) (x:Nat) (v:Int) (d:Bool):Bool:=if v∈leaves then x.testBit (leaves.idxOf v) else d
def qfM (c:Circ) (leaves:List Int) (x:Nat):Nat->List Bool
 | 0=>(List.range c.first.toNat).map fun(v:Nat)=>qdS leaves x (v:Int) false
 | i+1=>qfM c leaves x i ++ [qdS leaves x (c.first+(i:Int)) (litV (qfM c leaves x i) (qbi c i)&&litV (qfM c leaves x i) (qbj c i))]
def qiR (c:Circ) (leaves:List Int) (x:Nat) : ∀ i,(qfM c leaves x i).length=c.first.toNat+i
 | 0=>by simp[qfM]
 | i+1=>by rw[qfM,yae,qiR c leaves x i];simp;omega
def qco (c:Circ) (leaves:List Int) (x:Nat) (v:Int):Bool:=(qfM c leaves x c.gates.length).getD v.toNat false
def qiS (h:i<=n) (hv:v<c.first.toNat+i):(qfM c leaves x n).getD v false=(qfM c leaves x i).getD v false:=by
 induction n with
 | zero=>
      obtain rfl:i=0:=by omega
      rfl
 | succ n ih=>
  have hl:=qiR c leaves x n;by_cases hin:i<=n
  ·rw[qfM,qaq (by omega)];exact ih hin
  ·obtain rfl:i=n+1:=by omega
   rfl
def qfi {v:Int}(h0:0<=v) (h:v<c.first):qco c leaves x v=qdS leaves x v false:=by
 rw[qco,qiS (i:=0) (by omega) (by omega),qfM];simp[List.getD,show v.toNat<c.first.toNat by omega,Int.toNat_of_nonneg h0]
def qjK {l:Int}(h:qaY l (c.first+(i:Int))) (hi:i<=c.gates.length) (hf:1<=c.first):litV (qfM c leaves x i) l=(qco c leaves x (l/2) != decide (l%2=1)):=by
 unfold qaY at h;rw[litV,qco,qiS hi (by omega)]
def qfB (hc:c.Valid) (h:i<c.gates.length) :
  qco c leaves x (c.first+(i:Int))=qdS leaves x (c.first+(i:Int)) ((qco c leaves x (qbi c i/2) != decide (qbi c i%2=1))&&(qco c leaves x (qbj c i/2) != decide (qbj c i%2=1))):=by
 have hf:=hc.first_bd;obtain⟨g1,g2⟩:=hc.g i h;have q1:litV (qfM c leaves x i) (qbi c i)=(qco c leaves x (qbi c i/2) != decide (qbi c i%2=1)):=qjK (i:=i) g1 (by omega) hf.1;have q2:litV (qfM c leaves x i) (qbj c i)=(qco c leaves x (qbj c i/2) != decide (qbj c i%2=1)):=qjK (i:=i) g2 (by omega) hf.1;rw[<-q1,<-q2];rw[qco,qiS (i:=i+1) (by omega) (by omega),qfM];have e:(c.first+(i:Int)).toNat=(qfM c leaves x i).length:=by rw[qiR];omega
 rw[e];simp[List.getD]
def qdg (c:Circ) (v:Int) (leaves:List Int):Nat->Nat
 | 0=>0
 | x+1=>qdg c v leaves x+(if qco c leaves x v then 2 ^ x else 0)
def qfj (c:Circ) (v:Int) (leaves:List Int) : ∀ n,qdg c v leaves n<2 ^ n
 | 0=>by simp[qdg]
 | n+1=>by
  have:=qfj c v leaves n;rw[qdg,Nat.pow_succ];split <;> omega
def qjL (c:Circ) (v:Int) (leaves:List Int) : ∀ n x,x<n->(qdg c v leaves n).testBit x=qco c leaves x v
 | 0,x,h=>by omega
 | n+1,x,h=>by
  have hlt:=qfj c v leaves n;have ih:=qjL c v leaves n;rw[qdg];by_cases hx:x=n
  ·subst hx;split
   ·rename_i h1;rw[Nat.add_comm,Nat.testBit_two_pow_add_eq,Nat.testBit_lt_two_pow hlt,h1];rfl
   ·rename_i h1;rw[ybi,Nat.testBit_lt_two_pow hlt];simpa using h1
  ·have hxn:x<n:=by omega
   split
   ·rw[Nat.add_comm,Nat.testBit_two_pow_add_gt hxn];exact ih x hxn
   ·exact ih x hxn
def qgx (c:Circ) (v:Int) (leaves:List Int):Int:=(qdg c v leaves (2 ^ leaves.length):Nat)
structure Lut where
 var:Int
 leaves:List Int
 table:Int
def qbk (need:List Bool) (vs:List Int):List Bool:=vs.foldl (fun n v=>n.set v.toNat true) need
def qck : ∀ (vs:List Int) (need:List Bool),(qbk need vs).length=need.length
 | [],need=>rfl
 | v::vs,need=>by
  show(qbk (need.set v.toNat true) vs).length=_
  rw[qck vs,yas]
def qer : ∀ (vs:List Int) (need:List Bool) (j:Nat),(∀ v∈vs,0<=v)->(qbk need vs).getD j false=(need.getD j false || decide (j<need.length/\(j:Int)∈vs))
 | [],need,j,_=>by simp[qbk]
 | v::vs,need,j,h=>by
  show(qbk (need.set v.toNat true) vs).getD j false=_
  rw[qer vs _ j fun z hz=>h z (by simp[hz])];have hv:=h v (by simp);by_cases e:v.toNat=j
  ·subst e;by_cases hl:v.toNat<need.length
   ·simp[List.getD,hl,Int.toNat_of_nonneg hv]
   ·simp[List.getD,hl]
  ·have : ¬ (j:Int)=v:=by omega
   simp[List.getD,List.getElem?_set,e,this]
def qbl (c:Circ):List Int:=(c.outs++c.next).map (· / 2)
def qfk (c:Circ):List Bool:=qbk (List.replicate c.vars.toNat false) (qbl c)
noncomputable def mapD (c:Circ):Nat->List Bool->List Lut->List Lut
 | 0,_,out=>out
 | j+1,need,out=>
  if need.getD (c.first.toNat+j) false=true then
   mapD c j (qbk need ((qbm c).getD (c.first.toNat+j) [])) (⟨c.first+(j:Int),(qbm c).getD (c.first.toNat+j) [],qgx c (c.first+(j:Int)) ((qbm c).getD (c.first.toNat+j) [])⟩::out)
  else mapD c j need out
noncomputable def qdw (c:Circ):List Lut:=mapD c c.gates.length (qfk c) []
structure Cel where
 net:Int
 inputs:List Int
 table:Int
 reg:Bool
def qaM (c:Circ) (i:Nat):Cel:=
 if(c.next.getD i 0)/2 > 0 then⟨c.inputs+1+i,[(c.next.getD i 0)/2],2-(c.next.getD i 0)%2,true⟩ else⟨c.inputs+1+i,[],(c.next.getD i 0)%2,true⟩
def qa6 (l:Lut):Cel:=⟨l.var,l.leaves,l.table,false⟩
noncomputable def qae (c:Circ):List Cel:=(List.range c.next.length).map (qaM c)++(qdw c).map qa6
def ce0:Cel:=⟨0,[],0,false⟩
def qfl (x:Cel) (net:Int) (i:Nat):List Int:=(x.inputs.filter fun z=>decide (z=net)).map fun _=>(i:Int)
def qba (cells:List Cel) (net:Int):Nat->List Int
 | 0=>[]
 | i+1=>qba cells net i++qfl (cells.getD i ce0) net i
def qdm (cells:List Cel) (net:Int):List Int:=qba cells net cells.length
def qes {cells:List Cel}{net:Int}{z:Int} : ∀ {n:Nat},z∈qba cells net n↔∃ i:Nat,i<n/\net∈(cells.getD i ce0).inputs/\z=(i:Int)
 | 0=>by simp[qba]
 | n+1=>by
  rw[qba,yax,qes];constructor
  ·rintro(⟨i,h1,h2,h3⟩|h)
   ·exact⟨i,by omega,h2,h3⟩
   ·simp only[qfl,List.mem_map,List.mem_filter,decide_eq_true_eq] at h;obtain⟨w,⟨h1,rfl⟩,rfl⟩:=h;exact⟨n,by omega,h1,rfl⟩
  ·rintro⟨i,h1,h2,rfl⟩;by_cases hi:i<n
   ·exact .inl ⟨i,hi,h2,rfl⟩
   ·obtain rfl:i=n:=by omega
    exact .inr (List.mem_map.2 ⟨net,List.mem_filter.2 ⟨h2,by simp⟩,rfl⟩)
end Go.VL
