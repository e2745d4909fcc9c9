/- Contracts, plain definitions and lemmas. Conditions: none; lemmas. -/
import Derived.Test.YtagfdhingigaoaaVM8
set_option linter.unusedVariables false
set_option linter.unusedSimpArgs false
namespace Go.VL
theorem qaR {α β : Type}{f : β→α→β}{b : β}{l:List α}{i:Nat}(z : α) (h:i<l.length):(l.take (i+1)).foldl f b=f ((l.take i).foldl f b) (l.getD i z):=by
 rw[List.take_succ_eq_append_getElem h,List.foldl_append]
 simp[List.getD,h]
def qaF:List Int→List Int→List Int
 | [],b=>b
 | x::a,[]=>x::a
 | x::a,y::b=>if x<y then x::qaF a (y::b) else if y<x then y::qaF (x::a) b else x::qaF a b
termination_by a b=>a.length+b.length
theorem qcA (b:List Int):qaF [] b=b:=by rw[qaF]
theorem qcF (a:List Int):qaF a []=a:=by cases a <;> rw[qaF]
theorem qeV {x y:Int}{a b:List Int}(h:x<y):qaF (x::a) (y::b)=x::qaF a (y::b):=by rw[qaF,if_pos h]
theorem qeW {x y:Int}{a b:List Int}(h:y<x):qaF (x::a) (y::b)=y::qaF (x::a) b:=by rw[qaF,if_neg (by omega),if_pos h]
theorem qeX {x:Int}{a b:List Int}:qaF (x::a) (x::b)=x::qaF a b:=by rw[qaF,if_neg (by omega),if_neg (by omega)]
theorem qbH {z:Int} : ∀ (a b:List Int),z∈qaF a b↔z∈a∨z∈b
 | [],b=>by rw[qcA];simp
 | x::a,[]=>by rw[qcF];simp
 | x::a,y::b=>by
  have i1:=qbH (z:=z) a (y::b)
  have i2:=qbH (z:=z) (x::a) b
  have i3:=qbH (z:=z) a b
  rcases Int.lt_trichotomy x y with h|h|h
  ·rw[qeV h,List.mem_cons,i1];simp only[List.mem_cons,or_assoc]
  ·subst h
   rw[qeX,List.mem_cons,i3]
   simp only[List.mem_cons]
   constructor
   ·rintro(h|h|h) <;> simp[h]
   ·rintro((h|h)|h|h) <;> simp[h]
  ·rw[qeW h,List.mem_cons,i2]
   simp only[List.mem_cons]
   constructor
   ·rintro(h|(h|h)|h) <;> simp[h]
   ·rintro((h|h)|h|h) <;> simp[h]
termination_by a b=>a.length+b.length
def asc (l:List Int):Prop:=l.Pairwise (· < ·)
theorem qd3 : ∀ {a b:List Int},asc a→asc b→asc (qaF a b)
 | [],b,_,hb=>by rw[qcA];exact hb
 | x::a,[],ha,_=>by rw[qcF];exact ha
 | x::a,y::b,ha,hb=>by
  obtain⟨ha1,ha2⟩:=List.pairwise_cons.1 ha
  obtain⟨hb1,hb2⟩:=List.pairwise_cons.1 hb
  rcases Int.lt_trichotomy x y with h|h|h
  ·rw[qeV h]
   refine List.pairwise_cons.2 ⟨fun z hz=>?_,qd3 ha2 hb⟩
   rcases(qbH _ _).1 hz with h1|h1
   ·exact ha1 z h1
   ·rcases List.mem_cons.1 h1 with rfl|h2
    ·exact h
    ·have:=hb1 z h2;omega
  ·subst h
   rw[qeX]
   refine List.pairwise_cons.2 ⟨fun z hz=>?_,qd3 ha2 hb2⟩
   rcases(qbH _ _).1 hz with h1|h1
   ·exact ha1 z h1
   ·exact hb1 z h1
  ·rw[qeW h]
   refine List.pairwise_cons.2 ⟨fun z hz=>?_,qd3 ha hb2⟩
   rcases(qbH _ _).1 hz with h1|h1
   ·rcases List.mem_cons.1 h1 with rfl|h2
    ·exact h
    ·have:=ha1 z h2;omega
   ·exact hb1 z h1
termination_by a b=>a.length+b.length
theorem qdj : ∀ (a b:List Int),(qaF a b).length≤a.length+b.length
 | [],b=>by rw[qcA];simp
 | x::a,[]=>by rw[qcF];simp
 | x::a,y::b=>by
  have i1:=qdj a (y::b)
  have i2:=qdj (x::a) b
  have i3:=qdj a b
  rcases Int.lt_trichotomy x y with h|h|h
  ·rw[qeV h];simp only[List.length_cons] at *;omega
  ·subst h;rw[qeX];simp only[List.length_cons] at *;omega
  ·rw[qeW h];simp only[List.length_cons] at *;omega
termination_by a b=>a.length+b.length
def addC (l:List (List Int)) (cut:List Int):List (List Int):=if cut.length≤3∧l.length<8∧cut∉l then l ++ [cut] else l
def rowC (x:List Int) (q:List (List Int)) (l:List (List Int)):List (List Int):=q.foldl (fun l y=>addC l (qaF x y)) l
def qfW (p q:List (List Int)):List (List Int):=p.foldl (fun l x=>rowC x q l) []
def qbM (c:Circ) (i:Nat):Int:=(c.gates.getD i (0,0)).1
def qbN (c:Circ) (i:Nat):Int:=(c.gates.getD i (0,0)).2
def qaQ (c:Circ):Nat→List (List (List Int))
 | 0=>[[]]::(List.range (c.first.toNat-1)).map fun(v:Nat)=>[[(v:Int)+1]]
 | i+1=>qaQ c i ++ [qfW ((qaQ c i).getD (qbM c i/2).toNat []) ((qaQ c i).getD (qbN c i/2).toNat []) ++ [[c.first+(i:Int)]]]
def qbJ (c:Circ):List (List (List Int)):=qaQ c c.gates.length
theorem qby {c:Circ}(h:1≤c.first) : ∀ i,(qaQ c i).length=c.first.toNat+i
 | 0=>by simp[qaQ];omega
 | i+1=>by rw[qaQ,List.length_append,qby h i];simp;omega
theorem addC_le {l:List (List Int)}{cut:List Int}(h:l.length≤8):(addC l cut).length≤8:=by
 unfold addC;split
 ·rename_i h2;simp;omega
 ·exact h
theorem qid {x:List Int} : ∀ {q l:List (List Int)},l.length≤8→(rowC x q l).length≤8
 | [],l,h=>h
 | y::q,l,h=>qid (q:=q) (addC_le h)
theorem qkx (p q:List (List Int)):(qfW p q).length≤8:=by
 have : ∀ (p l:List (List Int)),l.length≤8→(p.foldl (fun l x=>rowC x q l) l).length≤8:=by
  intro p
  induction p with
  | nil=>exact fun l h=>h
  | cons x p ih=>exact fun l h=>ih _ (qid h)
 exact this p [] (by simp)
theorem qor {P:List Int→Prop}{l:List (List Int)}{cut:List Int}(h : ∀ x∈l,P x) (hc:cut.length≤3→P cut) : ∀ x∈addC l cut,P x:=by
 unfold addC;split
 ·rename_i h2
  intro x hx
  rcases List.mem_append.1 hx with h1|h1
  ·exact h x h1
  ·obtain rfl:x=cut:=by simpa using h1
   exact hc h2.1
 ·exact h
theorem qky {P:List Int→Prop}{x:List Int} : ∀ {q l:List (List Int)},(∀ z∈l,P z)→(∀ y∈q,(qaF x y).length≤3→P (qaF x y))→∀ z∈rowC x q l,P z
 | [],l,h,_=>h
 | y::q,l,h,hq=>qky (q:=q) (qor h (hq y (by simp))) fun z hz=>hq z (by simp[hz])
theorem qgM {P:List Int→Prop}{p q:List (List Int)}(h : ∀ x∈p,∀ y∈q,(qaF x y).length≤3→P (qaF x y)) : ∀ z∈qfW p q,P z:=by
 have : ∀ (p l:List (List Int)),(∀ z∈l,P z)→(∀ x∈p,∀ y∈q,(qaF x y).length≤3→P (qaF x y))→∀ z∈p.foldl (fun l x=>rowC x q l) l,P z:=by
  intro p
  induction p with
  | nil=>exact fun l h _=>h
  | cons x p ih=>exact fun l h hp=>ih _ (qky h (hp x (by simp))) fun z hz=>hp z (by simp[hz])
 exact this p [] (by simp) h
theorem qmI {l:List (List Int)}{cut:List Int}:l.length≤(addC l cut).length:=by
 unfold addC;split <;> simp
theorem qgN {x:List Int} : ∀ {q l:List (List Int)},l.length≤(rowC x q l).length
 | [],l=>Nat.le_refl _
 | y::q,l=>Nat.le_trans qmI (qgN (q:=q))
theorem qot {l:List (List Int)}{cut:List Int}(h:cut.length≤3):0<(addC l cut).length:=by
 unfold addC
 split
 ·simp
 ·rename_i h2
  cases l with
  | nil=>exact absurd ⟨h,by simp,by simp⟩ h2
  | cons x r=>simp
theorem qkz {x y:List Int}(h:(qaF x y).length≤3) : ∀ {q l:List (List Int)},y∈q→0<(rowC x q l).length
 | [],l,hy=>by simp at hy
 | z::q,l,hy=>by
  rcases List.mem_cons.1 hy with rfl|h1
  ·exact Nat.lt_of_lt_of_le (qot (l:=l) h) (qgN (q:=q))
  ·exact qkz h (q:=q) h1
theorem qmJ {p q:List (List Int)}{x y:List Int}(hx:x∈p) (hy:y∈q) (h:(qaF x y).length≤3):0<(qfW p q).length:=by
 have mono : ∀ (p l:List (List Int)),l.length≤(p.foldl (fun l x=>rowC x q l) l).length:=by
  intro p
  induction p with
  | nil=>exact fun l=>Nat.le_refl _
  | cons x p ih=>exact fun l=>Nat.le_trans (qgN (q:=q)) (ih _)
 have : ∀ (p l:List (List Int)),x∈p→0<(p.foldl (fun l x=>rowC x q l) l).length:=by
  intro p
  induction p with
  | nil=>exact fun l h=>by simp at h
  | cons z p ih=>
   intro l hz
   rcases List.mem_cons.1 hz with rfl|h1
   ·exact Nat.lt_of_lt_of_le (qkz h (l:=l) hy) (mono p _)
   ·exact ih _ h1
 exact this p [] hx
structure CutOk (c:Circ) (v:Int) (cut:List Int):Prop where
 asc:asc cut
 len:cut.length≤3
 rng : ∀ z∈cut,1≤z∧z≤v
theorem qcT {c:Circ}(hc:c.Valid) : ∀ i,i≤c.gates.length→∀ v,v<(qaQ c i).length→(∀ cut∈(qaQ c i).getD v [],CutOk c (v:Int) cut)∧(qaQ c i).getD v []≠[]∧(∃ s∈(qaQ c i).getD v [],s.length≤1)∧((qaQ c i).getD v []).length≤9:=by
 have hf:=hc.first_bd
 intro i
 induction i with
 | zero=>
  intro _ v hv
  rw[qby hf.1] at hv
  cases v with
  | zero=>
   have e:(qaQ c 0).getD 0 []=[[]]:=rfl
   rw[e]
   refine⟨fun cut h=>?_,by simp,⟨[],by simp,by simp⟩,by simp⟩
   obtain rfl:cut=[]:=by simpa using h
   exact⟨List.Pairwise.nil,by simp,by simp⟩
  | succ v=>
   have e:(qaQ c 0).getD (v+1) []=[[(v:Int)+1]]:=by
    simp[qaQ,List.getD,show v<c.first.toNat-1 by omega]
   rw[e]
   refine⟨fun cut h=>?_,by simp,⟨[(v:Int)+1],by simp,by simp⟩,by simp⟩
   obtain rfl:cut=[(v:Int)+1]:=by simpa using h
   exact⟨by simp[asc],by simp,fun z hz=>by
    obtain rfl:z=(v:Int)+1:=by simpa using hz
    omega⟩
 | succ i ih=>
  intro hi v hv
  have hl:=qby (c:=c) hf.1 i
  rw[qby hf.1] at hv
  by_cases h:v<c.first.toNat+i
  ·have e:(qaQ c (i+1)).getD v []=(qaQ c i).getD v []:=by rw[qaQ];exact qaw (by omega)
   rw[e]
   exact ih (by omega) v (by omega)
  ·have hv2:v=(qaQ c i).length:=by omega
   have e:(qaQ c (i+1)).getD v []=qfW ((qaQ c i).getD (qbM c i/2).toNat []) ((qaQ c i).getD (qbN c i/2).toNat []) ++ [[c.first+(i:Int)]]:=by
    rw[qaQ,hv2];simp[List.getD]
   obtain⟨g1,g2⟩:=hc.g i (by omega)
   have ha:(qbM c i/2).toNat<c.first.toNat+i:=by unfold qbM;unfold qba at g1;omega
   have hb:(qbN c i/2).toNat<c.first.toNat+i:=by unfold qbN;unfold qba at g2;omega
   obtain⟨a1,a2,⟨sa,a3,a4⟩,a5⟩:=ih (by omega) _ (by rw[hl];exact ha)
   obtain⟨b1,b2,⟨sb,b3,b4⟩,b5⟩:=ih (by omega) _ (by rw[hl];exact hb)
   rw[e]
   have hj:=qkx ((qaQ c i).getD (qbM c i/2).toNat []) ((qaQ c i).getD (qbN c i/2).toNat [])
   refine⟨fun cut h=>?_,by simp,⟨[c.first+(i:Int)],by simp,by simp⟩,by rw[List.length_append,List.length_singleton];omega⟩
   rcases List.mem_append.1 h with h1|h1
   ·refine qgM (P:=fun cut=>CutOk c (v:Int) cut) (fun x hx y hy hle=>?_) cut h1
    have hx':=a1 x hx
    have hy':=b1 y hy
    refine⟨qd3 hx'.asc hy'.asc,hle,fun z hz=>?_⟩
    rcases(qbH _ _).1 hz with h2|h2
    ·have:=hx'.rng z h2;omega
    ·have:=hy'.rng z h2;omega
   ·obtain rfl:cut=[c.first+(i:Int)]:=by simpa using h1
    exact⟨by simp[asc],by simp,fun z hz=>by
     obtain rfl:z=c.first+(i:Int):=by simpa using hz
     omega⟩
theorem qfm {c:Circ}(hf:1≤c.first) {n i:Nat}(h:i<n):(qaQ c n).getD (c.first.toNat+i) []=qfW ((qaQ c i).getD (qbM c i/2).toNat []) ((qaQ c i).getD (qbN c i/2).toNat []) ++ [[c.first+(i:Int)]]:=by
 induction n with
 | zero=>omega
 | succ n ih=>
  have hl:=qby (c:=c) hf n
  by_cases hin:i<n
  ·rw[qaQ,qaw (by omega)];exact ih hin
  ·obtain rfl:i=n:=by omega
   rw[qaQ,←hl]
   simp[List.getD]
theorem qiV {c:Circ}(hc:c.Valid) {i:Nat}(h:i<c.gates.length):0<(qfW ((qaQ c i).getD (qbM c i/2).toNat []) ((qaQ c i).getD (qbN c i/2).toNat [])).length:=by
 have hf:=hc.first_bd
 have hl:=qby (c:=c) hf.1 i
 obtain⟨g1,g2⟩:=hc.g i h
 have ha:(qbM c i/2).toNat<c.first.toNat+i:=by unfold qbM;unfold qba at g1;omega
 have hb:(qbN c i/2).toNat<c.first.toNat+i:=by unfold qbN;unfold qba at g2;omega
 obtain⟨a1,a2,⟨sa,a3,a4⟩,a5⟩:=qcT hc i (by omega) _ (by rw[hl];exact ha)
 obtain⟨b1,b2,⟨sb,b3,b4⟩,b5⟩:=qcT hc i (by omega) _ (by rw[hl];exact hb)
 exact qmJ a3 b3 (by have:=qdj sa sb;omega)
end Go.VL

set_option linter.unusedVariables false
set_option linter.unusedSimpArgs false
namespace Go.VL
def qcG (arr:List Int) (cut:List Int):Int:=cut.foldl (fun t v=>max t (arr.getD v.toNat 0)) 0
def qci (arr:List Int) (x b:List Int):Prop:=qcG arr x<qcG arr b∨(qcG arr x=qcG arr b∧x.length<b.length)
instance (arr:List Int) (x b:List Int):Decidable (qci arr x b):=by unfold qci;infer_instance
def qb6 (arr:List Int):List (List Int)→List Int
 | []=>[]
 | x::r=>r.foldl (fun b y=>if qci arr y b then y else b) x
theorem qjS {arr:List Int}{l:List (List Int)}{y:List Int}(h:0<l.length):qb6 arr (l ++ [y])=if qci arr y (qb6 arr l) then y else qb6 arr l:=by
 cases l with
 | nil=>simp at h
 | cons x r=>
  have e : ∀ s,qb6 arr (x::s)=s.foldl (fun b y=>if qci arr y b then y else b) x:=fun s=>rfl
  show qb6 arr (x::(r ++ [y]))=_
  rw[e (r ++ [y]),List.foldl_append]
  rfl
theorem qlk {arr:List Int}{l:List (List Int)}(h:0<l.length):qb6 arr l∈l:=by
 cases l with
 | nil=>simp at h
 | cons x r=>
  have : ∀ (r:List (List Int)) (b:List Int),r.foldl (fun b y=>if qci arr y b then y else b) b=b∨r.foldl (fun b y=>if qci arr y b then y else b) b∈r:=by
   intro r
   induction r with
   | nil=>exact fun b=>.inl rfl
   | cons y r ih=>
    intro b
    simp only[List.foldl_cons]
    rcases ih (if qci arr y b then y else b) with h1|h1
    ·rw[h1]
     split
     ·exact .inr (by simp)
     ·exact .inl rfl
    ·exact .inr (by simp[h1])
  rcases this r x with h1|h1
  ·rw[qb6,h1];simp
  ·rw[qb6];simp[h1]
def qaS (c:Circ) (cuts:List (List (List Int))):Nat→List (List Int)×List Int
 | 0=>(List.replicate c.first.toNat [],List.replicate c.first.toNat 0)
 | i+1=>
  (
   (qaS c cuts i).1 ++ [qb6 (qaS c cuts i).2 (cuts.getD (c.first.toNat+i) []).dropLast],
   (qaS c cuts i).2 ++ [1+qcG (qaS c cuts i).2 (qb6 (qaS c cuts i).2 (cuts.getD (c.first.toNat+i) []).dropLast)])
theorem qdk (c:Circ) (cuts:List (List (List Int))) : ∀ i,(qaS c cuts i).1.length=c.first.toNat+i∧(qaS c cuts i).2.length=c.first.toNat+i
 | 0=>by simp[qaS]
 | i+1=>by
  have:=qdk c cuts i
  simp only[qaS,List.length_append,List.length_singleton]
  omega
theorem qhv {arr:List Int}{cut:List Int}{m:Int}(h : ∀ z∈cut,arr.getD z.toNat 0≤m) (hm:0≤m):0≤qcG arr cut∧qcG arr cut≤m:=by
 have : ∀ (cut:List Int) (t:Int),(∀ z∈cut,arr.getD z.toNat 0≤m)→0≤t→t≤m→0≤cut.foldl (fun t v=>max t (arr.getD v.toNat 0)) t∧cut.foldl (fun t v=>max t (arr.getD v.toNat 0)) t≤m:=by
  intro cut
  induction cut with
  | nil=>exact fun t _ h1 h2=>⟨h1,h2⟩
  | cons x r ih=>
   intro t h h1 h2
   have hx:=h x (by simp)
   exact ih (max t (arr.getD x.toNat 0)) (fun z hz=>h z (by simp[hz])) (by omega) (by omega)
 exact this cut 0 h (Int.le_refl 0) hm
theorem qkA (c:Circ) (cuts:List (List (List Int))) : ∀ i j,0≤(qaS c cuts i).2.getD j 0∧(qaS c cuts i).2.getD j 0≤i
 | 0,j=>by
  by_cases h:j<c.first.toNat
  ·simp[qaS,List.getD,h]
  ·simp[qaS,List.getD,h]
 | i+1,j=>by
  have ih:=qkA c cuts i
  have hl:=(qdk c cuts i).2
  by_cases h:j<(qaS c cuts i).2.length
  ·have e:(qaS c cuts (i+1)).2.getD j 0=(qaS c cuts i).2.getD j 0:=by simp only[qaS];exact qaw h
   have:=ih j
   rw[e];omega
  ·have ha:=qhv (arr:=(qaS c cuts i).2) (cut:=qb6 (qaS c cuts i).2 (cuts.getD (c.first.toNat+i) []).dropLast) (m:=i) (fun z _=>(ih z.toNat).2) (by omega)
   by_cases h2:j=(qaS c cuts i).2.length
   ·have e:(qaS c cuts (i+1)).2.getD j 0=1+qcG (qaS c cuts i).2 (qb6 (qaS c cuts i).2 (cuts.getD (c.first.toNat+i) []).dropLast):=by
     simp only[qaS,h2];simp[List.getD]
    rw[e];omega
   ·have e:(qaS c cuts (i+1)).2.getD j 0=0:=by
     rw[List.getD_eq_getElem?_getD,List.getElem?_eq_none (by simp only[qaS,List.length_append,List.length_singleton];omega)];rfl
    rw[e];omega
noncomputable def qb9 (c:Circ):List (List Int):=(qaS c (qbJ c) c.gates.length).1
noncomputable def arrC (c:Circ):List Int:=(qaS c (qbJ c) c.gates.length).2
theorem qmK {c:Circ}{cuts:List (List (List Int))}{i n:Nat}(h:i≤n) {v:Nat}(hv:v<c.first.toNat+i) :
  (qaS c cuts n).1.getD v []=(qaS c cuts i).1.getD v []∧(qaS c cuts n).2.getD v 0=(qaS c cuts i).2.getD v 0:=by
 induction n with
 | zero=>
      obtain rfl:i=0:=by omega
      exact⟨rfl,rfl⟩
 | succ n ih=>
  have hl:=qdk c cuts n
  by_cases hin:i≤n
  ·have:=ih hin
   simp only[qaS]
   rw[qaw (by omega),qaw (by omega)]
   exact this
  ·obtain rfl:i=n+1:=by omega
   exact⟨rfl,rfl⟩
theorem qll {c:Circ}{cuts:List (List (List Int))}{i n:Nat}(h:i<n) :
  (qaS c cuts n).1.getD (c.first.toNat+i) []=qb6 (qaS c cuts i).2 (cuts.getD (c.first.toNat+i) []).dropLast∧
  (qaS c cuts n).2.getD (c.first.toNat+i) 0=1+qcG (qaS c cuts i).2 (qb6 (qaS c cuts i).2 (cuts.getD (c.first.toNat+i) []).dropLast):=by
 have hl:=qdk c cuts i
 have:=qmK (c:=c) (cuts:=cuts) (i:=i+1) (n:=n) (by omega) (v:=c.first.toNat+i) (by omega)
 rw[this.1,this.2]
 simp only[qaS]
 constructor
 ·have e:c.first.toNat+i=(qaS c cuts i).1.length:=by omega
  rw[e];simp[List.getD]
 ·have e:c.first.toNat+i=(qaS c cuts i).2.length:=by omega
  rw[e];simp[List.getD]
theorem qmL {c:Circ}(hc:c.Valid) {i:Nat}(h:i<c.gates.length):(qb9 c).getD (c.first.toNat+i) []∈qfW ((qaQ c i).getD (qbM c i/2).toNat []) ((qaQ c i).getD (qbN c i/2).toNat []):=by
 have hf:=hc.first_bd
 have e:((qbJ c).getD (c.first.toNat+i) []).dropLast=qfW ((qaQ c i).getD (qbM c i/2).toNat []) ((qaQ c i).getD (qbN c i/2).toNat []):=by
  rw[qbJ,qfm hf.1 h,List.dropLast_concat]
 rw[qb9,(qll h).1,e]
 exact qlk (qiV hc h)
theorem qei {c:Circ}(hc:c.Valid) {i:Nat}(h:i<c.gates.length):asc ((qb9 c).getD (c.first.toNat+i) [])∧((qb9 c).getD (c.first.toNat+i) []).length≤3∧∀ z∈(qb9 c).getD (c.first.toNat+i) [],1≤z∧z<c.first+i:=by
 have hf:=hc.first_bd
 have hl:=qby (c:=c) hf.1 i
 obtain⟨g1,g2⟩:=hc.g i h
 have ha:(qbM c i/2).toNat<c.first.toNat+i:=by unfold qbM;unfold qba at g1;omega
 have hb:(qbN c i/2).toNat<c.first.toNat+i:=by unfold qbN;unfold qba at g2;omega
 obtain⟨a1,-⟩:=qcT hc i (by omega) _ (by rw[hl];exact ha)
 obtain⟨b1,-⟩:=qcT hc i (by omega) _ (by rw[hl];exact hb)
 have:=qgM (P:=fun cut=>asc cut∧cut.length≤3∧∀ z∈cut,1≤z∧z<c.first+i) (fun x hx y hy hle=>by
  have hx':=a1 x hx
  have hy':=b1 y hy
  refine⟨qd3 hx'.asc hy'.asc,hle,fun z hz=>?_⟩
  rcases(qbH _ _).1 hz with h2|h2
  ·have:=hx'.rng z h2;omega
  ·have:=hy'.rng z h2;omega) _ (qmL hc h)
 exact this
theorem qmM (c:Circ):(qb9 c).length=c.first.toNat+c.gates.length:=(qdk c _ _).1
def qfI (leaves:List Int) (x:Nat) (v:Int) (d:Bool):Bool:=if v∈leaves then x.testBit (leaves.idxOf v) else d
def qeo (c:Circ) (leaves:List Int) (x:Nat):Nat→List Bool
 | 0=>(List.range c.first.toNat).map fun(v:Nat)=>qfI leaves x (v:Int) false
 | i+1=>qeo c leaves x i ++ [qfI leaves x (c.first+(i:Int)) (litV (qeo c leaves x i) (qbM c i)&&litV (qeo c leaves x i) (qbN c i))]
theorem qgO (c:Circ) (leaves:List Int) (x:Nat) : ∀ i,(qeo c leaves x i).length=c.first.toNat+i
 | 0=>by simp[qeo]
 | i+1=>by rw[qeo,List.length_append,qgO c leaves x i];simp;omega
def qeY (c:Circ) (leaves:List Int) (x:Nat) (v:Int):Bool:=(qeo c leaves x c.gates.length).getD v.toNat false
theorem qgP {c:Circ}{leaves:List Int}{x:Nat}{i n:Nat}(h:i≤n) {v:Nat}(hv:v<c.first.toNat+i):(qeo c leaves x n).getD v false=(qeo c leaves x i).getD v false:=by
 induction n with
 | zero=>
      obtain rfl:i=0:=by omega
      rfl
 | succ n ih=>
  have hl:=qgO c leaves x n
  by_cases hin:i≤n
  ·rw[qeo,qaw (by omega)];exact ih hin
  ·obtain rfl:i=n+1:=by omega
   rfl
theorem qiW {c:Circ}{leaves:List Int}{x:Nat}{v:Int}(h0:0≤v) (h:v<c.first):qeY c leaves x v=qfI leaves x v false:=by
 rw[qeY,qgP (i:=0) (by omega) (by omega),qeo]
 simp[List.getD,show v.toNat<c.first.toNat by omega,Int.toNat_of_nonneg h0]
theorem qhw {c:Circ}{leaves:List Int}{x:Nat}{i:Nat}{l:Int}(h:qba l (c.first+(i:Int))) (hi:i≤c.gates.length) (hf:1≤c.first):litV (qeo c leaves x i) l=(qeY c leaves x (l/2) != decide (l%2=1)):=by
 unfold qba at h
 rw[litV,qeY,qgP hi (by omega)]
theorem qhx {c:Circ}(hc:c.Valid) {leaves:List Int}{x:Nat}{i:Nat}(h:i<c.gates.length) :
  qeY c leaves x (c.first+(i:Int))=qfI leaves x (c.first+(i:Int)) ((qeY c leaves x (qbM c i/2) != decide (qbM c i%2=1))&&(qeY c leaves x (qbN c i/2) != decide (qbN c i%2=1))):=by
 have hf:=hc.first_bd
 obtain⟨g1,g2⟩:=hc.g i h
 have q1:litV (qeo c leaves x i) (qbM c i)=(qeY c leaves x (qbM c i/2) != decide (qbM c i%2=1)):=qhw (i:=i) g1 (by omega) hf.1
 have q2:litV (qeo c leaves x i) (qbN c i)=(qeY c leaves x (qbN c i/2) != decide (qbN c i%2=1)):=qhw (i:=i) g2 (by omega) hf.1
 rw[←q1,←q2]
 rw[qeY,qgP (i:=i+1) (by omega) (by omega),qeo]
 have e:(c.first+(i:Int)).toNat=(qeo c leaves x i).length:=by rw[qgO];omega
 rw[e]
 simp[List.getD]
def qeZ (c:Circ) (v:Int) (leaves:List Int):Nat→Nat
 | 0=>0
 | x+1=>qeZ c v leaves x+(if qeY c leaves x v then 2 ^ x else 0)
theorem qiX (c:Circ) (v:Int) (leaves:List Int) : ∀ n,qeZ c v leaves n<2 ^ n
 | 0=>by simp[qeZ]
 | n+1=>by
  have:=qiX c v leaves n
  rw[qeZ,Nat.pow_succ]
  split <;> omega
def qhy (c:Circ) (v:Int) (leaves:List Int):Int:=(qeZ c v leaves (2 ^ leaves.length):Nat)
structure Lut where
 var:Int
 leaves:List Int
 table:Int
def qbO (need:List Bool) (vs:List Int):List Bool:=vs.foldl (fun n v=>n.set v.toNat true) need
theorem qdl : ∀ (vs:List Int) (need:List Bool),(qbO need vs).length=need.length
 | [],need=>rfl
 | v::vs,need=>by
  show(qbO (need.set v.toNat true) vs).length=_
  rw[qdl vs,List.length_set]
theorem qhz : ∀ (vs:List Int) (need:List Bool) (j:Nat),(∀ v∈vs,0≤v)→(qbO need vs).getD j false=(need.getD j false || decide (j<need.length∧(j:Int)∈vs))
 | [],need,j,_=>by simp[qbO]
 | v::vs,need,j,h=>by
  show(qbO (need.set v.toNat true) vs).getD j false=_
  rw[qhz vs _ j fun z hz=>h z (by simp[hz])]
  have hv:=h v (by simp)
  by_cases e:v.toNat=j
  ·subst e
   by_cases hl:v.toNat<need.length
   ·simp[List.getD,hl,Int.toNat_of_nonneg hv]
   ·simp[List.getD,hl]
  ·have : ¬ (j:Int)=v:=by omega
   simp[List.getD,List.getElem?_set,e,this]
def qbR (c:Circ):List Int:=(c.outs++c.next).map (· / 2)
def qie (c:Circ):List Bool:=qbO (List.replicate c.vars.toNat false) (qbR c)
noncomputable def mapD (c:Circ):Nat→List Bool→List Lut→List Lut
 | 0,_,out=>out
 | j+1,need,out=>
  if need.getD (c.first.toNat+j) false=true then
   mapD c j (qbO need ((qb9 c).getD (c.first.toNat+j) [])) (⟨c.first+(j:Int),(qb9 c).getD (c.first.toNat+j) [],qhy c (c.first+(j:Int)) ((qb9 c).getD (c.first.toNat+j) [])⟩::out)
  else mapD c j need out
noncomputable def qfn (c:Circ):List Lut:=mapD c c.gates.length (qie c) []
structure Cel where
 net:Int
 inputs:List Int
 table:Int
 reg:Bool
def qb7 (c:Circ) (i:Nat):Cel:=
 if(c.next.getD i 0)/2 > 0 then⟨c.inputs+1+i,[(c.next.getD i 0)/2],2-(c.next.getD i 0)%2,true⟩ else⟨c.inputs+1+i,[],(c.next.getD i 0)%2,true⟩
def qcq (l:Lut):Cel:=⟨l.var,l.leaves,l.table,false⟩
noncomputable def qcH (c:Circ):List Cel:=(List.range c.next.length).map (qb7 c)++(qfn c).map qcq
def ce0:Cel:=⟨0,[],0,false⟩
def qfJ (x:Cel) (net:Int) (i:Nat):List Int:=(x.inputs.filter fun z=>decide (z=net)).map fun _=>(i:Int)
def qbz (cells:List Cel) (net:Int):Nat→List Int
 | 0=>[]
 | i+1=>qbz cells net i++qfJ (cells.getD i ce0) net i
def qfK (cells:List Cel) (net:Int):List Int:=qbz cells net cells.length
theorem qej {cells:List Cel}{net:Int}{z:Int} : ∀ {n:Nat},z∈qbz cells net n↔∃ i:Nat,i<n∧net∈(cells.getD i ce0).inputs∧z=(i:Int)
 | 0=>by simp[qbz]
 | n+1=>by
  rw[qbz,List.mem_append,qej]
  constructor
  ·rintro(⟨i,h1,h2,h3⟩|h)
   ·exact⟨i,by omega,h2,h3⟩
   ·simp only[qfJ,List.mem_map,List.mem_filter,decide_eq_true_eq] at h
    obtain⟨w,⟨h1,rfl⟩,rfl⟩:=h
    exact⟨n,by omega,h1,rfl⟩
  ·rintro⟨i,h1,h2,rfl⟩
   by_cases hi:i<n
   ·exact .inl ⟨i,hi,h2,rfl⟩
   ·obtain rfl:i=n:=by omega
    exact .inr (List.mem_map.2 ⟨net,List.mem_filter.2 ⟨h2,by simp⟩,rfl⟩)
end Go.VL
