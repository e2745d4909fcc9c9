/- Contracts, plain definitions and lemmas. Conditions: none; lemmas. -/
import Derived.Test.YtoanmdnkgjdinaaVM8
set_option linter.unusedVariables false
set_option linter.unusedSimpArgs false
namespace Go.VL
theorem qaC {α β : Type}{f : β→α→β}{b : β}{l:List α}{i:Nat}(z : α) (h:i<l.length):(l.take (i+1)).foldl f b=f ((l.take i).foldl f b) (l.getD i z):=by
 rw[List.take_succ_eq_append_getElem h,List.foldl_append]
 simp[List.getD,h]
def qaK:List Int→List Int→List Int
 | [],b=>b
 | x::a,[]=>x::a
 | x::a,y::b=>if x<y then x::qaK a (y::b) else if y<x then y::qaK (x::a) b else x::qaK a b
termination_by a b=>a.length+b.length
theorem qdh (b:List Int):qaK [] b=b:=by rw[qaK]
theorem qdq (a:List Int):qaK a []=a:=by cases a <;> rw[qaK]
theorem qf4 {x y:Int}{a b:List Int}(h:x<y):qaK (x::a) (y::b)=x::qaK a (y::b):=by rw[qaK,if_pos h]
theorem qf5 {x y:Int}{a b:List Int}(h:y<x):qaK (x::a) (y::b)=y::qaK (x::a) b:=by rw[qaK,if_neg (by omega),if_pos h]
theorem qf6 {x:Int}{a b:List Int}:qaK (x::a) (x::b)=x::qaK a b:=by rw[qaK,if_neg (by omega),if_neg (by omega)]
theorem qbP {z:Int} : ∀ (a b:List Int),z∈qaK a b↔z∈a∨z∈b
 | [],b=>by rw[qdh];simp
 | x::a,[]=>by rw[qdq];simp
 | x::a,y::b=>by
  have i1:=qbP (z:=z) a (y::b)
  have i2:=qbP (z:=z) (x::a) b
  have i3:=qbP (z:=z) a b
  rcases Int.lt_trichotomy x y with h|h|h
  ·rw[qf4 h,List.mem_cons,i1];simp only[List.mem_cons,or_assoc]
  ·subst h
   rw[qf6,List.mem_cons,i3]
   simp only[List.mem_cons]
   constructor
   ·rintro(h|h|h) <;> simp[h]
   ·rintro((h|h)|h|h) <;> simp[h]
  ·rw[qf5 h,List.mem_cons,i2]
   simp only[List.mem_cons]
   constructor
   ·rintro(h|(h|h)|h) <;> simp[h]
   ·rintro((h|h)|h|h) <;> simp[h]
termination_by a b=>a.length+b.length
def asc (l:List Int):Prop:=l.Pairwise (· < ·)
theorem qdS : ∀ {a b:List Int},asc a→asc b→asc (qaK a b)
 | [],b,_,hb=>by rw[qdh];exact hb
 | x::a,[],ha,_=>by rw[qdq];exact ha
 | x::a,y::b,ha,hb=>by
  obtain⟨ha1,ha2⟩:=List.pairwise_cons.1 ha
  obtain⟨hb1,hb2⟩:=List.pairwise_cons.1 hb
  rcases Int.lt_trichotomy x y with h|h|h
  ·rw[qf4 h]
   refine List.pairwise_cons.2 ⟨fun z hz=>?_,qdS ha2 hb⟩
   rcases(qbP _ _).1 hz with h1|h1
   ·exact ha1 z h1
   ·rcases List.mem_cons.1 h1 with rfl|h2
    ·exact h
    ·have:=hb1 z h2;omega
  ·subst h
   rw[qf6]
   refine List.pairwise_cons.2 ⟨fun z hz=>?_,qdS ha2 hb2⟩
   rcases(qbP _ _).1 hz with h1|h1
   ·exact ha1 z h1
   ·exact hb1 z h1
  ·rw[qf5 h]
   refine List.pairwise_cons.2 ⟨fun z hz=>?_,qdS ha hb2⟩
   rcases(qbP _ _).1 hz with h1|h1
   ·rcases List.mem_cons.1 h1 with rfl|h2
    ·exact h
    ·have:=ha1 z h2;omega
   ·exact hb1 z h1
termination_by a b=>a.length+b.length
theorem qoc : ∀ {a b:List Int},asc a→asc b→(∀ z,z∈a↔z∈b)→a=b
 | [],[],_,_,_=>rfl
 | [],y::b,_,_,h=>by have:=(h y).2 (by simp);simp at this
 | x::a,[],_,_,h=>by have:=(h x).1 (by simp);simp at this
 | x::a,y::b,ha,hb,h=>by
  obtain⟨ha1,ha2⟩:=List.pairwise_cons.1 ha
  obtain⟨hb1,hb2⟩:=List.pairwise_cons.1 hb
  have hxy:x=y:=by
   rcases List.mem_cons.1 ((h x).1 (by simp)) with h1|h1
   ·exact h1
   ·rcases List.mem_cons.1 ((h y).2 (by simp)) with h2|h2
    ·exact h2.symm
    ·have:=hb1 x h1;have:=ha1 y h2;omega
  subst hxy
  congr 1
  refine qoc ha2 hb2 fun z=>⟨fun hz=>?_,fun hz=>?_⟩
  ·have hlt:=ha1 z hz
   rcases List.mem_cons.1 ((h z).1 (by simp[hz])) with h1|h1
   ·omega
   ·exact h1
  ·have hlt:=hb1 z hz
   rcases List.mem_cons.1 ((h z).2 (by simp[hz])) with h1|h1
   ·omega
   ·exact h1
theorem qdT : ∀ (a b:List Int),(qaK a b).length≤a.length+b.length
 | [],b=>by rw[qdh];simp
 | x::a,[]=>by rw[qdq];simp
 | x::a,y::b=>by
  have i1:=qdT a (y::b)
  have i2:=qdT (x::a) b
  have i3:=qdT a b
  rcases Int.lt_trichotomy x y with h|h|h
  ·rw[qf4 h];simp only[List.length_cons] at *;omega
  ·subst h;rw[qf6];simp only[List.length_cons] at *;omega
  ·rw[qf5 h];simp only[List.length_cons] at *;omega
termination_by a b=>a.length+b.length
def addC (l:List (List Int)) (cut:List Int):List (List Int):=if cut.length≤3∧l.length<8∧cut∉l then l ++ [cut] else l
def rowC (x:List Int) (q:List (List Int)) (l:List (List Int)):List (List Int):=q.foldl (fun l y=>addC l (qaK x y)) l
def qfj (p q:List (List Int)):List (List Int):=p.foldl (fun l x=>rowC x q l) []
def qbI (c:Circ) (i:Nat):Int:=(c.gates.getD i (0,0)).1
def qbJ (c:Circ) (i:Nat):Int:=(c.gates.getD i (0,0)).2
def qaO (c:Circ):Nat→List (List (List Int))
 | 0=>[[]]::(List.range (c.first.toNat-1)).map fun(v:Nat)=>[[(v:Int)+1]]
 | i+1=>qaO c i ++ [qfj ((qaO c i).getD (qbI c i/2).toNat []) ((qaO c i).getD (qbJ c i/2).toNat []) ++ [[c.first+(i:Int)]]]
def qaP (c:Circ):List (List (List Int)):=qaO c c.gates.length
theorem qbp {c:Circ}(h:1≤c.first) : ∀ i,(qaO c i).length=c.first.toNat+i
 | 0=>by simp[qaO];omega
 | i+1=>by rw[qaO,List.length_append,qbp h i];simp;omega
theorem addC_le {l:List (List Int)}{cut:List Int}(h:l.length≤8):(addC l cut).length≤8:=by
 unfold addC;split
 ·rename_i h2;simp;omega
 ·exact h
theorem qgz {x:List Int} : ∀ {q l:List (List Int)},l.length≤8→(rowC x q l).length≤8
 | [],l,h=>h
 | y::q,l,h=>qgz (q:=q) (addC_le h)
theorem qjG (p q:List (List Int)):(qfj p q).length≤8:=by
 have : ∀ (p l:List (List Int)),l.length≤8→(p.foldl (fun l x=>rowC x q l) l).length≤8:=by
  intro p
  induction p with
  | nil=>exact fun l h=>h
  | cons x p ih=>exact fun l h=>ih _ (qgz h)
 exact this p [] (by simp)
theorem qqk {P:List Int→Prop}{l:List (List Int)}{cut:List Int}(h : ∀ x∈l,P x) (hc:cut.length≤3→P cut) : ∀ x∈addC l cut,P x:=by
 unfold addC;split
 ·rename_i h2
  intro x hx
  rcases List.mem_append.1 hx with h1|h1
  ·exact h x h1
  ·obtain rfl:x=cut:=by simpa using h1
   exact hc h2.1
 ·exact h
theorem ql6 {P:List Int→Prop}{x:List Int} : ∀ {q l:List (List Int)},(∀ z∈l,P z)→(∀ y∈q,(qaK x y).length≤3→P (qaK x y))→∀ z∈rowC x q l,P z
 | [],l,h,_=>h
 | y::q,l,h,hq=>ql6 (q:=q) (qqk h (hq y (by simp))) fun z hz=>hq z (by simp[hz])
theorem qf7 {P:List Int→Prop}{p q:List (List Int)}(h : ∀ x∈p,∀ y∈q,(qaK x y).length≤3→P (qaK x y)) : ∀ z∈qfj p q,P z:=by
 have : ∀ (p l:List (List Int)),(∀ z∈l,P z)→(∀ x∈p,∀ y∈q,(qaK x y).length≤3→P (qaK x y))→∀ z∈p.foldl (fun l x=>rowC x q l) l,P z:=by
  intro p
  induction p with
  | nil=>exact fun l h _=>h
  | cons x p ih=>exact fun l h hp=>ih _ (ql6 h (hp x (by simp))) fun z hz=>hp z (by simp[hz])
 exact this p [] (by simp) h
theorem qod {l:List (List Int)}{cut:List Int}:l.length≤(addC l cut).length:=by
 unfold addC;split <;> simp
theorem qhX {x:List Int} : ∀ {q l:List (List Int)},l.length≤(rowC x q l).length
 | [],l=>Nat.le_refl _
 | y::q,l=>Nat.le_trans qod (qhX (q:=q))
theorem qql {l:List (List Int)}{cut:List Int}(h:cut.length≤3):0<(addC l cut).length:=by
 unfold addC
 split
 ·simp
 ·rename_i h2
  cases l with
  | nil=>exact absurd ⟨h,by simp,by simp⟩ h2
  | cons x r=>simp
theorem ql7 {x y:List Int}(h:(qaK x y).length≤3) : ∀ {q l:List (List Int)},y∈q→0<(rowC x q l).length
 | [],l,hy=>by simp at hy
 | z::q,l,hy=>by
  rcases List.mem_cons.1 hy with rfl|h1
  ·exact Nat.lt_of_lt_of_le (qql (l:=l) h) (qhX (q:=q))
  ·exact ql7 h (q:=q) h1
theorem qoe {p q:List (List Int)}{x y:List Int}(hx:x∈p) (hy:y∈q) (h:(qaK x y).length≤3):0<(qfj p q).length:=by
 have mono : ∀ (p l:List (List Int)),l.length≤(p.foldl (fun l x=>rowC x q l) l).length:=by
  intro p
  induction p with
  | nil=>exact fun l=>Nat.le_refl _
  | cons x p ih=>exact fun l=>Nat.le_trans (qhX (q:=q)) (ih _)
 have : ∀ (p l:List (List Int)),x∈p→0<(p.foldl (fun l x=>rowC x q l) l).length:=by
  intro p
  induction p with
  | nil=>exact fun l h=>by simp at h
  | cons z p ih=>
   intro l hz
   rcases List.mem_cons.1 hz with rfl|h1
   ·exact Nat.lt_of_lt_of_le (ql7 h (l:=l) hy) (mono p _)
   ·exact ih _ h1
 exact this p [] hx
structure CutOk (c:Circ) (v:Int) (cut:List Int):Prop where
 asc:asc cut
 len:cut.length≤3
 rng : ∀ z∈cut,1≤z∧z≤v
theorem qcn {c:Circ}(hc:c.Valid) : ∀ i,i≤c.gates.length→∀ v,v<(qaO c i).length→(∀ cut∈(qaO c i).getD v [],CutOk c (v:Int) cut)∧(qaO c i).getD v []≠[]∧(∃ s∈(qaO c i).getD v [],s.length≤1)∧((qaO c i).getD v []).length≤9:=by
 have hf:=hc.first_bd
 intro i
 induction i with
 | zero=>
  intro _ v hv
  rw[qbp hf.1] at hv
  cases v with
  | zero=>
   have e:(qaO c 0).getD 0 []=[[]]:=rfl
   rw[e]
   refine⟨fun cut h=>?_,by simp,⟨[],by simp,by simp⟩,by simp⟩
   obtain rfl:cut=[]:=by simpa using h
   exact⟨List.Pairwise.nil,by simp,by simp⟩
  | succ v=>
   have e:(qaO c 0).getD (v+1) []=[[(v:Int)+1]]:=by
    simp[qaO,List.getD,show v<c.first.toNat-1 by omega]
   rw[e]
   refine⟨fun cut h=>?_,by simp,⟨[(v:Int)+1],by simp,by simp⟩,by simp⟩
   obtain rfl:cut=[(v:Int)+1]:=by simpa using h
   exact⟨by simp[asc],by simp,fun z hz=>by
    obtain rfl:z=(v:Int)+1:=by simpa using hz
    omega⟩
 | succ i ih=>
  intro hi v hv
  have hl:=qbp (c:=c) hf.1 i
  rw[qbp hf.1] at hv
  by_cases h:v<c.first.toNat+i
  ·have e:(qaO c (i+1)).getD v []=(qaO c i).getD v []:=by rw[qaO];exact qax (by omega)
   rw[e]
   exact ih (by omega) v (by omega)
  ·have hv2:v=(qaO c i).length:=by omega
   have e:(qaO c (i+1)).getD v []=qfj ((qaO c i).getD (qbI c i/2).toNat []) ((qaO c i).getD (qbJ c i/2).toNat []) ++ [[c.first+(i:Int)]]:=by
    rw[qaO,hv2];simp[List.getD]
   obtain⟨g1,g2⟩:=hc.g i (by omega)
   have ha:(qbI c i/2).toNat<c.first.toNat+i:=by unfold qbI;unfold qbc at g1;omega
   have hb:(qbJ c i/2).toNat<c.first.toNat+i:=by unfold qbJ;unfold qbc at g2;omega
   obtain⟨a1,a2,⟨sa,a3,a4⟩,a5⟩:=ih (by omega) _ (by rw[hl];exact ha)
   obtain⟨b1,b2,⟨sb,b3,b4⟩,b5⟩:=ih (by omega) _ (by rw[hl];exact hb)
   rw[e]
   have hj:=qjG ((qaO c i).getD (qbI c i/2).toNat []) ((qaO c i).getD (qbJ c i/2).toNat [])
   refine⟨fun cut h=>?_,by simp,⟨[c.first+(i:Int)],by simp,by simp⟩,by rw[List.length_append,List.length_singleton];omega⟩
   rcases List.mem_append.1 h with h1|h1
   ·refine qf7 (P:=fun cut=>CutOk c (v:Int) cut) (fun x hx y hy hle=>?_) cut h1
    have hx':=a1 x hx
    have hy':=b1 y hy
    refine⟨qdS hx'.asc hy'.asc,hle,fun z hz=>?_⟩
    rcases(qbP _ _).1 hz with h2|h2
    ·have:=hx'.rng z h2;omega
    ·have:=hy'.rng z h2;omega
   ·obtain rfl:cut=[c.first+(i:Int)]:=by simpa using h1
    exact⟨by simp[asc],by simp,fun z hz=>by
     obtain rfl:z=c.first+(i:Int):=by simpa using hz
     omega⟩
theorem qdU {c:Circ}(hf:1≤c.first) {n i:Nat}(h:i<n):(qaO c n).getD (c.first.toNat+i) []=qfj ((qaO c i).getD (qbI c i/2).toNat []) ((qaO c i).getD (qbJ c i/2).toNat []) ++ [[c.first+(i:Int)]]:=by
 induction n with
 | zero=>omega
 | succ n ih=>
  have hl:=qbp (c:=c) hf n
  by_cases hin:i<n
  ·rw[qaO,qax (by omega)];exact ih hin
  ·obtain rfl:i=n:=by omega
   rw[qaO,←hl]
   simp[List.getD]
theorem qhY {c:Circ}(hc:c.Valid) {i:Nat}(h:i<c.gates.length):0<(qfj ((qaO c i).getD (qbI c i/2).toNat []) ((qaO c i).getD (qbJ c i/2).toNat [])).length:=by
 have hf:=hc.first_bd
 have hl:=qbp (c:=c) hf.1 i
 obtain⟨g1,g2⟩:=hc.g i h
 have ha:(qbI c i/2).toNat<c.first.toNat+i:=by unfold qbI;unfold qbc at g1;omega
 have hb:(qbJ c i/2).toNat<c.first.toNat+i:=by unfold qbJ;unfold qbc at g2;omega
 obtain⟨a1,a2,⟨sa,a3,a4⟩,a5⟩:=qcn hc i (by omega) _ (by rw[hl];exact ha)
 obtain⟨b1,b2,⟨sb,b3,b4⟩,b5⟩:=qcn hc i (by omega) _ (by rw[hl];exact hb)
 exact qoe a3 b3 (by have:=qdT sa sb;omega)
end Go.VL

set_option linter.unusedVariables false
set_option linter.unusedSimpArgs false
namespace Go.VL
def qbE (arr:List Int) (cut:List Int):Int:=cut.foldl (fun t v=>max t (arr.getD v.toNat 0)) 0
def qbF (arr:List Int) (x b:List Int):Prop:=qbE arr x<qbE arr b∨(qbE arr x=qbE arr b∧x.length<b.length)
instance (arr:List Int) (x b:List Int):Decidable (qbF arr x b):=by unfold qbF;infer_instance
def qbC (arr:List Int):List (List Int)→List Int
 | []=>[]
 | x::r=>r.foldl (fun b y=>if qbF arr y b then y else b) x
theorem qhZ {arr:List Int}{l:List (List Int)}{y:List Int}(h:0<l.length):qbC arr (l ++ [y])=if qbF arr y (qbC arr l) then y else qbC arr l:=by
 cases l with
 | nil=>simp at h
 | cons x r=>
  have e : ∀ s,qbC arr (x::s)=s.foldl (fun b y=>if qbF arr y b then y else b) x:=fun s=>rfl
  show qbC arr (x::(r ++ [y]))=_
  rw[e (r ++ [y]),List.foldl_append]
  rfl
theorem qgA {arr:List Int}{l:List (List Int)}(h:0<l.length):qbC arr l∈l:=by
 cases l with
 | nil=>simp at h
 | cons x r=>
  have : ∀ (r:List (List Int)) (b:List Int),r.foldl (fun b y=>if qbF arr y b then y else b) b=b∨r.foldl (fun b y=>if qbF arr y b then y else b) b∈r:=by
   intro r
   induction r with
   | nil=>exact fun b=>.inl rfl
   | cons y r ih=>
    intro b
    simp only[List.foldl_cons]
    rcases ih (if qbF arr y b then y else b) with h1|h1
    ·rw[h1]
     split
     ·exact .inr (by simp)
     ·exact .inl rfl
    ·exact .inr (by simp[h1])
  rcases this r x with h1|h1
  ·rw[qbC,h1];simp
  ·rw[qbC];simp[h1]
def qaN (c:Circ) (cuts:List (List (List Int))):Nat→List (List Int)×List Int
 | 0=>(List.replicate c.first.toNat [],List.replicate c.first.toNat 0)
 | i+1=>
  (
   (qaN c cuts i).1 ++ [qbC (qaN c cuts i).2 (cuts.getD (c.first.toNat+i) []).dropLast],
   (qaN c cuts i).2 ++ [1+qbE (qaN c cuts i).2 (qbC (qaN c cuts i).2 (cuts.getD (c.first.toNat+i) []).dropLast)])
theorem qcV (c:Circ) (cuts:List (List (List Int))) : ∀ i,(qaN c cuts i).1.length=c.first.toNat+i∧(qaN c cuts i).2.length=c.first.toNat+i
 | 0=>by simp[qaN]
 | i+1=>by
  have:=qcV c cuts i
  simp only[qaN,List.length_append,List.length_singleton]
  omega
theorem qdV {arr:List Int}{cut:List Int}{m:Int}(h : ∀ z∈cut,arr.getD z.toNat 0≤m) (hm:0≤m):0≤qbE arr cut∧qbE arr cut≤m:=by
 have : ∀ (cut:List Int) (t:Int),(∀ z∈cut,arr.getD z.toNat 0≤m)→0≤t→t≤m→0≤cut.foldl (fun t v=>max t (arr.getD v.toNat 0)) t∧cut.foldl (fun t v=>max t (arr.getD v.toNat 0)) t≤m:=by
  intro cut
  induction cut with
  | nil=>exact fun t _ h1 h2=>⟨h1,h2⟩
  | cons x r ih=>
   intro t h h1 h2
   have hx:=h x (by simp)
   exact ih (max t (arr.getD x.toNat 0)) (fun z hz=>h z (by simp[hz])) (by omega) (by omega)
 exact this cut 0 h (Int.le_refl 0) hm
theorem qf8 (c:Circ) (cuts:List (List (List Int))) : ∀ i j,0≤(qaN c cuts i).2.getD j 0∧(qaN c cuts i).2.getD j 0≤i
 | 0,j=>by
  by_cases h:j<c.first.toNat
  ·simp[qaN,List.getD,h]
  ·simp[qaN,List.getD,h]
 | i+1,j=>by
  have ih:=qf8 c cuts i
  have hl:=(qcV c cuts i).2
  by_cases h:j<(qaN c cuts i).2.length
  ·have e:(qaN c cuts (i+1)).2.getD j 0=(qaN c cuts i).2.getD j 0:=by simp only[qaN];exact qax h
   have:=ih j
   rw[e];omega
  ·have ha:=qdV (arr:=(qaN c cuts i).2) (cut:=qbC (qaN c cuts i).2 (cuts.getD (c.first.toNat+i) []).dropLast) (m:=i) (fun z _=>(ih z.toNat).2) (by omega)
   by_cases h2:j=(qaN c cuts i).2.length
   ·have e:(qaN c cuts (i+1)).2.getD j 0=1+qbE (qaN c cuts i).2 (qbC (qaN c cuts i).2 (cuts.getD (c.first.toNat+i) []).dropLast):=by
     simp only[qaN,h2];simp[List.getD]
    rw[e];omega
   ·have e:(qaN c cuts (i+1)).2.getD j 0=0:=by
     rw[List.getD_eq_getElem?_getD,List.getElem?_eq_none (by simp only[qaN,List.length_append,List.length_singleton];omega)];rfl
    rw[e];omega
noncomputable def qbq (c:Circ):List (List Int):=(qaN c (qaP c) c.gates.length).1
noncomputable def arrC (c:Circ):List Int:=(qaN c (qaP c) c.gates.length).2
theorem qh0 {c:Circ}{cuts:List (List (List Int))}{i n:Nat}(h:i≤n) {v:Nat}(hv:v<c.first.toNat+i) :
  (qaN c cuts n).1.getD v []=(qaN c cuts i).1.getD v []∧(qaN c cuts n).2.getD v 0=(qaN c cuts i).2.getD v 0:=by
 induction n with
 | zero=>
      obtain rfl:i=0:=by omega
      exact⟨rfl,rfl⟩
 | succ n ih=>
  have hl:=qcV c cuts n
  by_cases hin:i≤n
  ·have:=ih hin
   simp only[qaN]
   rw[qax (by omega),qax (by omega)]
   exact this
  ·obtain rfl:i=n+1:=by omega
   exact⟨rfl,rfl⟩
theorem qiS {c:Circ}{cuts:List (List (List Int))}{i n:Nat}(h:i<n) :
  (qaN c cuts n).1.getD (c.first.toNat+i) []=qbC (qaN c cuts i).2 (cuts.getD (c.first.toNat+i) []).dropLast∧
  (qaN c cuts n).2.getD (c.first.toNat+i) 0=1+qbE (qaN c cuts i).2 (qbC (qaN c cuts i).2 (cuts.getD (c.first.toNat+i) []).dropLast):=by
 have hl:=qcV c cuts i
 have:=qh0 (c:=c) (cuts:=cuts) (i:=i+1) (n:=n) (by omega) (v:=c.first.toNat+i) (by omega)
 rw[this.1,this.2]
 simp only[qaN]
 constructor
 ·have e:c.first.toNat+i=(qaN c cuts i).1.length:=by omega
  rw[e];simp[List.getD]
 ·have e:c.first.toNat+i=(qaN c cuts i).2.length:=by omega
  rw[e];simp[List.getD]
theorem qof {c:Circ}{cuts:List (List (List Int))}{n v:Nat}(hv:v<c.first.toNat):(qaN c cuts n).1.getD v []=[]∧(qaN c cuts n).2.getD v 0=0:=by
 have:=qh0 (c:=c) (cuts:=cuts) (i:=0) (n:=n) (by omega) (v:=v) (by omega)
 rw[this.1,this.2]
 simp[qaN,List.getD,hv]
theorem qog {c:Circ}(hc:c.Valid) {i:Nat}(h:i<c.gates.length):(qbq c).getD (c.first.toNat+i) []∈qfj ((qaO c i).getD (qbI c i/2).toNat []) ((qaO c i).getD (qbJ c i/2).toNat []):=by
 have hf:=hc.first_bd
 have e:((qaP c).getD (c.first.toNat+i) []).dropLast=qfj ((qaO c i).getD (qbI c i/2).toNat []) ((qaO c i).getD (qbJ c i/2).toNat []):=by
  rw[qaP,qdU hf.1 h,List.dropLast_concat]
 rw[qbq,(qiS h).1,e]
 exact qgA (qhY hc h)
theorem qcP {c:Circ}(hc:c.Valid) {i:Nat}(h:i<c.gates.length):asc ((qbq c).getD (c.first.toNat+i) [])∧((qbq c).getD (c.first.toNat+i) []).length≤3∧∀ z∈(qbq c).getD (c.first.toNat+i) [],1≤z∧z<c.first+i:=by
 have hf:=hc.first_bd
 have hl:=qbp (c:=c) hf.1 i
 obtain⟨g1,g2⟩:=hc.g i h
 have ha:(qbI c i/2).toNat<c.first.toNat+i:=by unfold qbI;unfold qbc at g1;omega
 have hb:(qbJ c i/2).toNat<c.first.toNat+i:=by unfold qbJ;unfold qbc at g2;omega
 obtain⟨a1,-⟩:=qcn hc i (by omega) _ (by rw[hl];exact ha)
 obtain⟨b1,-⟩:=qcn hc i (by omega) _ (by rw[hl];exact hb)
 have:=qf7 (P:=fun cut=>asc cut∧cut.length≤3∧∀ z∈cut,1≤z∧z<c.first+i) (fun x hx y hy hle=>by
  have hx':=a1 x hx
  have hy':=b1 y hy
  refine⟨qdS hx'.asc hy'.asc,hle,fun z hz=>?_⟩
  rcases(qbP _ _).1 hz with h2|h2
  ·have:=hx'.rng z h2;omega
  ·have:=hy'.rng z h2;omega) _ (qog hc h)
 exact this
theorem qkw (c:Circ):(qbq c).length=c.first.toNat+c.gates.length:=(qcV c _ _).1
theorem qqm (c:Circ):(arrC c).length=c.first.toNat+c.gates.length:=(qcV c _ _).2
def qeR (leaves:List Int) (x:Nat) (v:Int) (d:Bool):Bool:=if v∈leaves then x.testBit (leaves.idxOf v) else d
def qfk (c:Circ) (leaves:List Int) (x:Nat):Nat→List Bool
 | 0=>(List.range c.first.toNat).map fun(v:Nat)=>qeR leaves x (v:Int) false
 | i+1=>qfk c leaves x i ++ [qeR leaves x (c.first+(i:Int)) (litV (qfk c leaves x i) (qbI c i)&&litV (qfk c leaves x i) (qbJ c i))]
theorem qh1 (c:Circ) (leaves:List Int) (x:Nat) : ∀ i,(qfk c leaves x i).length=c.first.toNat+i
 | 0=>by simp[qfk]
 | i+1=>by rw[qfk,List.length_append,qh1 c leaves x i];simp;omega
def qct (c:Circ) (leaves:List Int) (x:Nat) (v:Int):Bool:=(qfk c leaves x c.gates.length).getD v.toNat false
theorem qh2 {c:Circ}{leaves:List Int}{x:Nat}{i n:Nat}(h:i≤n) {v:Nat}(hv:v<c.first.toNat+i):(qfk c leaves x n).getD v false=(qfk c leaves x i).getD v false:=by
 induction n with
 | zero=>
      obtain rfl:i=0:=by omega
      rfl
 | succ n ih=>
  have hl:=qh1 c leaves x n
  by_cases hin:i≤n
  ·rw[qfk,qax (by omega)];exact ih hin
  ·obtain rfl:i=n+1:=by omega
   rfl
theorem qf9 {c:Circ}{leaves:List Int}{x:Nat}{v:Int}(h0:0≤v) (h:v<c.first):qct c leaves x v=qeR leaves x v false:=by
 rw[qct,qh2 (i:=0) (by omega) (by omega),qfk]
 simp[List.getD,show v.toNat<c.first.toNat by omega,Int.toNat_of_nonneg h0]
theorem qiT {c:Circ}{leaves:List Int}{x:Nat}{i:Nat}{l:Int}(h:qbc l (c.first+(i:Int))) (hi:i≤c.gates.length) (hf:1≤c.first):litV (qfk c leaves x i) l=(qct c leaves x (l/2) != decide (l%2=1)):=by
 unfold qbc at h
 rw[litV,qct,qh2 hi (by omega)]
theorem qgB {c:Circ}(hc:c.Valid) {leaves:List Int}{x:Nat}{i:Nat}(h:i<c.gates.length) :
  qct c leaves x (c.first+(i:Int))=qeR leaves x (c.first+(i:Int)) ((qct c leaves x (qbI c i/2) != decide (qbI c i%2=1))&&(qct c leaves x (qbJ c i/2) != decide (qbJ c i%2=1))):=by
 have hf:=hc.first_bd
 obtain⟨g1,g2⟩:=hc.g i h
 have q1:litV (qfk c leaves x i) (qbI c i)=(qct c leaves x (qbI c i/2) != decide (qbI c i%2=1)):=qiT (i:=i) g1 (by omega) hf.1
 have q2:litV (qfk c leaves x i) (qbJ c i)=(qct c leaves x (qbJ c i/2) != decide (qbJ c i%2=1)):=qiT (i:=i) g2 (by omega) hf.1
 rw[←q1,←q2]
 rw[qct,qh2 (i:=i+1) (by omega) (by omega),qfk]
 have e:(c.first+(i:Int)).toNat=(qfk c leaves x i).length:=by rw[qh1];omega
 rw[e]
 simp[List.getD]
def qdW (c:Circ) (v:Int) (leaves:List Int):Nat→Nat
 | 0=>0
 | x+1=>qdW c v leaves x+(if qct c leaves x v then 2 ^ x else 0)
theorem qh3 (c:Circ) (v:Int) (leaves:List Int) : ∀ n,qdW c v leaves n<2 ^ n
 | 0=>by simp[qdW]
 | n+1=>by
  have:=qh3 c v leaves n
  rw[qdW,Nat.pow_succ]
  split <;> omega
def qga (c:Circ) (v:Int) (leaves:List Int):Int:=(qdW c v leaves (2 ^ leaves.length):Nat)
structure Lut where
 var:Int
 leaves:List Int
 table:Int
def qbh (need:List Bool) (vs:List Int):List Bool:=vs.foldl (fun n v=>n.set v.toNat true) need
theorem qcj : ∀ (vs:List Int) (need:List Bool),(qbh need vs).length=need.length
 | [],need=>rfl
 | v::vs,need=>by
  show(qbh (need.set v.toNat true) vs).length=_
  rw[qcj vs,List.length_set]
theorem qdX : ∀ (vs:List Int) (need:List Bool) (j:Nat),(∀ v∈vs,0≤v)→(qbh need vs).getD j false=(need.getD j false || decide (j<need.length∧(j:Int)∈vs))
 | [],need,j,_=>by simp[qbh]
 | v::vs,need,j,h=>by
  show(qbh (need.set v.toNat true) vs).getD j false=_
  rw[qdX vs _ j fun z hz=>h z (by simp[hz])]
  have hv:=h v (by simp)
  by_cases e:v.toNat=j
  ·subst e
   by_cases hl:v.toNat<need.length
   ·simp[List.getD,hl,Int.toNat_of_nonneg hv]
   ·simp[List.getD,hl]
  ·have : ¬ (j:Int)=v:=by omega
   simp[List.getD,List.getElem?_set,e,this]
def qbg (c:Circ):List Int:=(c.outs++c.next).map (· / 2)
def qeS (c:Circ):List Bool:=qbh (List.replicate c.vars.toNat false) (qbg c)
noncomputable def mapD (c:Circ):Nat→List Bool→List Lut→List Lut
 | 0,_,out=>out
 | j+1,need,out=>
  if need.getD (c.first.toNat+j) false=true then
   mapD c j (qbh need ((qbq c).getD (c.first.toNat+j) [])) (⟨c.first+(j:Int),(qbq c).getD (c.first.toNat+j) [],qga c (c.first+(j:Int)) ((qbq c).getD (c.first.toNat+j) [])⟩::out)
  else mapD c j need out
noncomputable def qcM (c:Circ):List Lut:=mapD c c.gates.length (qeS c) []
structure Cel where
 net:Int
 inputs:List Int
 table:Int
 reg:Bool
def qaU (c:Circ) (i:Nat):Cel:=
 if(c.next.getD i 0)/2 > 0 then⟨c.inputs+1+i,[(c.next.getD i 0)/2],2-(c.next.getD i 0)%2,true⟩ else⟨c.inputs+1+i,[],(c.next.getD i 0)%2,true⟩
def qa7 (l:Lut):Cel:=⟨l.var,l.leaves,l.table,false⟩
noncomputable def qaj (c:Circ):List Cel:=(List.range c.next.length).map (qaU c)++(qcM c).map qa7
def ce0:Cel:=⟨0,[],0,false⟩
def qeT (x:Cel) (net:Int) (i:Nat):List Int:=(x.inputs.filter fun z=>decide (z=net)).map fun _=>(i:Int)
def qa5 (cells:List Cel) (net:Int):Nat→List Int
 | 0=>[]
 | i+1=>qa5 cells net i++qeT (cells.getD i ce0) net i
def qc0 (cells:List Cel) (net:Int):List Int:=qa5 cells net cells.length
theorem qdY {cells:List Cel}{net:Int}{z:Int} : ∀ {n:Nat},z∈qa5 cells net n↔∃ i:Nat,i<n∧net∈(cells.getD i ce0).inputs∧z=(i:Int)
 | 0=>by simp[qa5]
 | n+1=>by
  rw[qa5,List.mem_append,qdY]
  constructor
  ·rintro(⟨i,h1,h2,h3⟩|h)
   ·exact⟨i,by omega,h2,h3⟩
   ·simp only[qeT,List.mem_map,List.mem_filter,decide_eq_true_eq] at h
    obtain⟨w,⟨h1,rfl⟩,rfl⟩:=h
    exact⟨n,by omega,h1,rfl⟩
  ·rintro⟨i,h1,h2,rfl⟩
   by_cases hi:i<n
   ·exact .inl ⟨i,hi,h2,rfl⟩
   ·obtain rfl:i=n:=by omega
    exact .inr (List.mem_map.2 ⟨net,List.mem_filter.2 ⟨h2,by simp⟩,rfl⟩)
end Go.VL
