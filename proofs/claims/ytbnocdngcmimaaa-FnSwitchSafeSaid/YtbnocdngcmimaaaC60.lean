/- The netlist of a circuit: cuts, lookup tables, cells. Conditions: none; plain definitions and lemmas. -/
import Derived.Test.YtbnocdngcmimaaaVM8
set_option linter.unusedVariables false
set_option linter.unusedSimpArgs false
namespace Go.VL
theorem qa3 {α β : Type}{f : β→α→β}{b : β}{l:List α}{i:Nat}(z : α) (h:i<l.length):(l.take (i+1)).foldl f b=f ((l.take i).foldl f b) (l.getD i z):=by
 rw[List.take_succ_eq_append_getElem h,List.foldl_append]
 simp[List.getD,h]
def qaS:List Int→List Int→List Int
 | [],b=>b
 | x::a,[]=>x::a
 | x::a,y::b=>if x<y then x::qaS a (y::b) else if y<x then y::qaS (x::a) b else x::qaS a b
termination_by a b=>a.length+b.length
theorem qdd (b:List Int):qaS [] b=b:=by rw[qaS]
theorem qdk (a:List Int):qaS a []=a:=by cases a <;> rw[qaS]
theorem qfM {x y:Int}{a b:List Int}(h:x<y):qaS (x::a) (y::b)=x::qaS a (y::b):=by rw[qaS,if_pos h]
theorem qfN {x y:Int}{a b:List Int}(h:y<x):qaS (x::a) (y::b)=y::qaS (x::a) b:=by rw[qaS,if_neg (by omega),if_pos h]
theorem qfO {x:Int}{a b:List Int}:qaS (x::a) (x::b)=x::qaS a b:=by rw[qaS,if_neg (by omega),if_neg (by omega)]
theorem qb7 {z:Int} : ∀ (a b:List Int),z∈qaS a b↔z∈a∨z∈b
 | [],b=>by rw[qdd];simp
 | x::a,[]=>by rw[qdk];simp
 | x::a,y::b=>by
  have i1:=qb7 (z:=z) a (y::b)
  have i2:=qb7 (z:=z) (x::a) b
  have i3:=qb7 (z:=z) a b
  rcases Int.lt_trichotomy x y with h|h|h
  ·rw[qfM h,List.mem_cons,i1];simp only[List.mem_cons,or_assoc]
  ·subst h
   rw[qfO,List.mem_cons,i3]
   simp only[List.mem_cons]
   constructor
   ·rintro(h|h|h) <;> simp[h]
   ·rintro((h|h)|h|h) <;> simp[h]
  ·rw[qfN h,List.mem_cons,i2]
   simp only[List.mem_cons]
   constructor
   ·rintro(h|(h|h)|h) <;> simp[h]
   ·rintro((h|h)|h|h) <;> simp[h]
termination_by a b=>a.length+b.length
def asc (l:List Int):Prop:=l.Pairwise (· < ·)
theorem qeB : ∀ {a b:List Int},asc a→asc b→asc (qaS a b)
 | [],b,_,hb=>by rw[qdd];exact hb
 | x::a,[],ha,_=>by rw[qdk];exact ha
 | x::a,y::b,ha,hb=>by
  obtain⟨ha1,ha2⟩:=List.pairwise_cons.1 ha
  obtain⟨hb1,hb2⟩:=List.pairwise_cons.1 hb
  rcases Int.lt_trichotomy x y with h|h|h
  ·rw[qfM h]
   refine List.pairwise_cons.2 ⟨fun z hz=>?_,qeB ha2 hb⟩
   rcases(qb7 _ _).1 hz with h1|h1
   ·exact ha1 z h1
   ·rcases List.mem_cons.1 h1 with rfl|h2
    ·exact h
    ·have:=hb1 z h2;omega
  ·subst h
   rw[qfO]
   refine List.pairwise_cons.2 ⟨fun z hz=>?_,qeB ha2 hb2⟩
   rcases(qb7 _ _).1 hz with h1|h1
   ·exact ha1 z h1
   ·exact hb1 z h1
  ·rw[qfN h]
   refine List.pairwise_cons.2 ⟨fun z hz=>?_,qeB ha hb2⟩
   rcases(qb7 _ _).1 hz with h1|h1
   ·rcases List.mem_cons.1 h1 with rfl|h2
    ·exact h
    ·have:=ha1 z h2;omega
   ·exact hb1 z h1
termination_by a b=>a.length+b.length
theorem qdO : ∀ (a b:List Int),(qaS a b).length≤a.length+b.length
 | [],b=>by rw[qdd];simp
 | x::a,[]=>by rw[qdk];simp
 | x::a,y::b=>by
  have i1:=qdO a (y::b)
  have i2:=qdO (x::a) b
  have i3:=qdO a b
  rcases Int.lt_trichotomy x y with h|h|h
  ·rw[qfM h];simp only[List.length_cons] at *;omega
  ·subst h;rw[qfO];simp only[List.length_cons] at *;omega
  ·rw[qfN h];simp only[List.length_cons] at *;omega
termination_by a b=>a.length+b.length
def addC (l:List (List Int)) (cut:List Int):List (List Int):=if cut.length≤3∧l.length<8∧cut∉l then l ++ [cut] else l
def rowC (x:List Int) (q:List (List Int)) (l:List (List Int)):List (List Int):=q.foldl (fun l y=>addC l (qaS x y)) l
def qgS (p q:List (List Int)):List (List Int):=p.foldl (fun l x=>rowC x q l) []
def qce (c:Circ) (i:Nat):Int:=(c.gates.getD i (0,0)).1
def qcf (c:Circ) (i:Nat):Int:=(c.gates.getD i (0,0)).2
def qa1 (c:Circ):Nat→List (List (List Int))
 | 0=>[[]]::(List.range (c.first.toNat-1)).map fun(v:Nat)=>[[(v:Int)+1]]
 | i+1=>qa1 c i ++ [qgS ((qa1 c i).getD (qce c i/2).toNat []) ((qa1 c i).getD (qcf c i/2).toNat []) ++ [[c.first+(i:Int)]]]
def qcb (c:Circ):List (List (List Int)):=qa1 c c.gates.length
theorem qbW {c:Circ}(h:1≤c.first) : ∀ i,(qa1 c i).length=c.first.toNat+i
 | 0=>by simp[qa1];omega
 | i+1=>by rw[qa1,List.length_append,qbW h i];simp;omega
theorem addC_le {l:List (List Int)}{cut:List Int}(h:l.length≤8):(addC l cut).length≤8:=by
 unfold addC;split
 ·rename_i h2;simp;omega
 ·exact h
theorem qja {x:List Int} : ∀ {q l:List (List Int)},l.length≤8→(rowC x q l).length≤8
 | [],l,h=>h
 | y::q,l,h=>qja (q:=q) (addC_le h)
theorem qlB (p q:List (List Int)):(qgS p q).length≤8:=by
 have : ∀ (p l:List (List Int)),l.length≤8→(p.foldl (fun l x=>rowC x q l) l).length≤8:=by
  intro p
  induction p with
  | nil=>exact fun l h=>h
  | cons x p ih=>exact fun l h=>ih _ (qja h)
 exact this p [] (by simp)
theorem qpB {P:List Int→Prop}{l:List (List Int)}{cut:List Int}(h : ∀ x∈l,P x) (hc:cut.length≤3→P cut) : ∀ x∈addC l cut,P x:=by
 unfold addC;split
 ·rename_i h2
  intro x hx
  rcases List.mem_append.1 hx with h1|h1
  ·exact h x h1
  ·obtain rfl:x=cut:=by simpa using h1
   exact hc h2.1
 ·exact h
theorem qlC {P:List Int→Prop}{x:List Int} : ∀ {q l:List (List Int)},(∀ z∈l,P z)→(∀ y∈q,(qaS x y).length≤3→P (qaS x y))→∀ z∈rowC x q l,P z
 | [],l,h,_=>h
 | y::q,l,h,hq=>qlC (q:=q) (qpB h (hq y (by simp))) fun z hz=>hq z (by simp[hz])
theorem qhI {P:List Int→Prop}{p q:List (List Int)}(h : ∀ x∈p,∀ y∈q,(qaS x y).length≤3→P (qaS x y)) : ∀ z∈qgS p q,P z:=by
 have : ∀ (p l:List (List Int)),(∀ z∈l,P z)→(∀ x∈p,∀ y∈q,(qaS x y).length≤3→P (qaS x y))→∀ z∈p.foldl (fun l x=>rowC x q l) l,P z:=by
  intro p
  induction p with
  | nil=>exact fun l h _=>h
  | cons x p ih=>exact fun l h hp=>ih _ (qlC h (hp x (by simp))) fun z hz=>hp z (by simp[hz])
 exact this p [] (by simp) h
theorem qnO {l:List (List Int)}{cut:List Int}:l.length≤(addC l cut).length:=by
 unfold addC;split <;> simp
theorem qhJ {x:List Int} : ∀ {q l:List (List Int)},l.length≤(rowC x q l).length
 | [],l=>Nat.le_refl _
 | y::q,l=>Nat.le_trans qnO (qhJ (q:=q))
theorem qpC {l:List (List Int)}{cut:List Int}(h:cut.length≤3):0<(addC l cut).length:=by
 unfold addC
 split
 ·simp
 ·rename_i h2
  cases l with
  | nil=>exact absurd ⟨h,by simp,by simp⟩ h2
  | cons x r=>simp
theorem qlD {x y:List Int}(h:(qaS x y).length≤3) : ∀ {q l:List (List Int)},y∈q→0<(rowC x q l).length
 | [],l,hy=>by simp at hy
 | z::q,l,hy=>by
  rcases List.mem_cons.1 hy with rfl|h1
  ·exact Nat.lt_of_lt_of_le (qpC (l:=l) h) (qhJ (q:=q))
  ·exact qlD h (q:=q) h1
theorem qnP {p q:List (List Int)}{x y:List Int}(hx:x∈p) (hy:y∈q) (h:(qaS x y).length≤3):0<(qgS p q).length:=by
 have mono : ∀ (p l:List (List Int)),l.length≤(p.foldl (fun l x=>rowC x q l) l).length:=by
  intro p
  induction p with
  | nil=>exact fun l=>Nat.le_refl _
  | cons x p ih=>exact fun l=>Nat.le_trans (qhJ (q:=q)) (ih _)
 have : ∀ (p l:List (List Int)),x∈p→0<(p.foldl (fun l x=>rowC x q l) l).length:=by
  intro p
  induction p with
  | nil=>exact fun l h=>by simp at h
  | cons z p ih=>
   intro l hz
   rcases List.mem_cons.1 hz with rfl|h1
   ·exact Nat.lt_of_lt_of_le (qlD h (l:=l) hy) (mono p _)
   ·exact ih _ h1
 exact this p [] hx
structure CutOk (c:Circ) (v:Int) (cut:List Int):Prop where
 asc:asc cut
 len:cut.length≤3
 rng : ∀ z∈cut,1≤z∧z≤v
theorem qdx {c:Circ}(hc:c.Valid) : ∀ i,i≤c.gates.length→∀ v,v<(qa1 c i).length→(∀ cut∈(qa1 c i).getD v [],CutOk c (v:Int) cut)∧(qa1 c i).getD v []≠[]∧(∃ s∈(qa1 c i).getD v [],s.length≤1)∧((qa1 c i).getD v []).length≤9:=by
 have hf:=hc.first_bd
 intro i
 induction i with
 | zero=>
  intro _ v hv
  rw[qbW hf.1] at hv
  cases v with
  | zero=>
   have e:(qa1 c 0).getD 0 []=[[]]:=rfl
   rw[e]
   refine⟨fun cut h=>?_,by simp,⟨[],by simp,by simp⟩,by simp⟩
   obtain rfl:cut=[]:=by simpa using h
   exact⟨List.Pairwise.nil,by simp,by simp⟩
  | succ v=>
   have e:(qa1 c 0).getD (v+1) []=[[(v:Int)+1]]:=by
    simp[qa1,List.getD,show v<c.first.toNat-1 by omega]
   rw[e]
   refine⟨fun cut h=>?_,by simp,⟨[(v:Int)+1],by simp,by simp⟩,by simp⟩
   obtain rfl:cut=[(v:Int)+1]:=by simpa using h
   exact⟨by simp[asc],by simp,fun z hz=>by
    obtain rfl:z=(v:Int)+1:=by simpa using hz
    omega⟩
 | succ i ih=>
  intro hi v hv
  have hl:=qbW (c:=c) hf.1 i
  rw[qbW hf.1] at hv
  by_cases h:v<c.first.toNat+i
  ·have e:(qa1 c (i+1)).getD v []=(qa1 c i).getD v []:=by rw[qa1];exact qaE (by omega)
   rw[e]
   exact ih (by omega) v (by omega)
  ·have hv2:v=(qa1 c i).length:=by omega
   have e:(qa1 c (i+1)).getD v []=qgS ((qa1 c i).getD (qce c i/2).toNat []) ((qa1 c i).getD (qcf c i/2).toNat []) ++ [[c.first+(i:Int)]]:=by
    rw[qa1,hv2];simp[List.getD]
   obtain⟨g1,g2⟩:=hc.g i (by omega)
   have ha:(qce c i/2).toNat<c.first.toNat+i:=by unfold qce;unfold qbp at g1;omega
   have hb:(qcf c i/2).toNat<c.first.toNat+i:=by unfold qcf;unfold qbp at g2;omega
   obtain⟨a1,a2,⟨sa,a3,a4⟩,a5⟩:=ih (by omega) _ (by rw[hl];exact ha)
   obtain⟨b1,b2,⟨sb,b3,b4⟩,b5⟩:=ih (by omega) _ (by rw[hl];exact hb)
   rw[e]
   have hj:=qlB ((qa1 c i).getD (qce c i/2).toNat []) ((qa1 c i).getD (qcf c i/2).toNat [])
   refine⟨fun cut h=>?_,by simp,⟨[c.first+(i:Int)],by simp,by simp⟩,by rw[List.length_append,List.length_singleton];omega⟩
   rcases List.mem_append.1 h with h1|h1
   ·refine qhI (P:=fun cut=>CutOk c (v:Int) cut) (fun x hx y hy hle=>?_) cut h1
    have hx':=a1 x hx
    have hy':=b1 y hy
    refine⟨qeB hx'.asc hy'.asc,hle,fun z hz=>?_⟩
    rcases(qb7 _ _).1 hz with h2|h2
    ·have:=hx'.rng z h2;omega
    ·have:=hy'.rng z h2;omega
   ·obtain rfl:cut=[c.first+(i:Int)]:=by simpa using h1
    exact⟨by simp[asc],by simp,fun z hz=>by
     obtain rfl:z=c.first+(i:Int):=by simpa using hz
     omega⟩
theorem qgb {c:Circ}(hf:1≤c.first) {n i:Nat}(h:i<n):(qa1 c n).getD (c.first.toNat+i) []=qgS ((qa1 c i).getD (qce c i/2).toNat []) ((qa1 c i).getD (qcf c i/2).toNat []) ++ [[c.first+(i:Int)]]:=by
 induction n with
 | zero=>omega
 | succ n ih=>
  have hl:=qbW (c:=c) hf n
  by_cases hin:i<n
  ·rw[qa1,qaE (by omega)];exact ih hin
  ·obtain rfl:i=n:=by omega
   rw[qa1,←hl]
   simp[List.getD]
theorem qjX {c:Circ}(hc:c.Valid) {i:Nat}(h:i<c.gates.length):0<(qgS ((qa1 c i).getD (qce c i/2).toNat []) ((qa1 c i).getD (qcf c i/2).toNat [])).length:=by
 have hf:=hc.first_bd
 have hl:=qbW (c:=c) hf.1 i
 obtain⟨g1,g2⟩:=hc.g i h
 have ha:(qce c i/2).toNat<c.first.toNat+i:=by unfold qce;unfold qbp at g1;omega
 have hb:(qcf c i/2).toNat<c.first.toNat+i:=by unfold qcf;unfold qbp at g2;omega
 obtain⟨a1,a2,⟨sa,a3,a4⟩,a5⟩:=qdx hc i (by omega) _ (by rw[hl];exact ha)
 obtain⟨b1,b2,⟨sb,b3,b4⟩,b5⟩:=qdx hc i (by omega) _ (by rw[hl];exact hb)
 exact qnP a3 b3 (by have:=qdO sa sb;omega)
end Go.VL
