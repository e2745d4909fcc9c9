/- Contracts, plain definitions and lemmas. Conditions: none; lemmas. -/
import Derived.Test.YtoanmdnkgjdinaaVM8
set_option linter.unusedVariables false
set_option linter.unusedSimpArgs false
namespace Go.VL
theorem qaN {α β : Type}{f : β→α→β}{b : β}{l:List α}{i:Nat}(z : α) (h:i<l.length):(l.take (i+1)).foldl f b=f ((l.take i).foldl f b) (l.getD i z):=by
 rw[List.take_succ_eq_append_getElem h,List.foldl_append]
 simp[List.getD,h]
def qaI:List Int→List Int→List Int
 | [],b=>b
 | x::a,[]=>x::a
 | x::a,y::b=>if x<y then x::qaI a (y::b) else if y<x then y::qaI (x::a) b else x::qaI a b
termination_by a b=>a.length+b.length
theorem qcW (b:List Int):qaI [] b=b:=by rw[qaI]
theorem qda (a:List Int):qaI a []=a:=by cases a <;> rw[qaI]
theorem qfF {x y:Int}{a b:List Int}(h:x<y):qaI (x::a) (y::b)=x::qaI a (y::b):=by rw[qaI,if_pos h]
theorem qfG {x y:Int}{a b:List Int}(h:y<x):qaI (x::a) (y::b)=y::qaI (x::a) b:=by rw[qaI,if_neg (by omega),if_pos h]
theorem qfH {x:Int}{a b:List Int}:qaI (x::a) (x::b)=x::qaI a b:=by rw[qaI,if_neg (by omega),if_neg (by omega)]
theorem qbL {z:Int} : ∀ (a b:List Int),z∈qaI a b↔z∈a∨z∈b
 | [],b=>by rw[qcW];simp
 | x::a,[]=>by rw[qda];simp
 | x::a,y::b=>by
  have i1:=qbL (z:=z) a (y::b)
  have i2:=qbL (z:=z) (x::a) b
  have i3:=qbL (z:=z) a b
  rcases Int.lt_trichotomy x y with h|h|h
  ·rw[qfF h,List.mem_cons,i1];simp only[List.mem_cons,or_assoc]
  ·subst h
   rw[qfH,List.mem_cons,i3]
   simp only[List.mem_cons]
   constructor
   ·rintro(h|h|h) <;> simp[h]
   ·rintro((h|h)|h|h) <;> simp[h]
  ·rw[qfG h,List.mem_cons,i2]
   simp only[List.mem_cons]
   constructor
   ·rintro(h|(h|h)|h) <;> simp[h]
   ·rintro((h|h)|h|h) <;> simp[h]
termination_by a b=>a.length+b.length
def asc (l:List Int):Prop:=l.Pairwise (· < ·)
theorem qdF : ∀ {a b:List Int},asc a→asc b→asc (qaI a b)
 | [],b,_,hb=>by rw[qcW];exact hb
 | x::a,[],ha,_=>by rw[qda];exact ha
 | x::a,y::b,ha,hb=>by
  obtain⟨ha1,ha2⟩:=List.pairwise_cons.1 ha
  obtain⟨hb1,hb2⟩:=List.pairwise_cons.1 hb
  rcases Int.lt_trichotomy x y with h|h|h
  ·rw[qfF h]
   refine List.pairwise_cons.2 ⟨fun z hz=>?_,qdF ha2 hb⟩
   rcases(qbL _ _).1 hz with h1|h1
   ·exact ha1 z h1
   ·rcases List.mem_cons.1 h1 with rfl|h2
    ·exact h
    ·have:=hb1 z h2;omega
  ·subst h
   rw[qfH]
   refine List.pairwise_cons.2 ⟨fun z hz=>?_,qdF ha2 hb2⟩
   rcases(qbL _ _).1 hz with h1|h1
   ·exact ha1 z h1
   ·exact hb1 z h1
  ·rw[qfG h]
   refine List.pairwise_cons.2 ⟨fun z hz=>?_,qdF ha hb2⟩
   rcases(qbL _ _).1 hz with h1|h1
   ·rcases List.mem_cons.1 h1 with rfl|h2
    ·exact h
    ·have:=ha1 z h2;omega
   ·exact hb1 z h1
termination_by a b=>a.length+b.length
theorem qns : ∀ {a b:List Int},asc a→asc b→(∀ z,z∈a↔z∈b)→a=b
 | [],[],_,_,_=>rfl
 | [],y::b,_,_,h=>by have:=(h y).2 (by simp);simp at this
 | x::a,[],_,_,h=>by have:=(h x).1 (by simp);simp at this
 | x::a,y::b,ha,hb,h=>by
  obtain⟨ha1,ha2⟩:=List.pairwise_cons.1 ha
  obtain⟨hb1,hb2⟩:=List.pairwise_cons.1 hb
  have hxy:x=y:=by
   rcases List.mem_cons.1 ((h x).1 (by simp)) with h1|h1
   ·exact h1
   ·rcases List.mem_cons.1 ((h y).2 (by simp)) with h2|h2
    ·exact h2.symm
    ·have:=hb1 x h1;have:=ha1 y h2;omega
  subst hxy
  congr 1
  refine qns ha2 hb2 fun z=>⟨fun hz=>?_,fun hz=>?_⟩
  ·have hlt:=ha1 z hz
   rcases List.mem_cons.1 ((h z).1 (by simp[hz])) with h1|h1
   ·omega
   ·exact h1
  ·have hlt:=hb1 z hz
   rcases List.mem_cons.1 ((h z).2 (by simp[hz])) with h1|h1
   ·omega
   ·exact h1
theorem qdG : ∀ (a b:List Int),(qaI a b).length≤a.length+b.length
 | [],b=>by rw[qcW];simp
 | x::a,[]=>by rw[qda];simp
 | x::a,y::b=>by
  have i1:=qdG a (y::b)
  have i2:=qdG (x::a) b
  have i3:=qdG a b
  rcases Int.lt_trichotomy x y with h|h|h
  ·rw[qfF h];simp only[List.length_cons] at *;omega
  ·subst h;rw[qfH];simp only[List.length_cons] at *;omega
  ·rw[qfG h];simp only[List.length_cons] at *;omega
termination_by a b=>a.length+b.length
def addC (l:List (List Int)) (cut:List Int):List (List Int):=if cut.length≤3∧l.length<8∧cut∉l then l ++ [cut] else l
def rowC (x:List Int) (q:List (List Int)) (l:List (List Int)):List (List Int):=q.foldl (fun l y=>addC l (qaI x y)) l
def qeR (p q:List (List Int)):List (List Int):=p.foldl (fun l x=>rowC x q l) []
def qbB (c:Circ) (i:Nat):Int:=(c.gates.getD i (0,0)).1
def qbC (c:Circ) (i:Nat):Int:=(c.gates.getD i (0,0)).2
def qaM (c:Circ):Nat→List (List (List Int))
 | 0=>[[]]::(List.range (c.first.toNat-1)).map fun(v:Nat)=>[[(v:Int)+1]]
 | i+1=>qaM c i ++ [qeR ((qaM c i).getD (qbB c i/2).toNat []) ((qaM c i).getD (qbC c i/2).toNat []) ++ [[c.first+(i:Int)]]]
def qa5 (c:Circ):List (List (List Int)):=qaM c c.gates.length
theorem qbh {c:Circ}(h:1≤c.first) : ∀ i,(qaM c i).length=c.first.toNat+i
 | 0=>by simp[qaM];omega
 | i+1=>by rw[qaM,List.length_append,qbh h i];simp;omega
theorem addC_le {l:List (List Int)}{cut:List Int}(h:l.length≤8):(addC l cut).length≤8:=by
 unfold addC;split
 ·rename_i h2;simp;omega
 ·exact h
theorem qgd {x:List Int} : ∀ {q l:List (List Int)},l.length≤8→(rowC x q l).length≤8
 | [],l,h=>h
 | y::q,l,h=>qgd (q:=q) (addC_le h)
theorem qi9 (p q:List (List Int)):(qeR p q).length≤8:=by
 have : ∀ (p l:List (List Int)),l.length≤8→(p.foldl (fun l x=>rowC x q l) l).length≤8:=by
  intro p
  induction p with
  | nil=>exact fun l h=>h
  | cons x p ih=>exact fun l h=>ih _ (qgd h)
 exact this p [] (by simp)
theorem qpp {P:List Int→Prop}{l:List (List Int)}{cut:List Int}(h : ∀ x∈l,P x) (hc:cut.length≤3→P cut) : ∀ x∈addC l cut,P x:=by
 unfold addC;split
 ·rename_i h2
  intro x hx
  rcases List.mem_append.1 hx with h1|h1
  ·exact h x h1
  ·obtain rfl:x=cut:=by simpa using h1
   exact hc h2.1
 ·exact h
theorem qlm {P:List Int→Prop}{x:List Int} : ∀ {q l:List (List Int)},(∀ z∈l,P z)→(∀ y∈q,(qaI x y).length≤3→P (qaI x y))→∀ z∈rowC x q l,P z
 | [],l,h,_=>h
 | y::q,l,h,hq=>qlm (q:=q) (qpp h (hq y (by simp))) fun z hz=>hq z (by simp[hz])
theorem qfI {P:List Int→Prop}{p q:List (List Int)}(h : ∀ x∈p,∀ y∈q,(qaI x y).length≤3→P (qaI x y)) : ∀ z∈qeR p q,P z:=by
 have : ∀ (p l:List (List Int)),(∀ z∈l,P z)→(∀ x∈p,∀ y∈q,(qaI x y).length≤3→P (qaI x y))→∀ z∈p.foldl (fun l x=>rowC x q l) l,P z:=by
  intro p
  induction p with
  | nil=>exact fun l h _=>h
  | cons x p ih=>exact fun l h hp=>ih _ (qlm h (hp x (by simp))) fun z hz=>hp z (by simp[hz])
 exact this p [] (by simp) h
theorem qnt {l:List (List Int)}{cut:List Int}:l.length≤(addC l cut).length:=by
 unfold addC;split <;> simp
theorem qhx {x:List Int} : ∀ {q l:List (List Int)},l.length≤(rowC x q l).length
 | [],l=>Nat.le_refl _
 | y::q,l=>Nat.le_trans qnt (qhx (q:=q))
theorem qpq {l:List (List Int)}{cut:List Int}(h:cut.length≤3):0<(addC l cut).length:=by
 unfold addC
 split
 ·simp
 ·rename_i h2
  cases l with
  | nil=>exact absurd ⟨h,by simp,by simp⟩ h2
  | cons x r=>simp
theorem qln {x y:List Int}(h:(qaI x y).length≤3) : ∀ {q l:List (List Int)},y∈q→0<(rowC x q l).length
 | [],l,hy=>by simp at hy
 | z::q,l,hy=>by
  rcases List.mem_cons.1 hy with rfl|h1
  ·exact Nat.lt_of_lt_of_le (qpq (l:=l) h) (qhx (q:=q))
  ·exact qln h (q:=q) h1
theorem qnu {p q:List (List Int)}{x y:List Int}(hx:x∈p) (hy:y∈q) (h:(qaI x y).length≤3):0<(qeR p q).length:=by
 have mono : ∀ (p l:List (List Int)),l.length≤(p.foldl (fun l x=>rowC x q l) l).length:=by
  intro p
  induction p with
  | nil=>exact fun l=>Nat.le_refl _
  | cons x p ih=>exact fun l=>Nat.le_trans (qhx (q:=q)) (ih _)
 have : ∀ (p l:List (List Int)),x∈p→0<(p.foldl (fun l x=>rowC x q l) l).length:=by
  intro p
  induction p with
  | nil=>exact fun l h=>by simp at h
  | cons z p ih=>
   intro l hz
   rcases List.mem_cons.1 hz with rfl|h1
   ·exact Nat.lt_of_lt_of_le (qln h (l:=l) hy) (mono p _)
   ·exact ih _ h1
 exact this p [] hx
structure CutOk (c:Circ) (v:Int) (cut:List Int):Prop where
 asc:asc cut
 len:cut.length≤3
 rng : ∀ z∈cut,1≤z∧z≤v
theorem qci {c:Circ}(hc:c.Valid) : ∀ i,i≤c.gates.length→∀ v,v<(qaM c i).length→(∀ cut∈(qaM c i).getD v [],CutOk c (v:Int) cut)∧(qaM c i).getD v []≠[]∧(∃ s∈(qaM c i).getD v [],s.length≤1)∧((qaM c i).getD v []).length≤9:=by
 have hf:=hc.first_bd
 intro i
 induction i with
 | zero=>
  intro _ v hv
  rw[qbh hf.1] at hv
  cases v with
  | zero=>
   have e:(qaM c 0).getD 0 []=[[]]:=rfl
   rw[e]
   refine⟨fun cut h=>?_,by simp,⟨[],by simp,by simp⟩,by simp⟩
   obtain rfl:cut=[]:=by simpa using h
   exact⟨List.Pairwise.nil,by simp,by simp⟩
  | succ v=>
   have e:(qaM c 0).getD (v+1) []=[[(v:Int)+1]]:=by
    simp[qaM,List.getD,show v<c.first.toNat-1 by omega]
   rw[e]
   refine⟨fun cut h=>?_,by simp,⟨[(v:Int)+1],by simp,by simp⟩,by simp⟩
   obtain rfl:cut=[(v:Int)+1]:=by simpa using h
   exact⟨by simp[asc],by simp,fun z hz=>by
    obtain rfl:z=(v:Int)+1:=by simpa using hz
    omega⟩
 | succ i ih=>
  intro hi v hv
  have hl:=qbh (c:=c) hf.1 i
  rw[qbh hf.1] at hv
  by_cases h:v<c.first.toNat+i
  ·have e:(qaM c (i+1)).getD v []=(qaM c i).getD v []:=by rw[qaM];exact qax (by omega)
   rw[e]
   exact ih (by omega) v (by omega)
  ·have hv2:v=(qaM c i).length:=by omega
   have e:(qaM c (i+1)).getD v []=qeR ((qaM c i).getD (qbB c i/2).toNat []) ((qaM c i).getD (qbC c i/2).toNat []) ++ [[c.first+(i:Int)]]:=by
    rw[qaM,hv2];simp[List.getD]
   obtain⟨g1,g2⟩:=hc.g i (by omega)
   have ha:(qbB c i/2).toNat<c.first.toNat+i:=by unfold qbB;unfold qbc at g1;omega
   have hb:(qbC c i/2).toNat<c.first.toNat+i:=by unfold qbC;unfold qbc at g2;omega
   obtain⟨a1,a2,⟨sa,a3,a4⟩,a5⟩:=ih (by omega) _ (by rw[hl];exact ha)
   obtain⟨b1,b2,⟨sb,b3,b4⟩,b5⟩:=ih (by omega) _ (by rw[hl];exact hb)
   rw[e]
   have hj:=qi9 ((qaM c i).getD (qbB c i/2).toNat []) ((qaM c i).getD (qbC c i/2).toNat [])
   refine⟨fun cut h=>?_,by simp,⟨[c.first+(i:Int)],by simp,by simp⟩,by rw[List.length_append,List.length_singleton];omega⟩
   rcases List.mem_append.1 h with h1|h1
   ·refine qfI (P:=fun cut=>CutOk c (v:Int) cut) (fun x hx y hy hle=>?_) cut h1
    have hx':=a1 x hx
    have hy':=b1 y hy
    refine⟨qdF hx'.asc hy'.asc,hle,fun z hz=>?_⟩
    rcases(qbL _ _).1 hz with h2|h2
    ·have:=hx'.rng z h2;omega
    ·have:=hy'.rng z h2;omega
   ·obtain rfl:cut=[c.first+(i:Int)]:=by simpa using h1
    exact⟨by simp[asc],by simp,fun z hz=>by
     obtain rfl:z=c.first+(i:Int):=by simpa using hz
     omega⟩
theorem qdH {c:Circ}(hf:1≤c.first) {n i:Nat}(h:i<n):(qaM c n).getD (c.first.toNat+i) []=qeR ((qaM c i).getD (qbB c i/2).toNat []) ((qaM c i).getD (qbC c i/2).toNat []) ++ [[c.first+(i:Int)]]:=by
 induction n with
 | zero=>omega
 | succ n ih=>
  have hl:=qbh (c:=c) hf n
  by_cases hin:i<n
  ·rw[qaM,qax (by omega)];exact ih hin
  ·obtain rfl:i=n:=by omega
   rw[qaM,←hl]
   simp[List.getD]
theorem qhy {c:Circ}(hc:c.Valid) {i:Nat}(h:i<c.gates.length):0<(qeR ((qaM c i).getD (qbB c i/2).toNat []) ((qaM c i).getD (qbC c i/2).toNat [])).length:=by
 have hf:=hc.first_bd
 have hl:=qbh (c:=c) hf.1 i
 obtain⟨g1,g2⟩:=hc.g i h
 have ha:(qbB c i/2).toNat<c.first.toNat+i:=by unfold qbB;unfold qbc at g1;omega
 have hb:(qbC c i/2).toNat<c.first.toNat+i:=by unfold qbC;unfold qbc at g2;omega
 obtain⟨a1,a2,⟨sa,a3,a4⟩,a5⟩:=qci hc i (by omega) _ (by rw[hl];exact ha)
 obtain⟨b1,b2,⟨sb,b3,b4⟩,b5⟩:=qci hc i (by omega) _ (by rw[hl];exact hb)
 exact qnu a3 b3 (by have:=qdG sa sb;omega)
end Go.VL

set_option linter.unusedVariables false
set_option linter.unusedSimpArgs false
namespace Go.VL
def qb4 (arr:List Int) (cut:List Int):Int:=cut.foldl (fun t v=>max t (arr.getD v.toNat 0)) 0
def qby (arr:List Int) (x b:List Int):Prop:=qb4 arr x<qb4 arr b∨(qb4 arr x=qb4 arr b∧x.length<b.length)
instance (arr:List Int) (x b:List Int):Decidable (qby arr x b):=by unfold qby;infer_instance
def qbu (arr:List Int):List (List Int)→List Int
 | []=>[]
 | x::r=>r.foldl (fun b y=>if qby arr y b then y else b) x
theorem qhz {arr:List Int}{l:List (List Int)}{y:List Int}(h:0<l.length):qbu arr (l ++ [y])=if qby arr y (qbu arr l) then y else qbu arr l:=by
 cases l with
 | nil=>simp at h
 | cons x r=>
  have e : ∀ s,qbu arr (x::s)=s.foldl (fun b y=>if qby arr y b then y else b) x:=fun s=>rfl
  show qbu arr (x::(r ++ [y]))=_
  rw[e (r ++ [y]),List.foldl_append]
  rfl
theorem qge {arr:List Int}{l:List (List Int)}(h:0<l.length):qbu arr l∈l:=by
 cases l with
 | nil=>simp at h
 | cons x r=>
  have : ∀ (r:List (List Int)) (b:List Int),r.foldl (fun b y=>if qby arr y b then y else b) b=b∨r.foldl (fun b y=>if qby arr y b then y else b) b∈r:=by
   intro r
   induction r with
   | nil=>exact fun b=>.inl rfl
   | cons y r ih=>
    intro b
    simp only[List.foldl_cons]
    rcases ih (if qby arr y b then y else b) with h1|h1
    ·rw[h1]
     split
     ·exact .inr (by simp)
     ·exact .inl rfl
    ·exact .inr (by simp[h1])
  rcases this r x with h1|h1
  ·rw[qbu,h1];simp
  ·rw[qbu];simp[h1]
def qaR (c:Circ) (cuts:List (List (List Int))):Nat→List (List Int)×List Int
 | 0=>(List.replicate c.first.toNat [],List.replicate c.first.toNat 0)
 | i+1=>
  (
   (qaR c cuts i).1 ++ [qbu (qaR c cuts i).2 (cuts.getD (c.first.toNat+i) []).dropLast],
   (qaR c cuts i).2 ++ [1+qb4 (qaR c cuts i).2 (qbu (qaR c cuts i).2 (cuts.getD (c.first.toNat+i) []).dropLast)])
theorem qdb (c:Circ) (cuts:List (List (List Int))) : ∀ i,(qaR c cuts i).1.length=c.first.toNat+i∧(qaR c cuts i).2.length=c.first.toNat+i
 | 0=>by simp[qaR]
 | i+1=>by
  have:=qdb c cuts i
  simp only[qaR,List.length_append,List.length_singleton]
  omega
theorem qdI {arr:List Int}{cut:List Int}{m:Int}(h : ∀ z∈cut,arr.getD z.toNat 0≤m) (hm:0≤m):0≤qb4 arr cut∧qb4 arr cut≤m:=by
 have : ∀ (cut:List Int) (t:Int),(∀ z∈cut,arr.getD z.toNat 0≤m)→0≤t→t≤m→0≤cut.foldl (fun t v=>max t (arr.getD v.toNat 0)) t∧cut.foldl (fun t v=>max t (arr.getD v.toNat 0)) t≤m:=by
  intro cut
  induction cut with
  | nil=>exact fun t _ h1 h2=>⟨h1,h2⟩
  | cons x r ih=>
   intro t h h1 h2
   have hx:=h x (by simp)
   exact ih (max t (arr.getD x.toNat 0)) (fun z hz=>h z (by simp[hz])) (by omega) (by omega)
 exact this cut 0 h (Int.le_refl 0) hm
theorem qja (c:Circ) (cuts:List (List (List Int))) : ∀ i j,0≤(qaR c cuts i).2.getD j 0∧(qaR c cuts i).2.getD j 0≤i
 | 0,j=>by
  by_cases h:j<c.first.toNat
  ·simp[qaR,List.getD,h]
  ·simp[qaR,List.getD,h]
 | i+1,j=>by
  have ih:=qja c cuts i
  have hl:=(qdb c cuts i).2
  by_cases h:j<(qaR c cuts i).2.length
  ·have e:(qaR c cuts (i+1)).2.getD j 0=(qaR c cuts i).2.getD j 0:=by simp only[qaR];exact qax h
   have:=ih j
   rw[e];omega
  ·have ha:=qdI (arr:=(qaR c cuts i).2) (cut:=qbu (qaR c cuts i).2 (cuts.getD (c.first.toNat+i) []).dropLast) (m:=i) (fun z _=>(ih z.toNat).2) (by omega)
   by_cases h2:j=(qaR c cuts i).2.length
   ·have e:(qaR c cuts (i+1)).2.getD j 0=1+qb4 (qaR c cuts i).2 (qbu (qaR c cuts i).2 (cuts.getD (c.first.toNat+i) []).dropLast):=by
     simp only[qaR,h2];simp[List.getD]
    rw[e];omega
   ·have e:(qaR c cuts (i+1)).2.getD j 0=0:=by
     rw[List.getD_eq_getElem?_getD,List.getElem?_eq_none (by simp only[qaR,List.length_append,List.length_singleton];omega)];rfl
    rw[e];omega
noncomputable def qbM (c:Circ):List (List Int):=(qaR c (qa5 c) c.gates.length).1
noncomputable def arrC (c:Circ):List Int:=(qaR c (qa5 c) c.gates.length).2
theorem qnv {c:Circ}{cuts:List (List (List Int))}{i n:Nat}(h:i≤n) {v:Nat}(hv:v<c.first.toNat+i) :
  (qaR c cuts n).1.getD v []=(qaR c cuts i).1.getD v []∧(qaR c cuts n).2.getD v 0=(qaR c cuts i).2.getD v 0:=by
 induction n with
 | zero=>
      obtain rfl:i=0:=by omega
      exact⟨rfl,rfl⟩
 | succ n ih=>
  have hl:=qdb c cuts n
  by_cases hin:i≤n
  ·have:=ih hin
   simp only[qaR]
   rw[qax (by omega),qax (by omega)]
   exact this
  ·obtain rfl:i=n+1:=by omega
   exact⟨rfl,rfl⟩
theorem qlZ {c:Circ}{cuts:List (List (List Int))}{i n:Nat}(h:i<n) :
  (qaR c cuts n).1.getD (c.first.toNat+i) []=qbu (qaR c cuts i).2 (cuts.getD (c.first.toNat+i) []).dropLast∧
  (qaR c cuts n).2.getD (c.first.toNat+i) 0=1+qb4 (qaR c cuts i).2 (qbu (qaR c cuts i).2 (cuts.getD (c.first.toNat+i) []).dropLast):=by
 have hl:=qdb c cuts i
 have:=qnv (c:=c) (cuts:=cuts) (i:=i+1) (n:=n) (by omega) (v:=c.first.toNat+i) (by omega)
 rw[this.1,this.2]
 simp only[qaR]
 constructor
 ·have e:c.first.toNat+i=(qaR c cuts i).1.length:=by omega
  rw[e];simp[List.getD]
 ·have e:c.first.toNat+i=(qaR c cuts i).2.length:=by omega
  rw[e];simp[List.getD]
theorem qnw {c:Circ}(hc:c.Valid) {i:Nat}(h:i<c.gates.length):(qbM c).getD (c.first.toNat+i) []∈qeR ((qaM c i).getD (qbB c i/2).toNat []) ((qaM c i).getD (qbC c i/2).toNat []):=by
 have hf:=hc.first_bd
 have e:((qa5 c).getD (c.first.toNat+i) []).dropLast=qeR ((qaM c i).getD (qbB c i/2).toNat []) ((qaM c i).getD (qbC c i/2).toNat []):=by
  rw[qa5,qdH hf.1 h,List.dropLast_concat]
 rw[qbM,(qlZ h).1,e]
 exact qge (qhy hc h)
theorem qd0 {c:Circ}(hc:c.Valid) {i:Nat}(h:i<c.gates.length):asc ((qbM c).getD (c.first.toNat+i) [])∧((qbM c).getD (c.first.toNat+i) []).length≤3∧∀ z∈(qbM c).getD (c.first.toNat+i) [],1≤z∧z<c.first+i:=by
 have hf:=hc.first_bd
 have hl:=qbh (c:=c) hf.1 i
 obtain⟨g1,g2⟩:=hc.g i h
 have ha:(qbB c i/2).toNat<c.first.toNat+i:=by unfold qbB;unfold qbc at g1;omega
 have hb:(qbC c i/2).toNat<c.first.toNat+i:=by unfold qbC;unfold qbc at g2;omega
 obtain⟨a1,-⟩:=qci hc i (by omega) _ (by rw[hl];exact ha)
 obtain⟨b1,-⟩:=qci hc i (by omega) _ (by rw[hl];exact hb)
 have:=qfI (P:=fun cut=>asc cut∧cut.length≤3∧∀ z∈cut,1≤z∧z<c.first+i) (fun x hx y hy hle=>by
  have hx':=a1 x hx
  have hy':=b1 y hy
  refine⟨qdF hx'.asc hy'.asc,hle,fun z hz=>?_⟩
  rcases(qbL _ _).1 hz with h2|h2
  ·have:=hx'.rng z h2;omega
  ·have:=hy'.rng z h2;omega) _ (qnw hc h)
 exact this
theorem qjV (c:Circ):(qbM c).length=c.first.toNat+c.gates.length:=(qdb c _ _).1
def qew (leaves:List Int) (x:Nat) (v:Int) (d:Bool):Bool:=if v∈leaves then x.testBit (leaves.idxOf v) else d
def qeS (c:Circ) (leaves:List Int) (x:Nat):Nat→List Bool
 | 0=>(List.range c.first.toNat).map fun(v:Nat)=>qew leaves x (v:Int) false
 | i+1=>qeS c leaves x i ++ [qew leaves x (c.first+(i:Int)) (litV (qeS c leaves x i) (qbB c i)&&litV (qeS c leaves x i) (qbC c i))]
theorem qhA (c:Circ) (leaves:List Int) (x:Nat) : ∀ i,(qeS c leaves x i).length=c.first.toNat+i
 | 0=>by simp[qeS]
 | i+1=>by rw[qeS,List.length_append,qhA c leaves x i];simp;omega
def qcq (c:Circ) (leaves:List Int) (x:Nat) (v:Int):Bool:=(qeS c leaves x c.gates.length).getD v.toNat false
theorem qhB {c:Circ}{leaves:List Int}{x:Nat}{i n:Nat}(h:i≤n) {v:Nat}(hv:v<c.first.toNat+i):(qeS c leaves x n).getD v false=(qeS c leaves x i).getD v false:=by
 induction n with
 | zero=>
      obtain rfl:i=0:=by omega
      rfl
 | succ n ih=>
  have hl:=qhA c leaves x n
  by_cases hin:i≤n
  ·rw[qeS,qax (by omega)];exact ih hin
  ·obtain rfl:i=n+1:=by omega
   rfl
theorem qfJ {c:Circ}{leaves:List Int}{x:Nat}{v:Int}(h0:0≤v) (h:v<c.first):qcq c leaves x v=qew leaves x v false:=by
 rw[qcq,qhB (i:=0) (by omega) (by omega),qeS]
 simp[List.getD,show v.toNat<c.first.toNat by omega,Int.toNat_of_nonneg h0]
theorem qis {c:Circ}{leaves:List Int}{x:Nat}{i:Nat}{l:Int}(h:qbc l (c.first+(i:Int))) (hi:i≤c.gates.length) (hf:1≤c.first):litV (qeS c leaves x i) l=(qcq c leaves x (l/2) != decide (l%2=1)):=by
 unfold qbc at h
 rw[litV,qcq,qhB hi (by omega)]
theorem qgf {c:Circ}(hc:c.Valid) {leaves:List Int}{x:Nat}{i:Nat}(h:i<c.gates.length) :
  qcq c leaves x (c.first+(i:Int))=qew leaves x (c.first+(i:Int)) ((qcq c leaves x (qbB c i/2) != decide (qbB c i%2=1))&&(qcq c leaves x (qbC c i/2) != decide (qbC c i%2=1))):=by
 have hf:=hc.first_bd
 obtain⟨g1,g2⟩:=hc.g i h
 have q1:litV (qeS c leaves x i) (qbB c i)=(qcq c leaves x (qbB c i/2) != decide (qbB c i%2=1)):=qis (i:=i) g1 (by omega) hf.1
 have q2:litV (qeS c leaves x i) (qbC c i)=(qcq c leaves x (qbC c i/2) != decide (qbC c i%2=1)):=qis (i:=i) g2 (by omega) hf.1
 rw[←q1,←q2]
 rw[qcq,qhB (i:=i+1) (by omega) (by omega),qeS]
 have e:(c.first+(i:Int)).toNat=(qeS c leaves x i).length:=by rw[qhA];omega
 rw[e]
 simp[List.getD]
def qdJ (c:Circ) (v:Int) (leaves:List Int):Nat→Nat
 | 0=>0
 | x+1=>qdJ c v leaves x+(if qcq c leaves x v then 2 ^ x else 0)
theorem qhC (c:Circ) (v:Int) (leaves:List Int) : ∀ n,qdJ c v leaves n<2 ^ n
 | 0=>by simp[qdJ]
 | n+1=>by
  have:=qhC c v leaves n
  rw[qdJ,Nat.pow_succ]
  split <;> omega
def qfK (c:Circ) (v:Int) (leaves:List Int):Int:=(qdJ c v leaves (2 ^ leaves.length):Nat)
structure Lut where
 var:Int
 leaves:List Int
 table:Int
def qa8 (need:List Bool) (vs:List Int):List Bool:=vs.foldl (fun n v=>n.set v.toNat true) need
theorem qcd : ∀ (vs:List Int) (need:List Bool),(qa8 need vs).length=need.length
 | [],need=>rfl
 | v::vs,need=>by
  show(qa8 (need.set v.toNat true) vs).length=_
  rw[qcd vs,List.length_set]
theorem qdK : ∀ (vs:List Int) (need:List Bool) (j:Nat),(∀ v∈vs,0≤v)→(qa8 need vs).getD j false=(need.getD j false || decide (j<need.length∧(j:Int)∈vs))
 | [],need,j,_=>by simp[qa8]
 | v::vs,need,j,h=>by
  show(qa8 (need.set v.toNat true) vs).getD j false=_
  rw[qdK vs _ j fun z hz=>h z (by simp[hz])]
  have hv:=h v (by simp)
  by_cases e:v.toNat=j
  ·subst e
   by_cases hl:v.toNat<need.length
   ·simp[List.getD,hl,Int.toNat_of_nonneg hv]
   ·simp[List.getD,hl]
  ·have : ¬ (j:Int)=v:=by omega
   simp[List.getD,List.getElem?_set,e,this]
def qa9 (c:Circ):List Int:=(c.outs++c.next).map (· / 2)
def qex (c:Circ):List Bool:=qa8 (List.replicate c.vars.toNat false) (qa9 c)
noncomputable def mapD (c:Circ):Nat→List Bool→List Lut→List Lut
 | 0,_,out=>out
 | j+1,need,out=>
  if need.getD (c.first.toNat+j) false=true then
   mapD c j (qa8 need ((qbM c).getD (c.first.toNat+j) [])) (⟨c.first+(j:Int),(qbM c).getD (c.first.toNat+j) [],qfK c (c.first+(j:Int)) ((qbM c).getD (c.first.toNat+j) [])⟩::out)
  else mapD c j need out
noncomputable def qdo (c:Circ):List Lut:=mapD c c.gates.length (qex c) []
structure Cel where
 net:Int
 inputs:List Int
 table:Int
 reg:Bool
def qbv (c:Circ) (i:Nat):Cel:=
 if(c.next.getD i 0)/2 > 0 then⟨c.inputs+1+i,[(c.next.getD i 0)/2],2-(c.next.getD i 0)%2,true⟩ else⟨c.inputs+1+i,[],(c.next.getD i 0)%2,true⟩
def qbo (l:Lut):Cel:=⟨l.var,l.leaves,l.table,false⟩
noncomputable def qaq (c:Circ):List Cel:=(List.range c.next.length).map (qbv c)++(qdo c).map qbo
def ce0:Cel:=⟨0,[],0,false⟩
def qey (x:Cel) (net:Int) (i:Nat):List Int:=(x.inputs.filter fun z=>decide (z=net)).map fun _=>(i:Int)
def qaY (cells:List Cel) (net:Int):Nat→List Int
 | 0=>[]
 | i+1=>qaY cells net i++qey (cells.getD i ce0) net i
def qcO (cells:List Cel) (net:Int):List Int:=qaY cells net cells.length
theorem qdL {cells:List Cel}{net:Int}{z:Int} : ∀ {n:Nat},z∈qaY cells net n↔∃ i:Nat,i<n∧net∈(cells.getD i ce0).inputs∧z=(i:Int)
 | 0=>by simp[qaY]
 | n+1=>by
  rw[qaY,List.mem_append,qdL]
  constructor
  ·rintro(⟨i,h1,h2,h3⟩|h)
   ·exact⟨i,by omega,h2,h3⟩
   ·simp only[qey,List.mem_map,List.mem_filter,decide_eq_true_eq] at h
    obtain⟨w,⟨h1,rfl⟩,rfl⟩:=h
    exact⟨n,by omega,h1,rfl⟩
  ·rintro⟨i,h1,h2,rfl⟩
   by_cases hi:i<n
   ·exact .inl ⟨i,hi,h2,rfl⟩
   ·obtain rfl:i=n:=by omega
    exact .inr (List.mem_map.2 ⟨net,List.mem_filter.2 ⟨h2,by simp⟩,rfl⟩)
end Go.VL
