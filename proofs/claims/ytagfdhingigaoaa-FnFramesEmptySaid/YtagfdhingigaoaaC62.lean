/- Placement of a netlist. Conditions: none; plain definitions and lemmas. -/
import Derived.Test.YtagfdhingigaoaaC61
set_option linter.unusedVariables false
set_option linter.unusedSimpArgs false
namespace Go.VL
theorem qa5 {β : Type}{f : β→Nat→β}{b : β}{i:Nat}:(List.range (i+1)).foldl f b=f ((List.range i).foldl f b) i:=by
 rw[List.range_succ,List.foldl_append];rfl
def boxF (s:Int×Int×Int×Int) (t:Int):Int×Int×Int×Int:=(min s.1 (t/5),max s.2.1 (t/5),min s.2.2.1 (t%5),max s.2.2.2 (t%5))
def boxC (tiles:List Int):Int×Int×Int×Int:=tiles.foldl boxF (5,0,5,0)
def qjW (tiles:List Int):Int:=if tiles=[] then 0 else(boxC tiles).2.1-(boxC tiles).1+(boxC tiles).2.2.2-(boxC tiles).2.2.1
theorem qmO {tiles:List Int}(h : ∀ t∈tiles,0≤t∧t≤24):(0≤(boxC tiles).1∧(boxC tiles).1≤5)∧(0≤(boxC tiles).2.1∧(boxC tiles).2.1≤5)∧(0≤(boxC tiles).2.2.1∧(boxC tiles).2.2.1≤5)∧0≤(boxC tiles).2.2.2∧(boxC tiles).2.2.2≤5:=by
 have : ∀ (tiles:List Int) (s:Int×Int×Int×Int),(∀ t∈tiles,0≤t∧t≤24)→((0≤s.1∧s.1≤5)∧(0≤s.2.1∧s.2.1≤5)∧(0≤s.2.2.1∧s.2.2.1≤5)∧0≤s.2.2.2∧s.2.2.2≤5)→
   ((0≤(tiles.foldl boxF s).1∧(tiles.foldl boxF s).1≤5)∧(0≤(tiles.foldl boxF s).2.1∧(tiles.foldl boxF s).2.1≤5)∧(0≤(tiles.foldl boxF s).2.2.1∧(tiles.foldl boxF s).2.2.1≤5)∧0≤(tiles.foldl boxF s).2.2.2∧(tiles.foldl boxF s).2.2.2≤5):=by
  intro tiles
  induction tiles with
  | nil=>exact fun s _ h=>h
  | cons t r ih=>
   intro s h hs
   have ht:=h t (by simp)
   exact ih (boxF s t) (fun z hz=>h z (by simp[hz])) (by simp only[boxF];omega)
 exact this tiles (5,0,5,0) h (by simp)
theorem qkB {tiles:List Int}(h : ∀ t∈tiles,0≤t∧t≤24) : -10≤qjW tiles∧qjW tiles≤10:=by
 have:=qmO h
 unfold qjW
 split <;> omega
def qbI (c:Circ) (net:Int):Nat→List Int
 | 0=>[]
 | o+1=>qbI c net o++(if c.outs.getD o 0/2=net then [(o:Int)*5+4] else [])
def qfL (place:List Int) (i:Int):Int:=place.getD i.toNat 0
def qbA (c:Circ) (cells:List Cel) (place:List Int) (net:Int):List Int:=(qfK cells net).map (qfL place)++qbI c net c.outs.length
def qg9 (c:Circ) (net:Int):List Int:=if 1≤net∧net≤c.inputs then [(net-1)*5] else []
def qbc (cells:List Cel) (place:List Int) (net:Int):Nat→List Int
 | 0=>[]
 | i+1=>qbc cells place net i++(if(cells.getD i ce0).net=net then [place.getD i 0] else [])
def addU (out:List Int) (s:Int):List Int:=if s∈out then out else out ++ [s]
def qdL (c:Circ) (cells:List Cel) (place:List Int) (net:Int):List Int:=
 if qbA c cells place net=[] then [] else(qbA c cells place net).foldl addU (qg9 c net++qbc cells place net cells.length)
def qif (c:Circ) (cells:List Cel) (place:List Int):Nat→Int
 | 0=>0
 | k+1=>qif c cells place k+qjW (qdL c cells place ((k:Int)+1))
def qe0 (c:Circ) (cells:List Cel) (place:List Int):Int:=qif c cells place (c.vars.toNat-1)
structure PlaceOk (n:Nat) (place:List Int):Prop where
 len:place.length=n
 rng : ∀ t∈place,0≤t∧t≤24
 nd:place.Nodup
theorem PlaceOk.get {n:Nat}{place:List Int}(h:PlaceOk n place) {i:Nat}(hi:i<n):0≤place.getD i 0∧place.getD i 0≤24:=h.rng _ (qan (by rw[h.len];exact hi))
theorem qhB {c:Circ}{net t:Int} : ∀ {n:Nat},t∈qbI c net n↔∃ o:Nat,o<n∧c.outs.getD o 0/2=net∧t=(o:Int)*5+4
 | 0=>by simp[qbI]
 | n+1=>by
  rw[qbI,List.mem_append,qhB]
  constructor
  ·rintro(⟨o,h1,h2,h3⟩|h)
   ·exact⟨o,by omega,h2,h3⟩
   ·split at h
    ·rename_i h2
     exact⟨n,by omega,h2,by simpa using h⟩
    ·simp at h
  ·rintro⟨o,h1,h2,h3⟩
   by_cases ho:o<n
   ·exact .inl ⟨o,ho,h2,h3⟩
   ·obtain rfl:o=n:=by omega
    rw[if_pos h2]
    exact .inr (by simp[h3])
theorem qfM {cells:List Cel}{place:List Int}{net t:Int} : ∀ {n:Nat},t∈qbc cells place net n↔∃ i:Nat,i<n∧(cells.getD i ce0).net=net∧t=place.getD i 0
 | 0=>by simp[qbc]
 | n+1=>by
  rw[qbc,List.mem_append,qfM]
  constructor
  ·rintro(⟨o,h1,h2,h3⟩|h)
   ·exact⟨o,by omega,h2,h3⟩
   ·split at h
    ·rename_i h2
     exact⟨n,by omega,h2,by simpa using h⟩
    ·simp at h
  ·rintro⟨o,h1,h2,h3⟩
   by_cases ho:o<n
   ·exact .inl ⟨o,ho,h2,h3⟩
   ·obtain rfl:o=n:=by omega
    rw[if_pos h2]
    exact .inr (by simp[h3])
theorem qig {c:Circ}{cells:List Cel}{place:List Int}{net t:Int}:t∈qbA c cells place net↔(∃ i:Nat,i<cells.length∧net∈(cells.getD i ce0).inputs∧t=place.getD i 0)∨∃ o:Nat,o<c.outs.length∧c.outs.getD o 0/2=net∧t=(o:Int)*5+4:=by
 rw[qbA,List.mem_append,qhB,List.mem_map]
 constructor
 ·rintro(⟨i,h1,rfl⟩|h)
  ·obtain⟨j,h2,h3,rfl⟩:=qej.1 h1
   exact .inl ⟨j,h2,h3,rfl⟩
  ·exact .inr h
 ·rintro(⟨i,h1,h2,rfl⟩|h)
  ·exact .inl ⟨(i:Int),qej.2 ⟨i,h1,h2,rfl⟩,rfl⟩
  ·exact .inr h
theorem qov {out:List Int}{s z:Int}:z∈addU out s↔z∈out∨z=s:=by
 unfold addU
 split
 ·rename_i h
  constructor
  ·exact .inl
  ·rintro(h1|rfl)
   ·exact h1
   ·exact h
 ·simp
theorem qi0 {z:Int} : ∀ {l out:List Int},z∈l.foldl addU out↔z∈out∨z∈l
 | [],out=>by simp
 | s::l,out=>by
  rw[List.foldl_cons,qi0,qov,List.mem_cons,or_assoc]
theorem qf4 {c:Circ}{cells:List Cel}{place:List Int}(hc:c.Valid) (hp:PlaceOk cells.length place) {net:Int} : ∀ t∈qdL c cells place net,0≤t∧t≤24:=by
 intro t ht
 have hlo:=hc.lo
 have hi1:=hc.i1
 unfold qdL at ht
 split at ht
 ·simp at ht
 ·rw[qi0,List.mem_append] at ht
  rcases ht with(h|h)|h
  ·unfold qg9 at h
   split at h
   ·obtain rfl:t=(net-1)*5:=by simpa using h
    omega
   ·simp at h
  ·obtain⟨i,h1,h2,rfl⟩:=qfM.1 h
   exact hp.get h1
  ·rcases qig.1 h with⟨i,h1,h2,rfl⟩|⟨o,h1,h2,rfl⟩
   ·exact hp.get h1
   ·omega
theorem qkC {c:Circ}{cells:List Cel}{place:List Int}(hc:c.Valid) (hp:PlaceOk cells.length place) : ∀ (k:Nat),-10*(k:Int)≤qif c cells place k∧qif c cells place k≤10*k
 | 0=>by simp[qif]
 | k+1=>by
  have:=qkC hc hp k
  have:=qkB (qf4 hc hp (net:=(k:Int)+1))
  rw[qif];omega
def tryP (place:List Int) (i:Nat) (tile:Int):List Int:=(place.map fun x=>if x=tile then place.getD i 0 else x).set i tile
theorem qf5 {place:List Int}{i:Nat}{tile:Int}:(tryP place i tile).length=place.length:=by simp[tryP]
theorem qf6 {place:List Int}{i j:Nat}{tile:Int}(hj:j<place.length):(tryP place i tile).getD j 0=if j=i then tile else if place.getD j 0=tile then place.getD i 0 else place.getD j 0:=by
 unfold tryP
 by_cases h:j=i
 ·subst h;simp[List.getD,hj]
 ·simp[List.getD,List.getElem?_set,Ne.symm h,hj,h]
theorem qfo {l:List Int}:l.Nodup↔∀ i j,i<l.length→j<l.length→l.getD i 0=l.getD j 0→i=j:=by
 rw[List.nodup_iff_pairwise_ne,List.pairwise_iff_getElem]
 constructor
 ·intro h i j hi hj e
  have e2:l[i]=l[j]:=by simpa [List.getD,hi,hj] using e
  rcases Nat.lt_trichotomy i j with h1|h1|h1
  ·exact absurd e2 (h i j hi hj h1)
  ·exact h1
  ·exact absurd e2.symm (h j i hj hi h1)
 ·intro h i j hi hj hij e
  have:=h i j hi hj (by simpa [List.getD,hi,hj] using e)
  omega
theorem PlaceOk.try_ {n:Nat}{place:List Int}(h:PlaceOk n place) {i:Nat}(hi:i<n) {tile:Int}(ht:0≤tile∧tile≤24):PlaceOk n (tryP place i tile):=by
 have hl:=h.len
 refine⟨by rw[qf5,hl],fun t hm=>?_,?_⟩
 ·obtain⟨j,hj,rfl⟩:=qbb 0 hm
  rw[qf5,hl] at hj
  rw[qf6 (by omega)]
  have:=h.get hi
  have:=h.get hj
  split
  ·exact ht
  ·split <;> omega
 ·have hnd:=qfo.1 h.nd
  refine qfo.2 fun a b ha hb e=>?_
  rw[qf5,hl] at ha hb
  rw[qf6 (by omega),qf6 (by omega)] at e
  by_cases h1:a=i
  ·by_cases h2:b=i
   ·omega
   ·rw[if_pos h1,if_neg h2] at e
    split at e
    ·rename_i h3
     have:=hnd b i (by omega) (by omega) (by rw[h3,e])
     omega
    ·rename_i h3;exact absurd e.symm h3
  ·by_cases h2:b=i
   ·rw[if_neg h1,if_pos h2] at e
    split at e
    ·rename_i h3
     have:=hnd a i (by omega) (by omega) (by rw[h3,←e])
     omega
    ·rename_i h3;exact absurd e h3
   ·rw[if_neg h1,if_neg h2] at e
    split at e
    ·rename_i h3
     split at e
     ·rename_i h4
      exact hnd a b (by omega) (by omega) (by rw[h3,h4])
     ·have:=hnd i b (by omega) (by omega) e
      omega
    ·split at e
     ·have:=hnd a i (by omega) (by omega) e
      omega
     ·exact hnd a b (by omega) (by omega) e
def qfX (c:Circ) (cells:List Cel) (i:Nat) (st:List Int×Int) (t:Nat):List Int×Int:=
 if qe0 c cells (tryP st.1 i (t:Int))<st.2 then(tryP st.1 i (t:Int),qe0 c cells (tryP st.1 i (t:Int))) else st
def rowP (c:Circ) (cells:List Cel) (st:List Int×Int) (i:Nat):List Int×Int:=(List.range 25).foldl (qfX c cells i) st
def qer (c:Circ) (cells:List Cel) (st:List Int×Int) (s:Nat):List Int×Int:=(List.range cells.length).foldl (rowP c cells) st
def qdM (n:Nat):List Int:=(List.range n).map fun(i:Nat)=>(i:Int)
def qhC (c:Circ) (cells:List Cel):List Int:=((List.range 3).foldl (qer c cells) (qdM cells.length,qe0 c cells (qdM cells.length))).1
theorem qow {c:Circ}{cells:List Cel}{i:Nat}(hi:i<cells.length) {st:List Int×Int}(h:PlaceOk cells.length st.1) {t:Nat}(ht:t<25):PlaceOk cells.length (qfX c cells i st t).1:=by
 unfold qfX
 split
 ·exact h.try_ hi (by omega)
 ·exact h
theorem qjX {c:Circ}{cells:List Cel}{i:Nat}(hi:i<cells.length) {st:List Int×Int}(h:PlaceOk cells.length st.1) : ∀ t,t≤25→PlaceOk cells.length ((List.range t).foldl (qfX c cells i) st).1
 | 0,_=>h
 | t+1,ht=>by
  rw[qa5]
  exact qow hi (qjX hi h t (by omega)) (by omega)
theorem qgT {c:Circ}{cells:List Cel}{st:List Int×Int}(h:PlaceOk cells.length st.1) : ∀ n,n≤cells.length→PlaceOk cells.length ((List.range n).foldl (rowP c cells) st).1
 | 0,_=>h
 | n+1,hn=>by
  rw[qa5]
  exact qjX (by omega) (qgT h n (by omega)) 25 (by omega)
theorem qkD {n:Nat}(h:n≤25):PlaceOk n (qdM n):=by
 refine⟨by simp[qdM],fun t ht=>?_,?_⟩
 ·obtain⟨i,hi,rfl⟩:=List.mem_map.1 ht
  have:=List.mem_range.1 hi
  omega
 ·unfold qdM
  rw[List.nodup_iff_pairwise_ne,List.pairwise_map]
  exact List.Pairwise.imp (fun {a b} h e=>h (by omega)) List.nodup_range
theorem qgU {c:Circ}{cells:List Cel}(hn:cells.length≤25) : ∀ s,PlaceOk cells.length ((List.range s).foldl (qer c cells) (qdM cells.length,qe0 c cells (qdM cells.length))).1
 | 0=>qkD hn
 | s+1=>by
  rw[qa5]
  exact qgT (qgU hn s) _ (Nat.le_refl _)
theorem qi1 {c:Circ}{cells:List Cel}(hn:cells.length≤25):PlaceOk cells.length (qhC c cells):=qgU hn 3
end Go.VL
