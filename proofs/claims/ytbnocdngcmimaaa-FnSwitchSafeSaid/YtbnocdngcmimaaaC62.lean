/- Placement of a netlist. Conditions: none; plain definitions and lemmas. -/
import Derived.Test.YtbnocdngcmimaaaC61
set_option linter.unusedVariables false
set_option linter.unusedSimpArgs false
namespace Go.VL
theorem qbk {β : Type}{f : β→Nat→β}{b : β}{i:Nat}:(List.range (i+1)).foldl f b=f ((List.range i).foldl f b) i:=by
 rw[List.range_succ,List.foldl_append];rfl
def boxF (s:Int×Int×Int×Int) (t:Int):Int×Int×Int×Int:=(min s.1 (t/5),max s.2.1 (t/5),min s.2.2.1 (t%5),max s.2.2.2 (t%5))
def boxC (tiles:List Int):Int×Int×Int×Int:=tiles.foldl boxF (5,0,5,0)
def qkU (tiles:List Int):Int:=if tiles=[] then 0 else(boxC tiles).2.1-(boxC tiles).1+(boxC tiles).2.2.2-(boxC tiles).2.2.1
theorem qnU {tiles:List Int}(h : ∀ t∈tiles,0≤t∧t≤24):(0≤(boxC tiles).1∧(boxC tiles).1≤5)∧(0≤(boxC tiles).2.1∧(boxC tiles).2.1≤5)∧(0≤(boxC tiles).2.2.1∧(boxC tiles).2.2.1≤5)∧0≤(boxC tiles).2.2.2∧(boxC tiles).2.2.2≤5:=by
 have : ∀ (tiles:List Int) (s:Int×Int×Int×Int),(∀ t∈tiles,0≤t∧t≤24)→((0≤s.1∧s.1≤5)∧(0≤s.2.1∧s.2.1≤5)∧(0≤s.2.2.1∧s.2.2.1≤5)∧0≤s.2.2.2∧s.2.2.2≤5)→
   ((0≤(tiles.foldl boxF s).1∧(tiles.foldl boxF s).1≤5)∧(0≤(tiles.foldl boxF s).2.1∧(tiles.foldl boxF s).2.1≤5)∧(0≤(tiles.foldl boxF s).2.2.1∧(tiles.foldl boxF s).2.2.1≤5)∧0≤(tiles.foldl boxF s).2.2.2∧(tiles.foldl boxF s).2.2.2≤5):=by
  intro tiles
  induction tiles with
  | nil=>exact fun s _ h=>h
  | cons t r ih=>
   intro s h hs
   have ht:=h t (by simp)
   exact ih (boxF s t) (fun z hz=>h z (by simp[hz])) (by simp only[boxF];omega)
 exact this tiles (5,0,5,0) h (by simp)
theorem qlF {tiles:List Int}(h : ∀ t∈tiles,0≤t∧t≤24) : -10≤qkU tiles∧qkU tiles≤10:=by
 have:=qnU h
 unfold qkU
 split <;> omega
def qca (c:Circ) (net:Int):Nat→List Int
 | 0=>[]
 | o+1=>qca c net o++(if c.outs.getD o 0/2=net then [(o:Int)*5+4] else [])
def qgC (place:List Int) (i:Int):Int:=place.getD i.toNat 0
def qbY (c:Circ) (cells:List Cel) (place:List Int) (net:Int):List Int:=(qgB cells net).map (qgC place)++qca c net c.outs.length
def qia (c:Circ) (net:Int):List Int:=if 1≤net∧net≤c.inputs then [(net-1)*5] else []
def qbs (cells:List Cel) (place:List Int) (net:Int):Nat→List Int
 | 0=>[]
 | i+1=>qbs cells place net i++(if(cells.getD i ce0).net=net then [place.getD i 0] else [])
def addU (out:List Int) (s:Int):List Int:=if s∈out then out else out ++ [s]
def qej (c:Circ) (cells:List Cel) (place:List Int) (net:Int):List Int:=
 if qbY c cells place net=[] then [] else(qbY c cells place net).foldl addU (qia c net++qbs cells place net cells.length)
def qjc (c:Circ) (cells:List Cel) (place:List Int):Nat→Int
 | 0=>0
 | k+1=>qjc c cells place k+qkU (qej c cells place ((k:Int)+1))
def qfR (c:Circ) (cells:List Cel) (place:List Int):Int:=qjc c cells place (c.vars.toNat-1)
structure PlaceOk (n:Nat) (place:List Int):Prop where
 len:place.length=n
 rng : ∀ t∈place,0≤t∧t≤24
 nd:place.Nodup
theorem PlaceOk.get {n:Nat}{place:List Int}(h:PlaceOk n place) {i:Nat}(hi:i<n):0≤place.getD i 0∧place.getD i 0≤24:=h.rng _ (qao (by rw[h.len];exact hi))
theorem qiB {c:Circ}{net t:Int} : ∀ {n:Nat},t∈qca c net n↔∃ o:Nat,o<n∧c.outs.getD o 0/2=net∧t=(o:Int)*5+4
 | 0=>by simp[qca]
 | n+1=>by
  rw[qca,List.mem_append,qiB]
  constructor
  ·rintro(⟨o,h1,h2,h3⟩|h)
   ·exact⟨o,by omega,h2,h3⟩
   ·split at h
    ·rename_i h2
     exact⟨n,by omega,h2,by simpa using h⟩
    ·simp at h
  ·rintro⟨o,h1,h2,h3⟩
   by_cases ho:o<n
   ·exact .inl ⟨o,ho,h2,h3⟩
   ·obtain rfl:o=n:=by omega
    rw[if_pos h2]
    exact .inr (by simp[h3])
theorem qgD {cells:List Cel}{place:List Int}{net t:Int} : ∀ {n:Nat},t∈qbs cells place net n↔∃ i:Nat,i<n∧(cells.getD i ce0).net=net∧t=place.getD i 0
 | 0=>by simp[qbs]
 | n+1=>by
  rw[qbs,List.mem_append,qgD]
  constructor
  ·rintro(⟨o,h1,h2,h3⟩|h)
   ·exact⟨o,by omega,h2,h3⟩
   ·split at h
    ·rename_i h2
     exact⟨n,by omega,h2,by simpa using h⟩
    ·simp at h
  ·rintro⟨o,h1,h2,h3⟩
   by_cases ho:o<n
   ·exact .inl ⟨o,ho,h2,h3⟩
   ·obtain rfl:o=n:=by omega
    rw[if_pos h2]
    exact .inr (by simp[h3])
theorem qjd {c:Circ}{cells:List Cel}{place:List Int}{net t:Int}:t∈qbY c cells place net↔(∃ i:Nat,i<cells.length∧net∈(cells.getD i ce0).inputs∧t=place.getD i 0)∨∃ o:Nat,o<c.outs.length∧c.outs.getD o 0/2=net∧t=(o:Int)*5+4:=by
 rw[qbY,List.mem_append,qiB,List.mem_map]
 constructor
 ·rintro(⟨i,h1,rfl⟩|h)
  ·obtain⟨j,h2,h3,rfl⟩:=qeW.1 h1
   exact .inl ⟨j,h2,h3,rfl⟩
  ·exact .inr h
 ·rintro(⟨i,h1,h2,rfl⟩|h)
  ·exact .inl ⟨(i:Int),qeW.2 ⟨i,h1,h2,rfl⟩,rfl⟩
  ·exact .inr h
theorem qpE {out:List Int}{s z:Int}:z∈addU out s↔z∈out∨z=s:=by
 unfold addU
 split
 ·rename_i h
  constructor
  ·exact .inl
  ·rintro(h1|rfl)
   ·exact h1
   ·exact h
 ·simp
theorem qj2 {z:Int} : ∀ {l out:List Int},z∈l.foldl addU out↔z∈out∨z∈l
 | [],out=>by simp
 | s::l,out=>by
  rw[List.foldl_cons,qj2,qpE,List.mem_cons,or_assoc]
theorem qgZ {c:Circ}{cells:List Cel}{place:List Int}(hc:c.Valid) (hp:PlaceOk cells.length place) {net:Int} : ∀ t∈qej c cells place net,0≤t∧t≤24:=by
 intro t ht
 have hlo:=hc.lo
 have hi1:=hc.i1
 unfold qej at ht
 split at ht
 ·simp at ht
 ·rw[qj2,List.mem_append] at ht
  rcases ht with(h|h)|h
  ·unfold qia at h
   split at h
   ·obtain rfl:t=(net-1)*5:=by simpa using h
    omega
   ·simp at h
  ·obtain⟨i,h1,h2,rfl⟩:=qgD.1 h
   exact hp.get h1
  ·rcases qjd.1 h with⟨i,h1,h2,rfl⟩|⟨o,h1,h2,rfl⟩
   ·exact hp.get h1
   ·omega
theorem qlG {c:Circ}{cells:List Cel}{place:List Int}(hc:c.Valid) (hp:PlaceOk cells.length place) : ∀ (k:Nat),-10*(k:Int)≤qjc c cells place k∧qjc c cells place k≤10*k
 | 0=>by simp[qjc]
 | k+1=>by
  have:=qlG hc hp k
  have:=qlF (qgZ hc hp (net:=(k:Int)+1))
  rw[qjc];omega
def tryP (place:List Int) (i:Nat) (tile:Int):List Int:=(place.map fun x=>if x=tile then place.getD i 0 else x).set i tile
theorem qg0 {place:List Int}{i:Nat}{tile:Int}:(tryP place i tile).length=place.length:=by simp[tryP]
theorem qg1 {place:List Int}{i j:Nat}{tile:Int}(hj:j<place.length):(tryP place i tile).getD j 0=if j=i then tile else if place.getD j 0=tile then place.getD i 0 else place.getD j 0:=by
 unfold tryP
 by_cases h:j=i
 ·subst h;simp[List.getD,hj]
 ·simp[List.getD,List.getElem?_set,Ne.symm h,hj,h]
theorem qgd {l:List Int}:l.Nodup↔∀ i j,i<l.length→j<l.length→l.getD i 0=l.getD j 0→i=j:=by
 rw[List.nodup_iff_pairwise_ne,List.pairwise_iff_getElem]
 constructor
 ·intro h i j hi hj e
  have e2:l[i]=l[j]:=by simpa [List.getD,hi,hj] using e
  rcases Nat.lt_trichotomy i j with h1|h1|h1
  ·exact absurd e2 (h i j hi hj h1)
  ·exact h1
  ·exact absurd e2.symm (h j i hj hi h1)
 ·intro h i j hi hj hij e
  have:=h i j hi hj (by simpa [List.getD,hi,hj] using e)
  omega
theorem PlaceOk.try_ {n:Nat}{place:List Int}(h:PlaceOk n place) {i:Nat}(hi:i<n) {tile:Int}(ht:0≤tile∧tile≤24):PlaceOk n (tryP place i tile):=by
 have hl:=h.len
 refine⟨by rw[qg0,hl],fun t hm=>?_,?_⟩
 ·obtain⟨j,hj,rfl⟩:=qb6 0 hm
  rw[qg0,hl] at hj
  rw[qg1 (by omega)]
  have:=h.get hi
  have:=h.get hj
  split
  ·exact ht
  ·split <;> omega
 ·have hnd:=qgd.1 h.nd
  refine qgd.2 fun a b ha hb e=>?_
  rw[qg0,hl] at ha hb
  rw[qg1 (by omega),qg1 (by omega)] at e
  by_cases h1:a=i
  ·by_cases h2:b=i
   ·omega
   ·rw[if_pos h1,if_neg h2] at e
    split at e
    ·rename_i h3
     have:=hnd b i (by omega) (by omega) (by rw[h3,e])
     omega
    ·rename_i h3;exact absurd e.symm h3
  ·by_cases h2:b=i
   ·rw[if_neg h1,if_pos h2] at e
    split at e
    ·rename_i h3
     have:=hnd a i (by omega) (by omega) (by rw[h3,←e])
     omega
    ·rename_i h3;exact absurd e h3
   ·rw[if_neg h1,if_neg h2] at e
    split at e
    ·rename_i h3
     split at e
     ·rename_i h4
      exact hnd a b (by omega) (by omega) (by rw[h3,h4])
     ·have:=hnd i b (by omega) (by omega) e
      omega
    ·split at e
     ·have:=hnd a i (by omega) (by omega) e
      omega
     ·exact hnd a b (by omega) (by omega) e
def qgT (c:Circ) (cells:List Cel) (i:Nat) (st:List Int×Int) (t:Nat):List Int×Int:=
 if qfR c cells (tryP st.1 i (t:Int))<st.2 then(tryP st.1 i (t:Int),qfR c cells (tryP st.1 i (t:Int))) else st
def rowP (c:Circ) (cells:List Cel) (st:List Int×Int) (i:Nat):List Int×Int:=(List.range 25).foldl (qgT c cells i) st
def qe7 (c:Circ) (cells:List Cel) (st:List Int×Int) (s:Nat):List Int×Int:=(List.range cells.length).foldl (rowP c cells) st
def qek (n:Nat):List Int:=(List.range n).map fun(i:Nat)=>(i:Int)
def qiC (c:Circ) (cells:List Cel):List Int:=((List.range 3).foldl (qe7 c cells) (qek cells.length,qfR c cells (qek cells.length))).1
theorem qpF {c:Circ}{cells:List Cel}{i:Nat}(hi:i<cells.length) {st:List Int×Int}(h:PlaceOk cells.length st.1) {t:Nat}(ht:t<25):PlaceOk cells.length (qgT c cells i st t).1:=by
 unfold qgT
 split
 ·exact h.try_ hi (by omega)
 ·exact h
theorem qkV {c:Circ}{cells:List Cel}{i:Nat}(hi:i<cells.length) {st:List Int×Int}(h:PlaceOk cells.length st.1) : ∀ t,t≤25→PlaceOk cells.length ((List.range t).foldl (qgT c cells i) st).1
 | 0,_=>h
 | t+1,ht=>by
  rw[qbk]
  exact qpF hi (qkV hi h t (by omega)) (by omega)
theorem qhP {c:Circ}{cells:List Cel}{st:List Int×Int}(h:PlaceOk cells.length st.1) : ∀ n,n≤cells.length→PlaceOk cells.length ((List.range n).foldl (rowP c cells) st).1
 | 0,_=>h
 | n+1,hn=>by
  rw[qbk]
  exact qkV (by omega) (qhP h n (by omega)) 25 (by omega)
theorem qlH {n:Nat}(h:n≤25):PlaceOk n (qek n):=by
 refine⟨by simp[qek],fun t ht=>?_,?_⟩
 ·obtain⟨i,hi,rfl⟩:=List.mem_map.1 ht
  have:=List.mem_range.1 hi
  omega
 ·unfold qek
  rw[List.nodup_iff_pairwise_ne,List.pairwise_map]
  exact List.Pairwise.imp (fun {a b} h e=>h (by omega)) List.nodup_range
theorem qhQ {c:Circ}{cells:List Cel}(hn:cells.length≤25) : ∀ s,PlaceOk cells.length ((List.range s).foldl (qe7 c cells) (qek cells.length,qfR c cells (qek cells.length))).1
 | 0=>qlH hn
 | s+1=>by
  rw[qbk]
  exact qhP (qhQ hn s) _ (Nat.le_refl _)
theorem qj3 {c:Circ}{cells:List Cel}(hn:cells.length≤25):PlaceOk cells.length (qiC c cells):=qhQ hn 3
end Go.VL
