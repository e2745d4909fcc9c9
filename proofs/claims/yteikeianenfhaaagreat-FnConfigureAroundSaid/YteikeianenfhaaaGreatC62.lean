/- Placement of a netlist. Conditions: none; plain definitions and lemmas. -/
import Derived.Test.YteikeianenfhaaaGreatC61
set_option linter.unusedVariables false
set_option linter.unusedSimpArgs false
set_option maxHeartbeats 2000000
namespace Go.VL
set_option linter.defProp false
variable {i n:Nat}{tiles place:List Int}{c:Circ}{cells:List Cel}{net tile:Int}
def qaW {β : Type}{f : β->Nat->β}{b : β}:(List.range (i+1)).foldl f b=f ((List.range i).foldl f b) i:=by
 rw[yaH,yaM];rfl
def boxF (s:Int×Int×Int×Int) (t:Int):Int×Int×Int×Int:=(min s.1 (t/5),max s.2.1 (t/5),min s.2.2.1 (t%5),max s.2.2.2 (t%5))
def boxC (tiles:List Int):Int×Int×Int×Int:=tiles.foldl boxF (5,0,5,0)
def qeP (tiles:List Int):Int:=if tiles=[] then 0 else(boxC tiles).2.1-(boxC tiles).1+(boxC tiles).2.2.2-(boxC tiles).2.2.1
def qmG (h : ∀ t∈tiles,0<=t/\t<=24):(0<=(boxC tiles).1/\(boxC tiles).1<=5)/\(0<=(boxC tiles).2.1/\(boxC tiles).2.1<=5)/\(0<=(boxC tiles).2.2.1/\(boxC tiles).2.2.1<=5)/\0<=(boxC tiles).2.2.2/\(boxC tiles).2.2.2<=5:=by
 have : ∀ (tiles:List Int) (s:Int×Int×Int×Int),(∀ t∈tiles,0<=t/\t<=24)->((0<=s.1/\s.1<=5)/\(0<=s.2.1/\s.2.1<=5)/\(0<=s.2.2.1/\s.2.2.1<=5)/\0<=s.2.2.2/\s.2.2.2<=5)->
   ((0<=(tiles.foldl boxF s).1/\(tiles.foldl boxF s).1<=5)/\(0<=(tiles.foldl boxF s).2.1/\(tiles.foldl boxF s).2.1<=5)/\(0<=(tiles.foldl boxF s).2.2.1/\(tiles.foldl boxF s).2.2.1<=5)/\0<=(tiles.foldl boxF s).2.2.2/\(tiles.foldl boxF s).2.2.2<=5):=by
  intro tiles;induction tiles with
  | nil=>exact fun s _ h=>h
  | cons t r ih=>
   intro s h hs;have ht:=h t (by simp);exact ih (boxF s t) (fun z hz=>h z (by simp[hz])) (by simp only[boxF];omega)
 exact this tiles (5,0,5,0) h (by simp)
def qkD (h : ∀ t∈tiles,0<=t/\t<=24) : -10<=qeP tiles/\qeP tiles<=10:=by
 have:=qmG h;unfold qeP;split <;> omega
def qa3 (c:Circ) (net:Int):Nat->List Int
 | 0=>[]
 | o+1=>qa3 c net o++(if c.outs.getD o 0/2=net then [(o:Int)*5+4] else [])
def qbH (place:List Int) (i:Int):Int:=place.getD i.toNat 0
def qay (c:Circ) (cells:List Cel) (place:List Int) (net:Int):List Int:=(qdm cells net).map (qbH place)++qa3 c net c.outs.length
def qhf (c:Circ) (net:Int):List Int:=if 1<=net/\net<=c.inputs then [(net-1)*5] else []
def qbe (cells:List Cel) (place:List Int) (net:Int):Nat->List Int
 | 0=>[]
 | i+1=>qbe cells place net i++(if(cells.getD i ce0).net=net then [place.getD i 0] else [])
def addU (out:List Int) (s:Int):List Int:=if s∈out then out else out ++ [s]
def qdx (c:Circ) (cells:List Cel) (place:List Int) (net:Int):List Int:=
 if qay c cells place net=[] then [] else(qay c cells place net).foldl addU (qhf c net++qbe cells place net cells.length)
def qhg (c:Circ) (cells:List Cel) (place:List Int):Nat->Int
 | 0=>0
 | k+1=>qhg c cells place k+qeP (qdx c cells place ((k:Int)+1))
def qdy (c:Circ) (cells:List Cel) (place:List Int):Int:=qhg c cells place (c.vars.toNat-1)
structure PlaceOk (n:Nat) (place:List Int):Prop where
 len:place.length=n
 rng : ∀ t∈place,0<=t/\t<=24
 nd:place.Nodup
def PlaceOk.get (h:PlaceOk n place) (hi:i<n):0<=place.getD i 0/\place.getD i 0<=24:=h.rng _ (qad (by rw[h.len];exact hi))
def qhh {c:Circ}{net t:Int} : ∀ {n:Nat},t∈qa3 c net n↔∃ o:Nat,o<n/\c.outs.getD o 0/2=net/\t=(o:Int)*5+4
 | 0=>by simp[qa3]
 | n+1=>by
  rw[qa3,yax,qhh];constructor
  ·rintro(⟨o,h1,h2,h3⟩|h)
   ·exact⟨o,by omega,h2,h3⟩
   ·split at h
    ·rename_i h2;exact⟨n,by omega,h2,by simpa using h⟩
    ·simp at h
  ·rintro⟨o,h1,h2,h3⟩;by_cases ho:o<n
   ·exact .inl ⟨o,ho,h2,h3⟩
   ·obtain rfl:o=n:=by omega
    rw[if_pos h2];exact .inr (by simp[h3])
def qhI {cells:List Cel}{place:List Int}{net t:Int} : ∀ {n:Nat},t∈qbe cells place net n↔∃ i:Nat,i<n/\(cells.getD i ce0).net=net/\t=place.getD i 0
 | 0=>by simp[qbe]
 | n+1=>by
  rw[qbe,yax,qhI];constructor
  ·rintro(⟨o,h1,h2,h3⟩|h)
   ·exact⟨o,by omega,h2,h3⟩
   ·split at h
    ·rename_i h2;exact⟨n,by omega,h2,by simpa using h⟩
    ·simp at h
  ·rintro⟨o,h1,h2,h3⟩;by_cases ho:o<n
   ·exact .inl ⟨o,ho,h2,h3⟩
   ·obtain rfl:o=n:=by omega
    rw[if_pos h2];exact .inr (by simp[h3])
def qcJ {t:Int}:t∈qay c cells place net↔(∃ i:Nat,i<cells.length/\net∈(cells.getD i ce0).inputs/\t=place.getD i 0)∨∃ o:Nat,o<c.outs.length/\c.outs.getD o 0/2=net/\t=(o:Int)*5+4:=by
 rw[qay,yax,qhh,List.mem_map];constructor
 ·rintro(⟨i,h1,rfl⟩|h)
  ·obtain⟨j,h2,h3,rfl⟩:=qes.1 h1;exact .inl ⟨j,h2,h3,rfl⟩
  ·exact .inr h
 ·rintro(⟨i,h1,h2,rfl⟩|h)
  ·exact .inl ⟨(i:Int),qes.2 ⟨i,h1,h2,rfl⟩,rfl⟩
  ·exact .inr h
def qnr {out:List Int}{s z:Int}:z∈addU out s↔z∈out∨z=s:=by
 unfold addU;split
 ·rename_i h;constructor
  ·exact .inl
  ·rintro(h1|rfl)
   ·exact h1
   ·exact h
 ·simp
def qgy {z:Int} : ∀ {l out:List Int},z∈l.foldl addU out↔z∈out∨z∈l
 | [],out=>by simp
 | s::l,out=>by
  rw[yao,qgy,qnr,yaE,or_assoc]
def qeu : ∀ {l out:List Int},∃ r,l.foldl addU out=out++r
 | [],out=>⟨[],by simp⟩
 | s::l,out=>by
  obtain⟨r,hr⟩:=qeu (l:=l) (out:=addU out s);rw[yao,hr];unfold addU;split
  ·exact⟨r,rfl⟩
  ·exact⟨s::r,by simp⟩
def qgz (hc:c.Valid) (hp:PlaceOk cells.length place)  : ∀ t∈qdx c cells place net,0<=t/\t<=24:=by
 intro t ht;have hlo:=hc.lo;have hi1:=hc.i1;unfold qdx at ht;split at ht
 ·simp at ht
 ·rw[qgy,yax] at ht;rcases ht with(h|h)|h
  ·unfold qhf at h;split at h
   ·obtain rfl:t=(net-1)*5:=by simpa using h
    omega
   ·simp at h
  ·obtain⟨i,h1,h2,rfl⟩:=qhI.1 h;exact hp.get h1
  ·rcases qcJ.1 h with⟨i,h1,h2,rfl⟩|⟨o,h1,h2,rfl⟩
   ·exact hp.get h1
   ·omega
def qns {c:Circ}{cells:List Cel}{place:List Int}(hc:c.Valid) (hp:PlaceOk cells.length place) : ∀ (k:Nat),-10*(k:Int)<=qhg c cells place k/\qhg c cells place k<=10*k
 | 0=>by simp[qhg]
 | k+1=>by
  have:=qns hc hp k;have:=qkD (qgz hc hp (net:=(k:Int)+1));rw[qhg];omega
def tryP (place:List Int) (i:Nat) (tile:Int):List Int:=(place.map fun x=>if x=tile then place.getD i 0 else x).set i tile
def qgA:(tryP place i tile).length=place.length:=by simp[tryP]
def qgB {j:Nat}(hj:j<place.length):(tryP place i tile).getD j 0=if j=i then tile else if place.getD j 0=tile then place.getD i 0 else place.getD j 0:=by
 unfold tryP;by_cases h:j=i
 ·subst h;simp[List.getD,hj]
 ·simp[List.getD,List.getElem?_set,Ne.symm h,hj,h]
def qev {l:List Int}:l.Nodup↔∀ i j,i<l.length->j<l.length->l.getD i 0=l.getD j 0->i=j:=by
 rw[List.nodup_iff_pairwise_ne,ybn];constructor
 ·intro h i j hi hj e;have e2:l[i]=l[j]:=by simpa [List.getD,hi,hj] using e
  rcases Nat.lt_trichotomy i j with h1|h1|h1
  ·exact absurd e2 (h i j hi hj h1)
  ·exact h1
  ·exact absurd e2.symm (h j i hj hi h1)
 ·intro h i j hi hj hij e;have:=h i j hi hj (by simpa [List.getD,hi,hj] using e);omega
def PlaceOk.try_ (h:PlaceOk n place) (hi:i<n) (ht:0<=tile/\tile<=24):PlaceOk n (tryP place i tile):=by
 have hl:=h.len;refine⟨by rw[qgA,hl],fun t hm=>?_,?_⟩
 ·obtain⟨j,hj,rfl⟩:=qaV 0 hm;rw[qgA,hl] at hj;rw[qgB (by omega)];have:=h.get hi;have:=h.get hj;split
  ·exact ht
  ·split <;> omega
 ·have hnd:=qev.1 h.nd;refine qev.2 fun a b ha hb e=>?_
  rw[qgA,hl] at ha hb;rw[qgB (by omega),qgB (by omega)] at e;by_cases h1:a=i
  ·by_cases h2:b=i
   ·omega
   ·rw[if_pos h1,if_neg h2] at e;split at e
    ·rename_i h3;have:=hnd b i (by omega) (by omega) (by rw[h3,e]);omega
    ·rename_i h3;exact absurd e.symm h3
  ·by_cases h2:b=i
   ·rw[if_neg h1,if_pos h2] at e;split at e
    ·rename_i h3;have:=hnd a i (by omega) (by omega) (by rw[h3,<-e]);omega
    ·rename_i h3;exact absurd e h3
   ·rw[if_neg h1,if_neg h2] at e;split at e
    ·rename_i h3;split at e
     ·rename_i h4;exact hnd a b (by omega) (by omega) (by rw[h3,h4])
     ·have:=hnd i b (by omega) (by omega) e;omega
    ·split at e
     ·have:=hnd a i (by omega) (by omega) e;omega
     ·exact hnd a b (by omega) (by omega) e
def qew (c:Circ) (cells:List Cel) (i:Nat) (st:List Int×Int) (t:Nat):List Int×Int:=
 if qdy c cells (tryP st.1 i (t:Int))<st.2 then(tryP st.1 i (t:Int),qdy c cells (tryP st.1 i (t:Int))) else st
def rowP (c:Circ) (cells:List Cel) (st:List Int×Int) (i:Nat):List Int×Int:=(List.range 25).foldl (qew c cells i) st
def qcS (c:Circ) (cells:List Cel) (st:List Int×Int) (s:Nat):List Int×Int:=(List.range cells.length).foldl (rowP c cells) st
def qcK (n:Nat):List Int:=(List.range n).map fun(i:Nat)=>(i:Int)
def qb4 (c:Circ) (cells:List Cel):List Int:=((List.range 3).foldl (qcS c cells) (qcK cells.length,qdy c cells (qcK cells.length))).1
def qrW (hi:i<cells.length) {st:List Int×Int}(h:PlaceOk cells.length st.1) {t:Nat}(ht:t<25):PlaceOk cells.length (qew c cells i st t).1:=by
 unfold qew;split
 ·exact h.try_ hi (by omega)
 ·exact h
def qkE {c:Circ}{cells:List Cel}{i:Nat}(hi:i<cells.length) {st:List Int×Int}(h:PlaceOk cells.length st.1) : ∀ t,t<=25->PlaceOk cells.length ((List.range t).foldl (qew c cells i) st).1
 | 0,_=>h
 | t+1,ht=>by
  rw[qaW];exact qrW hi (qkE hi h t (by omega)) (by omega)
def qgC {c:Circ}{cells:List Cel}{st:List Int×Int}(h:PlaceOk cells.length st.1) : ∀ n,n<=cells.length->PlaceOk cells.length ((List.range n).foldl (rowP c cells) st).1
 | 0,_=>h
 | n+1,hn=>by
  rw[qaW];exact qkE (by omega) (qgC h n (by omega)) 25 (by omega)
def qkF (h:n<=25):PlaceOk n (qcK n):=by
 refine⟨by simp[qcK],fun t ht=>?_,?_⟩
 ·obtain⟨i,hi,rfl⟩:=List.mem_map.1 ht;have:=List.mem_range.1 hi;omega
 ·unfold qcK;rw[List.nodup_iff_pairwise_ne,List.pairwise_map];exact List.Pairwise.imp (fun {a b} h e=>h (by omega)) List.nodup_range
def qgD {c:Circ}{cells:List Cel}(hn:cells.length<=25) : ∀ s,PlaceOk cells.length ((List.range s).foldl (qcS c cells) (qcK cells.length,qdy c cells (qcK cells.length))).1
 | 0=>qkF hn
 | s+1=>by
  rw[qaW];exact qgC (qgD hn s) _ (yad _)
def qgE (hn:cells.length<=25):PlaceOk cells.length (qb4 c cells):=qgD hn 3
end Go.VL
