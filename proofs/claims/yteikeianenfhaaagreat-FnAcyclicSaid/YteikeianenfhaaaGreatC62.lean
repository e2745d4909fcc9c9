/- Placement of a netlist. Conditions: none; plain definitions and lemmas. -/
import Derived.Test.YteikeianenfhaaaGreatC61
set_option linter.unusedVariables false
set_option linter.unusedSimpArgs false
set_option maxHeartbeats 2000000
namespace Go.VL
set_option linter.defProp false
variable {i n:Nat}{tiles place:List Int}{c:Circ}{cells:List Cel}{net tile:Int}
def qa1 {β : Type}{f : β->Nat->β}{b : β}:(List.range (i+1)).foldl f b=f ((List.range i).foldl f b) i:=by
 rw[yaT,yaO];rfl
def boxF (s:Int×Int×Int×Int) (t:Int):Int×Int×Int×Int:=(min s.1 (t/5),max s.2.1 (t/5),min s.2.2.1 (t%5),max s.2.2.2 (t%5))
def boxC (tiles:List Int):Int×Int×Int×Int:=tiles.foldl boxF (5,0,5,0)
def qeG (tiles:List Int):Int:=if tiles=[] then 0 else(boxC tiles).2.1-(boxC tiles).1+(boxC tiles).2.2.2-(boxC tiles).2.2.1
def qmB (h : ∀ t∈tiles,0<=t/\t<=24):(0<=(boxC tiles).1/\(boxC tiles).1<=5)/\(0<=(boxC tiles).2.1/\(boxC tiles).2.1<=5)/\(0<=(boxC tiles).2.2.1/\(boxC tiles).2.2.1<=5)/\0<=(boxC tiles).2.2.2/\(boxC tiles).2.2.2<=5:=by
 have : ∀ (tiles:List Int) (s:Int×Int×Int×Int),(∀ t∈tiles,0<=t/\t<=24)->((0<=s.1/\s.1<=5)/\(0<=s.2.1/\s.2.1<=5)/\(0<=s.2.2.1/\s.2.2.1<=5)/\0<=s.2.2.2/\s.2.2.2<=5)->
   ((0<=(tiles.foldl boxF s).1/\(tiles.foldl boxF s).1<=5)/\(0<=(tiles.foldl boxF s).2.1/\(tiles.foldl boxF s).2.1<=5)/\(0<=(tiles.foldl boxF s).2.2.1/\(tiles.foldl boxF s).2.2.1<=5)/\0<=(tiles.foldl boxF s).2.2.2/\(tiles.foldl boxF s).2.2.2<=5):=by
  intro tiles;induction tiles with
  | nil=>exact fun s _ h=>h
  | cons t r ih=>
   intro s h hs;have ht:=h t (by simp);exact ih (boxF s t) (fun z hz=>h z (by simp[hz])) (by simp only[boxF];omega)
 exact this tiles (5,0,5,0) h (by simp)
def qkx (h : ∀ t∈tiles,0<=t/\t<=24) : -10<=qeG tiles/\qeG tiles<=10:=by
 have:=qmB h;unfold qeG;split <;> omega
def qa6 (c:Circ) (net:Int):Nat->List Int
 | 0=>[]
 | o+1=>qa6 c net o++(if c.outs.getD o 0/2=net then [(o:Int)*5+4] else [])
def qbJ (place:List Int) (i:Int):Int:=place.getD i.toNat 0
def qax (c:Circ) (cells:List Cel) (place:List Int) (net:Int):List Int:=(qdj cells net).map (qbJ place)++qa6 c net c.outs.length
def qg2 (c:Circ) (net:Int):List Int:=if 1<=net/\net<=c.inputs then [(net-1)*5] else []
def qbi (cells:List Cel) (place:List Int) (net:Int):Nat->List Int
 | 0=>[]
 | i+1=>qbi cells place net i++(if(cells.getD i ce0).net=net then [place.getD i 0] else [])
def addU (out:List Int) (s:Int):List Int:=if s∈out then out else out ++ [s]
def qdr (c:Circ) (cells:List Cel) (place:List Int) (net:Int):List Int:=
 if qax c cells place net=[] then [] else(qax c cells place net).foldl addU (qg2 c net++qbi cells place net cells.length)
def qg3 (c:Circ) (cells:List Cel) (place:List Int):Nat->Int
 | 0=>0
 | k+1=>qg3 c cells place k+qeG (qdr c cells place ((k:Int)+1))
def qds (c:Circ) (cells:List Cel) (place:List Int):Int:=qg3 c cells place (c.vars.toNat-1)
structure PlaceOk (n:Nat) (place:List Int):Prop where
 len:place.length=n
 rng : ∀ t∈place,0<=t/\t<=24
 nd:place.Nodup
def PlaceOk.get (h:PlaceOk n place) (hi:i<n):0<=place.getD i 0/\place.getD i 0<=24:=h.rng _ (qae (by rw[h.len];exact hi))
def qg4 {c:Circ}{net t:Int} : ∀ {n:Nat},t∈qa6 c net n↔∃ o:Nat,o<n/\c.outs.getD o 0/2=net/\t=(o:Int)*5+4
 | 0=>by simp[qa6]
 | n+1=>by
  rw[qa6,yat,qg4];constructor
  ·rintro(⟨o,h1,h2,h3⟩|h)
   ·exact⟨o,by omega,h2,h3⟩
   ·split at h
    ·rename_i h2;exact⟨n,by omega,h2,by simpa using h⟩
    ·simp at h
  ·rintro⟨o,h1,h2,h3⟩;by_cases ho:o<n
   ·exact .inl ⟨o,ho,h2,h3⟩
   ·obtain rfl:o=n:=by omega
    rw[if_pos h2];exact .inr (by simp[h3])
def qhv {cells:List Cel}{place:List Int}{net t:Int} : ∀ {n:Nat},t∈qbi cells place net n↔∃ i:Nat,i<n/\(cells.getD i ce0).net=net/\t=place.getD i 0
 | 0=>by simp[qbi]
 | n+1=>by
  rw[qbi,yat,qhv];constructor
  ·rintro(⟨o,h1,h2,h3⟩|h)
   ·exact⟨o,by omega,h2,h3⟩
   ·split at h
    ·rename_i h2;exact⟨n,by omega,h2,by simpa using h⟩
    ·simp at h
  ·rintro⟨o,h1,h2,h3⟩;by_cases ho:o<n
   ·exact .inl ⟨o,ho,h2,h3⟩
   ·obtain rfl:o=n:=by omega
    rw[if_pos h2];exact .inr (by simp[h3])
def qcI {t:Int}:t∈qax c cells place net↔(∃ i:Nat,i<cells.length/\net∈(cells.getD i ce0).inputs/\t=place.getD i 0)∨∃ o:Nat,o<c.outs.length/\c.outs.getD o 0/2=net/\t=(o:Int)*5+4:=by
 rw[qax,yat,qg4,List.mem_map];constructor
 ·rintro(⟨i,h1,rfl⟩|h)
  ·obtain⟨j,h2,h3,rfl⟩:=qek.1 h1;exact .inl ⟨j,h2,h3,rfl⟩
  ·exact .inr h
 ·rintro(⟨i,h1,h2,rfl⟩|h)
  ·exact .inl ⟨(i:Int),qek.2 ⟨i,h1,h2,rfl⟩,rfl⟩
  ·exact .inr h
def qno {out:List Int}{s z:Int}:z∈addU out s↔z∈out∨z=s:=by
 unfold addU;split
 ·rename_i h;constructor
  ·exact .inl
  ·rintro(h1|rfl)
   ·exact h1
   ·exact h
 ·simp
def qgo {z:Int} : ∀ {l out:List Int},z∈l.foldl addU out↔z∈out∨z∈l
 | [],out=>by simp
 | s::l,out=>by
  rw[yan,qgo,qno,yaz,or_assoc]
def qem : ∀ {l out:List Int},∃ r,l.foldl addU out=out++r
 | [],out=>⟨[],by simp⟩
 | s::l,out=>by
  obtain⟨r,hr⟩:=qem (l:=l) (out:=addU out s);rw[yan,hr];unfold addU;split
  ·exact⟨r,rfl⟩
  ·exact⟨s::r,by simp⟩
def qgp (hc:c.Valid) (hp:PlaceOk cells.length place)  : ∀ t∈qdr c cells place net,0<=t/\t<=24:=by
 intro t ht;have hlo:=hc.lo;have hi1:=hc.i1;unfold qdr at ht;split at ht
 ·simp at ht
 ·rw[qgo,yat] at ht;rcases ht with(h|h)|h
  ·unfold qg2 at h;split at h
   ·obtain rfl:t=(net-1)*5:=by simpa using h
    omega
   ·simp at h
  ·obtain⟨i,h1,h2,rfl⟩:=qhv.1 h;exact hp.get h1
  ·rcases qcI.1 h with⟨i,h1,h2,rfl⟩|⟨o,h1,h2,rfl⟩
   ·exact hp.get h1
   ·omega
def qnp {c:Circ}{cells:List Cel}{place:List Int}(hc:c.Valid) (hp:PlaceOk cells.length place) : ∀ (k:Nat),-10*(k:Int)<=qg3 c cells place k/\qg3 c cells place k<=10*k
 | 0=>by simp[qg3]
 | k+1=>by
  have:=qnp hc hp k;have:=qkx (qgp hc hp (net:=(k:Int)+1));rw[qg3];omega
def tryP (place:List Int) (i:Nat) (tile:Int):List Int:=(place.map fun x=>if x=tile then place.getD i 0 else x).set i tile
def qgq:(tryP place i tile).length=place.length:=by simp[tryP]
def qgr {j:Nat}(hj:j<place.length):(tryP place i tile).getD j 0=if j=i then tile else if place.getD j 0=tile then place.getD i 0 else place.getD j 0:=by
 unfold tryP;by_cases h:j=i
 ·subst h;simp[List.getD,hj]
 ·simp[List.getD,List.getElem?_set,Ne.symm h,hj,h]
def qen {l:List Int}:l.Nodup↔∀ i j,i<l.length->j<l.length->l.getD i 0=l.getD j 0->i=j:=by
 rw[List.nodup_iff_pairwise_ne,ybn];constructor
 ·intro h i j hi hj e;have e2:l[i]=l[j]:=by simpa [List.getD,hi,hj] using e
  rcases Nat.lt_trichotomy i j with h1|h1|h1
  ·exact absurd e2 (h i j hi hj h1)
  ·exact h1
  ·exact absurd e2.symm (h j i hj hi h1)
 ·intro h i j hi hj hij e;have:=h i j hi hj (by simpa [List.getD,hi,hj] using e);omega
def PlaceOk.try_ (h:PlaceOk n place) (hi:i<n) (ht:0<=tile/\tile<=24):PlaceOk n (tryP place i tile):=by
 have hl:=h.len;refine⟨by rw[qgq,hl],fun t hm=>?_,?_⟩
 ·obtain⟨j,hj,rfl⟩:=qa4 0 hm;rw[qgq,hl] at hj;rw[qgr (by omega)];have:=h.get hi;have:=h.get hj;split
  ·exact ht
  ·split <;> omega
 ·have hnd:=qen.1 h.nd;refine qen.2 fun a b ha hb e=>?_
  rw[qgq,hl] at ha hb;rw[qgr (by omega),qgr (by omega)] at e;by_cases h1:a=i
  ·by_cases h2:b=i
   ·omega
   ·rw[if_pos h1,if_neg h2] at e;split at e
    ·rename_i h3;have:=hnd b i (by omega) (by omega) (by rw[h3,e]);omega
    ·rename_i h3;exact absurd e.symm h3
  ·by_cases h2:b=i
   ·rw[if_neg h1,if_pos h2] at e;split at e
    ·rename_i h3;have:=hnd a i (by omega) (by omega) (by rw[h3,<-e]);omega
    ·rename_i h3;exact absurd e h3
   ·rw[if_neg h1,if_neg h2] at e;split at e
    ·rename_i h3;split at e
     ·rename_i h4;exact hnd a b (by omega) (by omega) (by rw[h3,h4])
     ·have:=hnd i b (by omega) (by omega) e;omega
    ·split at e
     ·have:=hnd a i (by omega) (by omega) e;omega
     ·exact hnd a b (by omega) (by omega) e
def qeo (c:Circ) (cells:List Cel) (i:Nat) (st:List Int×Int) (t:Nat):List Int×Int:=
 if qds c cells (tryP st.1 i (t:Int))<st.2 then(tryP st.1 i (t:Int),qds c cells (tryP st.1 i (t:Int))) else st
def rowP (c:Circ) (cells:List Cel) (st:List Int×Int) (i:Nat):List Int×Int:=(List.range 25).foldl (qeo c cells i) st
def qcO (c:Circ) (cells:List Cel) (st:List Int×Int) (s:Nat):List Int×Int:=(List.range cells.length).foldl (rowP c cells) st
def qcJ (n:Nat):List Int:=(List.range n).map fun(i:Nat)=>(i:Int)
def qcq (c:Circ) (cells:List Cel):List Int:=((List.range 3).foldl (qcO c cells) (qcJ cells.length,qds c cells (qcJ cells.length))).1
def qrH (hi:i<cells.length) {st:List Int×Int}(h:PlaceOk cells.length st.1) {t:Nat}(ht:t<25):PlaceOk cells.length (qeo c cells i st t).1:=by
 unfold qeo;split
 ·exact h.try_ hi (by omega)
 ·exact h
def qky {c:Circ}{cells:List Cel}{i:Nat}(hi:i<cells.length) {st:List Int×Int}(h:PlaceOk cells.length st.1) : ∀ t,t<=25->PlaceOk cells.length ((List.range t).foldl (qeo c cells i) st).1
 | 0,_=>h
 | t+1,ht=>by
  rw[qa1];exact qrH hi (qky hi h t (by omega)) (by omega)
def qgs {c:Circ}{cells:List Cel}{st:List Int×Int}(h:PlaceOk cells.length st.1) : ∀ n,n<=cells.length->PlaceOk cells.length ((List.range n).foldl (rowP c cells) st).1
 | 0,_=>h
 | n+1,hn=>by
  rw[qa1];exact qky (by omega) (qgs h n (by omega)) 25 (by omega)
def qkz (h:n<=25):PlaceOk n (qcJ n):=by
 refine⟨by simp[qcJ],fun t ht=>?_,?_⟩
 ·obtain⟨i,hi,rfl⟩:=List.mem_map.1 ht;have:=List.mem_range.1 hi;omega
 ·unfold qcJ;rw[List.nodup_iff_pairwise_ne,List.pairwise_map];exact List.Pairwise.imp (fun {a b} h e=>h (by omega)) List.nodup_range
def qgt {c:Circ}{cells:List Cel}(hn:cells.length<=25) : ∀ s,PlaceOk cells.length ((List.range s).foldl (qcO c cells) (qcJ cells.length,qds c cells (qcJ cells.length))).1
 | 0=>qkz hn
 | s+1=>by
  rw[qa1];exact qgs (qgt hn s) _ (yad _)
def qgu (hn:cells.length<=25):PlaceOk cells.length (qcq c cells):=qgt hn 3
end Go.VL
