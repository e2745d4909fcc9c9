/- Routing of a netlist. Conditions: none; plain definitions and lemmas. -/
import Derived.Test.YtagfdhingigaoaaC62
set_option linter.unusedVariables false
set_option linter.unusedSimpArgs false
namespace Go.VL
def nbC (t:Int):List Int:=(if 5≤t then [t-5] else [])++(if 0<t%5 then [t-1] else [])++(if t%5<4 then [t+1] else [])++(if t<20 then [t+5] else [])
theorem qpk {t:Int}(h:0≤t∧t≤24) : ∀ n∈nbC t,(0≤n∧n≤24)∧n≠t:=by
 intro n hn
 unfold nbC at hn
 simp only[List.mem_append] at hn
 rcases hn with((h1|h1)|h1)|h1 <;> split at h1 <;> simp at h1 <;> omega
abbrev BS:=List Int×List Int
def qcJ (busy:List Bool) (q:Int) (s:BS) (n:Int):BS:=if s.1.getD n.toNat 0 = -2∧busy.getD n.toNat false=false then(s.1.set n.toNat q,s.2 ++ [n]) else s
def visitB (busy:List Bool) (s:BS) (q:Int):BS:=(nbC q).foldl (qcJ busy q) s
def bfsN (busy:List Bool) (sink:Int):Nat→Nat→BS→BS
 | 0,_,s=>s
 | f+1,k,s=>if k<s.2.length∧s.1.getD sink.toNat 0 = -2 then bfsN busy sink f (k+1) (visitB busy s (s.2.getD k 0)) else s
def qih (hops:List (Int×Int)):List Int:=hops.foldl (fun f h=>f.set h.1.toNat (-1)) (List.replicate 25 (-2))
def qaA (hops:List (Int×Int)):List Int:=hops.map (·.1)
def bfsC (hops:List (Int×Int)) (sink:Int) (busy:List Bool):BS:=bfsN busy sink 26 0 (qih hops,qaA hops)
def qcs (fr:List Int):Nat→Int→List (Int×Int)→List (Int×Int)
 | 0,_,acc=>acc
 | f+1,t,acc=>if 0≤fr.getD t.toNat 0 then qcs fr f (fr.getD t.toNat 0) ((t,fr.getD t.toNat 0)::acc) else acc
def qbs (busy:List Bool) (hops:List (Int×Int)) (sink:Int):Option (List (Int×Int)):=
 if sink∈qaA hops then some hops
 else if(bfsC hops sink busy).1.getD sink.toNat 0 = -2 then none else some (hops++qcs (bfsC hops sink busy).1 25 sink [])
def qha (busy:List Bool) (pins:List Int):Option (List (Int×Int)):=
 if busy.getD (pins.getD 0 0).toNat false=true then none else(pins.drop 1).foldl (fun o t=>o.bind fun hops=>qbs busy hops t) (some [(pins.getD 0 0,-1)])
def netB (pins:List Int) (busy:List (List Bool)):Nat→Nat→Option (Nat×List (Int×Int))
 | 0,_=>none
 | f+1,t=>match qha (busy.getD t []) pins with
  | some h=>some (t,h)
  | none=>netB pins busy f (t+1)
structure Rt where
 net:Int
 track:Int
 hops:List (Int×Int)
def rt0:Rt:=⟨0,0,[]⟩
def qe1 (b:List Bool) (hops:List (Int×Int)):List Bool:=hops.foldl (fun b h=>b.set h.1.toNat true) b
def takeB (busy:List (List Bool)) (t:Nat) (hops:List (Int×Int)):List (List Bool):=busy.set t (qe1 (busy.getD t []) hops)
def qcU (c:Circ) (cells:List Cel) (place:List Int) (busy0:List (List Bool)):Nat→Option (List (List Bool)×List Rt)
 | 0=>some (busy0,[])
 | k+1=>
  match qcU c cells place busy0 k with
  | none=>none
  | some (busy,out)=>
   if qdL c cells place ((k:Int)+1)=[] then some (busy,out)
   else match netB (qdL c cells place ((k:Int)+1)) busy 8 0 with
    | none=>none
    | some (t,h)=>some (takeB busy t h,out ++ [⟨(k:Int)+1,(t:Int),h⟩])
def qd4:List (List Bool):=List.replicate 8 (List.replicate 25 false)
def qe2 (c:Circ) (cells:List Cel) (place:List Int) (busy0:List (List Bool)):Option (List Rt):=(qcU c cells place busy0 (c.vars.toNat-1)).map (·.2)
structure BInv (busy:List Bool) (T:List Int) (s:BS):Prop where
 len:s.1.length=25
 rng : ∀ t∈s.2,0≤t∧t≤24
 nd:s.2.Nodup
 seen : ∀ t:Int,0≤t→t≤24→(s.1.getD t.toNat 0≠-2↔t∈s.2)
 pre : ∃ r,s.2=T++r
 root : ∀ j,j<s.2.length→(s.1.getD (s.2.getD j 0).toNat 0 = -1∧s.2.getD j 0∈T)∨
  (0≤s.1.getD (s.2.getD j 0).toNat 0∧s.2.getD j 0∉T∧busy.getD (s.2.getD j 0).toNat false=false∧∃ m,m<j∧s.2.getD m 0=s.1.getD (s.2.getD j 0).toNat 0∧s.2.getD j 0∈nbC (s.1.getD (s.2.getD j 0).toNat 0))
theorem qmP {α : Type}{n i:Nat}{x z : α}(h:i<n):(List.replicate n x).getD i z=x:=by
 rw[List.getD_eq_getElem?_getD,List.getElem?_replicate,if_pos h];rfl
theorem qgV {l:List Int}{x:Int}{j:Nat}(h:j<(l ++ [x]).length):(l ++ [x]).getD j 0=if j<l.length then l.getD j 0 else x:=by
 split
 ·exact qaw (by assumption)
 ·rename_i h1
  have:j=l.length:=by simp at h;omega
  subst this;simp[List.getD]
theorem qe3 {l:List Int}{i j:Nat}{x:Int}(h:i<l.length):(l.set i x).getD j 0=if i=j then x else l.getD j 0:=by
 split
 ·rename_i e;subst e;simp[List.getD,h]
 ·rename_i e;simp[List.getD,List.getElem?_set,e]
theorem BInv.step {busy:List Bool}{T:List Int}{s:BS}(h:BInv busy T s) {q n:Int}(hq:q∈s.2) (hn:n∈nbC q):BInv busy T (qcJ busy q s n):=by
 have hq2:=h.rng q hq
 have hn2:=qpk hq2 n hn
 unfold qcJ
 split
 ·rename_i hc
  have hl:=h.len
  have hnq:n∉s.2:=fun h1=>(h.seen n (by omega) (by omega)).2 h1 hc.1
  obtain⟨r,hr⟩:=h.pre
  have hnT:n∉T:=fun h1=>hnq (by rw[hr];exact List.mem_append_left _ h1)
  have hget : ∀ t:Int,0≤t→t≤24→(s.1.set n.toNat q).getD t.toNat 0=if t=n then q else s.1.getD t.toNat 0:=by
   intro t h1 h2
   rw[qe3 (by omega)]
   by_cases e:t=n
   ·subst e;simp
   ·rw[if_neg (by omega),if_neg e]
  refine⟨by simp[hl],fun t ht=>?_,?_,fun t h1 h2=>?_,⟨r ++ [n],by simp[hr]⟩,fun j hj=>?_⟩
  ·rcases List.mem_append.1 ht with h1|h1
   ·exact h.rng t h1
   ·obtain rfl:t=n:=by simpa using h1
    exact hn2.1
  ·show(s.2 ++ [n]).Nodup
   rw[List.nodup_append]
   exact⟨h.nd,by simp,fun a ha b hb=>by
    obtain rfl:b=n:=by simpa using hb
    rintro rfl
    exact hnq ha⟩
  ·show(s.1.set n.toNat q).getD t.toNat 0≠-2↔t∈s.2 ++ [n]
   rw[hget t h1 h2]
   by_cases e:t=n
   ·subst e
    simp only[if_true,List.mem_append,List.mem_singleton,or_true,iff_true]
    omega
   ·rw[if_neg e,h.seen t h1 h2];simp[e]
  ·simp only at hj ⊢
   rw[qgV hj]
   by_cases hjl:j<s.2.length
   ·rw[if_pos hjl]
    have hm:=h.rng _ (qan hjl:s.2.getD j 0∈s.2)
    rw[hget _ hm.1 hm.2]
    have hne:s.2.getD j 0≠n:=fun e=>hnq (by rw[←e];exact qan hjl)
    rw[if_neg hne]
    rcases h.root j hjl with h1|⟨h1,h2,h3,m,h4,h5,h6⟩
    ·exact .inl h1
    ·exact .inr ⟨h1,h2,h3,m,h4,by rw[qgV (by simp;omega),if_pos (by omega)];exact h5,h6⟩
   ·rw[if_neg hjl]
    have hj2:j=s.2.length:=by simp at hj;omega
    obtain⟨m,hm,he⟩:=qbb 0 hq
    rw[hget n hn2.1.1 hn2.1.2,if_pos rfl]
    exact .inr ⟨hq2.1,hnT,hc.2,m,by omega,by rw[qgV (by simp;omega),if_pos hm];exact he,hn⟩
 ·exact h
theorem qi2 {busy:List Bool}{q n:Int}{s:BS} : ∃ r,(qcJ busy q s n).2=s.2++r:=by
 unfold qcJ;split
 ·exact⟨[n],rfl⟩
 ·exact⟨[],by simp⟩
theorem BInv.steps {busy:List Bool}{T:List Int}{q:Int} : ∀ (l:List Int) {s:BS},BInv busy T s→q∈s.2→(∀ n∈l,n∈nbC q)→BInv busy T (l.foldl (qcJ busy q) s)
 | [],s,h,_,_=>h
 | n::l,s,h,hq,hl=>by
  obtain⟨r,hr⟩:=qi2 (busy:=busy) (q:=q) (n:=n) (s:=s)
  exact BInv.steps l (h.step hq (hl n (by simp))) (by rw[hr];exact List.mem_append_left _ hq) fun m hm=>hl m (by simp[hm])
theorem BInv.visit {busy:List Bool}{T:List Int}{s:BS}(h:BInv busy T s) {q:Int}(hq:q∈s.2):BInv busy T (visitB busy s q):=h.steps _ hq fun _ hn=>hn
theorem BInv.bfs {busy:List Bool}{T:List Int}{sink:Int} : ∀ (f k:Nat) {s:BS},BInv busy T s→BInv busy T (bfsN busy sink f k s)
 | 0,k,s,h=>h
 | f+1,k,s,h=>by
  rw[bfsN]
  split
  ·rename_i hc
   exact BInv.bfs f (k+1) (h.visit (qan hc.1))
  ·exact h
theorem BInv.qlen {busy:List Bool}{T:List Int}{s:BS}(h:BInv busy T s):s.2.length≤25:=by
 have h1:(s.2.map Int.toNat).Nodup:=by
  rw[List.nodup_iff_pairwise_ne,List.pairwise_map]
  refine(List.pairwise_iff_getElem.2 fun i j hi hj hij=>?_)
  have a:=h.rng _ (List.getElem_mem hi)
  have b:=h.rng _ (List.getElem_mem hj)
  have hne:s.2[i]≠s.2[j]:=List.pairwise_iff_getElem.1 (List.nodup_iff_pairwise_ne.1 h.nd) i j hi hj hij
  omega
 have h2:s.2.map Int.toNat ⊆ List.range 25:=by
  intro x hx
  obtain⟨t,ht,rfl⟩:=List.mem_map.1 hx
  have:=h.rng t ht
  exact List.mem_range.2 (by omega)
 have:=h1.length_le_of_subset h2
 simpa using this
structure TreeOk (busy:List Bool) (hops:List (Int×Int)):Prop where
 rng : ∀ h∈hops,0≤h.1∧h.1≤24
 nd:(qaA hops).Nodup
 free : ∀ h∈hops,busy.getD h.1.toNat false=false
 pos:0<hops.length
 root : ∀ j,j<hops.length→(j=0∧(hops.getD j (0,0)).2 = -1)∨(0<j∧∃ m,m<j∧(hops.getD m (0,0)).1=(hops.getD j (0,0)).2∧(hops.getD j (0,0)).1∈nbC (hops.getD j (0,0)).2)
theorem qi3 {hops:List (Int×Int)}(hr : ∀ h∈hops,0≤h.1∧h.1≤24) {t:Int}(h0:0≤t) (h1:t≤24):(qih hops).getD t.toNat 0=if t∈qaA hops then -1 else -2:=by
 have key : ∀ (l:List (Int×Int)) (f:List Int),(∀ h∈l,0≤h.1∧h.1≤24)→f.length=25→(l.foldl (fun f h=>f.set h.1.toNat (-1)) f).getD t.toNat 0=if t∈qaA l then -1 else f.getD t.toNat 0:=by
  intro l
  induction l with
  | nil=>intro f _ _;simp[qaA]
  | cons x l ih=>
   intro f hl hf
   have hx:=hl x (by simp)
   rw[List.foldl_cons,ih _ (fun h hh=>hl h (by simp[hh])) (by simp[hf]),qe3 (by omega)]
   have hm:t∈qaA (x::l)↔t=x.1∨t∈qaA l:=by simp[qaA]
   by_cases e:t∈qaA l
   ·rw[if_pos e,if_pos (hm.2 (.inr e))]
   ·rw[if_neg e]
    by_cases e2:t=x.1
    ·rw[if_pos (by omega),if_pos (hm.2 (.inl e2))]
    ·rw[if_neg (by omega),if_neg (fun h=>by rcases hm.1 h with h|h <;> contradiction)]
 rw[qih,key hops _ hr (by simp)]
 rw[qmP (by omega)]
theorem qi4 {hops:List (Int×Int)}:(qih hops).length=25:=by
 have key : ∀ (l:List (Int×Int)) (f:List Int),(l.foldl (fun f h=>f.set h.1.toNat (-1)) f).length=f.length:=by
  intro l
  induction l with
  | nil=>exact fun f=>rfl
  | cons x l ih=>intro f;rw[List.foldl_cons,ih,List.length_set]
 rw[qih,key];simp
theorem binv0 {busy:List Bool}{hops:List (Int×Int)}(hr : ∀ h∈hops,0≤h.1∧h.1≤24) (hn:(qaA hops).Nodup):BInv busy (qaA hops) (qih hops,qaA hops):=by
 have hrt : ∀ t∈qaA hops,0≤t∧t≤24:=fun t ht=>by
  obtain⟨h,hh,rfl⟩:=List.mem_map.1 ht
  exact hr h hh
 refine⟨qi4,hrt,hn,fun t h0 h1=>?_,⟨[],by simp⟩,fun j hj=>?_⟩
 ·rw[qi3 hr h0 h1]
  split <;> simp_all
 ·have hm:(qaA hops).getD j 0∈qaA hops:=qan hj
  have:=hrt _ hm
  exact .inl ⟨by rw[qi3 hr this.1 this.2,if_pos hm],hm⟩
theorem qkE {busy:List Bool}{hops:List (Int×Int)}(h:TreeOk busy hops) (sink:Int):BInv busy (qaA hops) (bfsC hops sink busy):=(binv0 h.rng h.nd).bfs 26 0
theorem qfp {fr:List Int} : ∀ (f:Nat) (t:Int) (acc:List (Int×Int)),qcs fr f t acc=qcs fr f t []++acc
 | 0,t,acc=>by simp[qcs]
 | f+1,t,acc=>by
  simp only[qcs]
  split
  ·rw[qfp f _ ((t,_)::acc),qfp f _ [(t,_)]]
   simp
  ·simp
structure ChainOk (busy:List Bool) (T:List Int) (s:BS) (t:Int) (p:Nat) (L:List (Int×Int)):Prop where
 each : ∀ h∈L,(0≤h.1∧h.1≤24)∧busy.getD h.1.toNat false=false∧h.1∉T∧h.1∈nbC h.2∧∃ m,m≤p∧s.2.getD m 0=h.1
 nd:(qaA L).Nodup
 link : ∀ j,j<L.length→(j=0∧(L.getD j (0,0)).2∈T)∨(0<j∧(L.getD j (0,0)).2=(L.getD (j-1) (0,0)).1)
 last:(t∈T∧L=[])∨(t∉T∧∃ r x,L=r ++ [(t,x)])
theorem qkF {busy:List Bool}{T:List Int}{s:BS}(h:BInv busy T s) : ∀ (f p:Nat),p<f→p<s.2.length→ChainOk busy T s (s.2.getD p 0) p (qcs s.1 f (s.2.getD p 0) [])
 | 0,p,hp,_=>by omega
 | f+1,p,hp,hl=>by
  have hpm:s.2.getD p 0∈s.2:=qan hl
  have hpr:=h.rng _ hpm
  simp only[qcs]
  rcases h.root p hl with⟨h1,h2⟩|⟨h1,h2,h3,m,h4,h5,h6⟩
  ·rw[if_neg (by omega)]
   exact⟨by simp,by simp[qaA],by simp,.inl ⟨h2,rfl⟩⟩
  ·rw[if_pos h1,qfp,←h5]
   have ih:=qkF h f m (by omega) (by omega)
   generalize qcs s.1 f (s.2.getD m 0) []=L at *
   have hndq:=qfo.1 h.nd
   refine⟨fun x hx=>?_,?_,fun j hj=>?_,.inr ⟨h2,L,_,rfl⟩⟩
   ·rcases List.mem_append.1 hx with hx|hx
    ·obtain⟨a1,a2,a3,a4,k,a5,a6⟩:=ih.each x hx
     exact⟨a1,a2,a3,a4,k,by omega,a6⟩
    ·obtain rfl:x=(s.2.getD p 0,s.2.getD m 0):=by simpa using hx
     exact⟨hpr,h3,h2,by simp only;rw[h5];exact h6,p,by omega,rfl⟩
   ·have e:qaA (L ++ [(s.2.getD p 0,s.2.getD m 0)])=qaA L ++ [s.2.getD p 0]:=by simp[qaA]
    rw[e,List.nodup_append]
    refine⟨ih.nd,by simp,fun a ha b hb=>?_⟩
    obtain rfl:b=s.2.getD p 0:=by simpa using hb
    rintro rfl
    obtain⟨x,hx,hxe⟩:=List.mem_map.1 ha
    obtain⟨-,-,-,-,k,a5,a6⟩:=ih.each x hx
    have:=hndq k p (by omega) hl (by rw[a6,hxe])
    omega
   ·have hjl:j≤L.length:=by simp at hj;omega
    by_cases hjL:j<L.length
    ·have e1:(L ++ [(s.2.getD p 0,s.2.getD m 0)]).getD j (0,0)=L.getD j (0,0):=qaw hjL
     have e2:(L ++ [(s.2.getD p 0,s.2.getD m 0)]).getD (j-1) (0,0)=L.getD (j-1) (0,0):=qaw (by omega)
     rw[e1,e2]
     exact ih.link j hjL
    ·obtain rfl:j=L.length:=by omega
     have e1:(L ++ [(s.2.getD p 0,s.2.getD m 0)]).getD L.length (0,0)=(s.2.getD p 0,s.2.getD m 0):=by simp[List.getD]
     rw[e1]
     rcases ih.last with⟨b1,b2⟩|⟨b1,r,x,b2⟩
     ·exact .inl ⟨by rw[b2];rfl,b1⟩
     ·right
      have hpos:0<L.length:=by rw[b2];simp
      have e2:(L ++ [(s.2.getD p 0,s.2.getD m 0)]).getD (L.length-1) (0,0)=(s.2.getD m 0,x):=by
       rw[qaw (by omega),b2]
       simp[List.getD]
      rw[e2]
      exact⟨hpos,rfl⟩
theorem qf7 {busy:List Bool}{hops:List (Int×Int)}(h:TreeOk busy hops):hops.length≤25:=by
 have:=(binv0 (busy:=busy) h.rng h.nd).qlen
 simpa [qaA] using this
theorem qi5 {busy:List Bool}{hops:List (Int×Int)}(h:TreeOk busy hops) {sink:Int}(hs:0≤sink∧sink≤24) {hops':List (Int×Int)}(he:qbs busy hops sink=some hops') :
  TreeOk busy hops'∧sink∈qaA hops'∧∃ r,hops'=hops++r:=by
 unfold qbs at he
 split at he
 ·rename_i h1
  cases he
  exact⟨h,h1,[],by simp⟩
 ·rename_i h1
  split at he
  ·cases he
  ·rename_i h2
   cases he
   have hb:=qkE h sink
   generalize bfsC hops sink busy=s at *
   have hm:=(hb.seen sink hs.1 hs.2).1 h2
   obtain⟨p,hp,hpe⟩:=qbb 0 hm
   have hql:=hb.qlen
   have hc:=qkF hb 25 p (by omega) hp
   rw[hpe] at hc
   generalize qcs s.1 25 sink []=L at *
   have hlast : ∃ r x,L=r ++ [(sink,x)]:=by
    rcases hc.last with⟨b1,b2⟩|⟨b1,b2⟩
    ·exact absurd b1 h1
    ·exact b2
   have hin:sink∈qaA (hops++L):=by
    obtain⟨r,x,e⟩:=hlast
    rw[e];simp[qaA]
   refine⟨⟨fun x hx=>?_,?_,fun x hx=>?_,by have:=h.pos;simp;omega,fun j hj=>?_⟩,hin,L,rfl⟩
   ·rcases List.mem_append.1 hx with h3|h3
    ·exact h.rng x h3
    ·exact(hc.each x h3).1
   ·have e:qaA (hops++L)=qaA hops++qaA L:=by simp[qaA]
    rw[e,List.nodup_append]
    refine⟨h.nd,hc.nd,fun a ha b hb2=>?_⟩
    rintro rfl
    obtain⟨x,hx,rfl⟩:=List.mem_map.1 hb2
    exact(hc.each x hx).2.2.1 ha
   ·rcases List.mem_append.1 hx with h3|h3
    ·exact h.free x h3
    ·exact(hc.each x h3).2.1
   ·by_cases hjl:j<hops.length
    ·rw[qaw hjl]
     rcases h.root j hjl with h3|⟨h3,m,h4,h5,h6⟩
     ·exact .inl h3
     ·exact .inr ⟨h3,m,h4,by rw[qaw (by omega)];exact h5,h6⟩
    ·right
     have hj2:j-hops.length<L.length:=by simp at hj;omega
     have e1:(hops++L).getD j (0,0)=L.getD (j-hops.length) (0,0):=by
      simp[List.getD,List.getElem?_append_right (by omega:hops.length≤j)]
     have hmem:L.getD (j-hops.length) (0,0)∈L:=qan hj2
     have hnb:=(hc.each _ hmem).2.2.2.1
     refine⟨by have:=h.pos;omega,?_⟩
     rw[e1]
     rcases hc.link _ hj2 with⟨b1,b2⟩|⟨b1,b2⟩
     ·obtain⟨x,hx,hxe⟩:=List.mem_map.1 b2
      obtain⟨m,hm2,hme⟩:=qbb (0,0) hx
      exact⟨m,by omega,by rw[qaw hm2,hme];exact hxe,hnb⟩
     ·refine⟨j-1,by omega,?_,hnb⟩
      have e2:(hops++L).getD (j-1) (0,0)=L.getD (j-hops.length-1) (0,0):=by
       simp[List.getD,List.getElem?_append_right (by omega:hops.length≤j-1),show j-1-hops.length=j-hops.length-1 by omega]
      rw[e2,b2]
theorem qkG {busy:List Bool}{pins:List Int}(hp : ∀ t∈pins,0≤t∧t≤24) (hne:pins≠[]) {hops:List (Int×Int)}(h:qha busy pins=some hops) :
  TreeOk busy hops∧(∀ t∈pins,t∈qaA hops)∧∃ r,hops=(pins.getD 0 0,-1)::r:=by
 unfold qha at h
 split at h
 ·cases h
 ·rename_i hb
  have h0m:pins.getD 0 0∈pins:=qan (List.length_pos_iff.2 hne)
  have h0:=hp _ h0m
  have base:TreeOk busy [(pins.getD 0 0,-1)]:=by
   refine⟨fun x hx=>?_,by simp[qaA],fun x hx=>?_,by simp,fun j hj=>?_⟩
   ·obtain rfl:x=(pins.getD 0 0,-1):=by simpa using hx
    exact h0
   ·obtain rfl:x=(pins.getD 0 0,-1):=by simpa using hx
    simpa using hb
   ·obtain rfl:j=0:=by simpa using hj
    exact .inl ⟨rfl,rfl⟩
  have key : ∀ (l:List Int) (hs:List (Int×Int)),(∀ t∈l,0≤t∧t≤24)→TreeOk busy hs→l.foldl (fun o t=>o.bind fun hops=>qbs busy hops t) (some hs)=some hops→TreeOk busy hops∧(∀ t∈l,t∈qaA hops)∧∃ r,hops=hs++r:=by
   intro l
   induction l with
   | nil=>
    intro hs _ ht he
    obtain rfl:hs=hops:=by simpa using he
    exact⟨ht,by simp,[],by simp⟩
   | cons t l ih=>
    intro hs hl ht he
    rw[List.foldl_cons] at he
    simp only[Option.bind_some] at he
    cases hx:qbs busy hs t with
    | none=>
     rw[hx] at he
     have hnone : ∀ (l:List Int),l.foldl (fun o t=>o.bind fun hops=>qbs busy hops t) (none:Option (List (Int×Int)))=none:=by
      intro l
      induction l with
      | nil=>rfl
      | cons a l ih2=>exact ih2
     rw[hnone] at he
     cases he
    | some h2=>
     rw[hx] at he
     obtain⟨a1,a2,r1,a3⟩:=qi5 ht (hl t (by simp)) hx
     obtain⟨b1,b2,r2,b3⟩:=ih h2 (fun z hz=>hl z (by simp[hz])) a1 he
     refine⟨b1,fun z hz=>?_,r1++r2,by rw[b3,a3,List.append_assoc]⟩
     rcases List.mem_cons.1 hz with rfl|h3
     ·rw[b3]
      simp only[qaA,List.map_append,List.mem_append]
      exact .inl a2
     ·exact b2 z h3
  obtain⟨a1,a2,r,a3⟩:=key _ _ (fun t ht=>hp t (List.mem_of_mem_drop ht)) base h
  refine⟨a1,fun t ht=>?_,r,a3⟩
  obtain⟨j,hj,rfl⟩:=qbb 0 ht
  cases j with
  | zero=>rw[a3];simp[qaA]
  | succ j=>
   refine a2 _ ?_
   have e:(pins.drop 1).getD j 0=pins.getD (j+1) 0:=by simp[List.getD,Nat.add_comm]
   rw[←e]
   exact qan (by simp;omega)
theorem qjY {pins:List Int}{busy:List (List Bool)} : ∀ (f t:Nat) {u:Nat}{h:List (Int×Int)},netB pins busy f t=some (u,h)→t≤u∧u<t+f∧qha (busy.getD u []) pins=some h∧∀ v,t≤v→v<u→qha (busy.getD v []) pins=none
 | 0,t,u,h,e=>by simp[netB] at e
 | f+1,t,u,h,e=>by
  simp only[netB] at e
  split at e
  ·rename_i h2 he
   simp only[Option.some.injEq,Prod.mk.injEq] at e
   obtain⟨rfl,rfl⟩:=e
   exact⟨by omega,by omega,he,by omega⟩
  ·rename_i he
   obtain⟨a,b,c,d⟩:=qjY f (t+1) e
   refine⟨by omega,by omega,c,fun v h1 h2=>?_⟩
   by_cases hv:v=t
   ·subst hv;exact he
   ·exact d v (by omega) h2
end Go.VL
