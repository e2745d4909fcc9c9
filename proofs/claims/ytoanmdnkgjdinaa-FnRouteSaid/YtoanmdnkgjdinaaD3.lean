/- Contracts, plain definitions and lemmas. Conditions: none; lemmas. -/
import Derived.Test.YtoanmdnkgjdinaaC64
import Derived.Test.YtoanmdnkgjdinaaC71
set_option linter.unusedVariables false
set_option linter.unusedSimpArgs false
namespace Go.VL
def visV (busy:List Bool) (s0:BS):Nat→BS
 | 0=>s0
 | k+1=>visitB busy (visV busy s0 k) ((visV busy s0 k).2.getD k 0)
def MonoB (s s':BS):Prop:=(∃ r,s'.2=s.2++r)∧∀ t:Int,0≤t→t≤24→s.1.getD t.toNat 0≠-2→s'.1.getD t.toNat 0=s.1.getD t.toNat 0
theorem MonoB.rfl (s:BS):MonoB s s:=⟨⟨[],by simp⟩,fun _ _ _ _=>Eq.refl _⟩
theorem MonoB.trans {a b c:BS}(h:MonoB a b) (g:MonoB b c):MonoB a c:=by
 obtain⟨⟨r,hr⟩,h2⟩:=h
 obtain⟨⟨u,hu⟩,g2⟩:=g
 refine⟨⟨r++u,by rw[hu,hr,List.append_assoc]⟩,fun t h0 h1 ht=>?_⟩
 have e:=h2 t h0 h1 ht
 rw[g2 t h0 h1 (by rw[e];exact ht),e]
theorem qiz {busy:List Bool}{T:List Int}{s:BS}(h:BInv busy T s) {q n:Int}(hn:0≤n∧n≤24):MonoB s (qcz busy q s n):=by
 refine⟨qhL,fun t h0 h1 ht=>?_⟩
 unfold qcz
 split
 ·rename_i hc
  have hl:=h.len
  rw[qez (by omega),if_neg]
  intro e
  have:t=n:=by omega
  subst this
  exact ht hc.1
 ·rfl
theorem qiA {busy:List Bool}{T:List Int}{q:Int} : ∀ (l:List Int) {s:BS},BInv busy T s→q∈s.2→(∀ n∈l,n∈nbC q)→MonoB s (l.foldl (qcz busy q) s)
 | [],s,h,_,_=>MonoB.rfl s
 | n::l,s,h,hq,hl=>by
  have hn:=qj3 (h.rng q hq) n (hl n (by simp))
  have m1:=qiz h (q:=q) hn.1
  obtain⟨r,hr⟩:=m1.1
  exact m1.trans (qiA l (h.step hq (hl n (by simp))) (by rw[hr];exact List.mem_append_left _ hq) fun m hm=>hl m (by simp[hm]))
theorem ql3 {busy:List Bool}{T:List Int}{s:BS}(h:BInv busy T s) {q:Int}(hq:q∈s.2):MonoB s (visitB busy s q):=qiA _ h hq fun _ hn=>hn
theorem qd4 {busy:List Bool}{T:List Int}{s0:BS}(h:BInv busy T s0) : ∀ k,(∀ j,j<k→j<(visV busy s0 j).2.length)→BInv busy T (visV busy s0 k)
 | 0,_=>h
 | k+1,hj=>(qd4 h k fun j hjk=>hj j (by omega)).visit (qaj (hj k (by omega)))
theorem qeA {busy:List Bool}{T:List Int}{s0:BS}(h:BInv busy T s0) {j:Nat} : ∀ k,j≤k→(∀ i,i<k→i<(visV busy s0 i).2.length)→MonoB (visV busy s0 j) (visV busy s0 k)
 | 0,hk,_=>by
          obtain rfl:j=0:=by omega
          exact MonoB.rfl _
 | k+1,hk,hi=>by
  by_cases e:j=k+1
  ·subst e;exact MonoB.rfl _
  ·exact(qeA h k (by omega) fun i hik=>hi i (by omega)).trans (ql3 (qd4 h k fun i hik=>hi i (by omega)) (qaj (hi k (by omega))))
theorem qiB {busy:List Bool}{T:List Int}{s s':BS}(h:BInv busy T s) (hm:MonoB s s') : ∀ (f p:Nat) (acc:List (Int×Int)),p<s.2.length→qbT s'.1 f (s.2.getD p 0) acc=qbT s.1 f (s.2.getD p 0) acc
 | 0,p,acc,_=>rfl
 | f+1,p,acc,hp=>by
  have hpm:s.2.getD p 0∈s.2:=qaj hp
  have hr:=h.rng _ hpm
  have e:=hm.2 _ hr.1 hr.2 ((h.seen _ hr.1 hr.2).2 hpm)
  simp only[qbT,e]
  rcases h.root p hp with⟨h1,-⟩|⟨h1,-,-,m,h4,h5,-⟩
  ·rw[if_neg (by omega),if_neg (by omega)]
  ·rw[if_pos h1,if_pos h1,←h5]
   exact qiB h hm f m _ (by omega)
theorem qkP {busy:List Bool}{T:List Int}{s0:BS}(h:BInv busy T s0) {sink:Int} : ∀ (f k:Nat),f+k=26→(∀ j,j<k→j<(visV busy s0 j).2.length∧(visV busy s0 j).1.getD sink.toNat 0 = -2)→
  ∃ K,bfsN busy sink f k (visV busy s0 k)=visV busy s0 K∧(∀ j,j<K→j<(visV busy s0 j).2.length∧(visV busy s0 j).1.getD sink.toNat 0 = -2)∧¬ (K<(visV busy s0 K).2.length∧(visV busy s0 K).1.getD sink.toNat 0 = -2)
 | 0,k,hk,hj=>by
  have h1:=(qd4 h k fun j hjk=>(hj j hjk).1).qlen
  exact⟨k,rfl,hj,fun hc=>by omega⟩
 | f+1,k,hk,hj=>by
  rw[bfsN]
  split
  ·rename_i hc
   exact qkP h f (k+1) (by omega) fun j hjk=>by
    by_cases e:j=k
    ·subst e;exact hc
    ·exact hj j (by omega)
  ·rename_i hc
   exact⟨k,rfl,hj,hc⟩
def vis0 (hops:List (Int×Int)):BS:=(qff hops,qap hops)
theorem qpv {busy:List Bool}{hops:List (Int×Int)}(h:TreeOk busy hops) {sink:Int}(hs:0≤sink∧sink≤24) {k:Nat}(hj : ∀ j,j<k→j<(visV busy (vis0 hops) j).2.length) (hk:k=(visV busy (vis0 hops) k).2.length) (hn:sink∉(visV busy (vis0 hops) k).2):qaK busy hops sink=none:=by
 have hb:=ql2 (busy:=busy) h.rng h.nd
 obtain⟨K,e,hK,hK2⟩:=qkP hb (sink:=sink) 26 0 rfl (fun j hj=>by omega)
 have e2:bfsC hops sink busy=visV busy (vis0 hops) K:=e
 have hnt:sink∉qap hops:=fun hm=>by
  obtain⟨r,hr⟩:=(qeA hb (j:=0) k (by omega) hj).1
  exact hn (show sink∈(visV busy (qff hops,qap hops) k).2 by rw[hr];exact List.mem_append_left _ hm)
 rw[qaK,if_neg hnt,e2,if_pos]
 refine Decidable.byContradiction fun hf=>?_
 have hKi:=qd4 hb K fun j hjK=>(hK j hjK).1
 have hm:=(hKi.seen sink hs.1 hs.2).1 hf
 by_cases hle:K≤k
 ·obtain⟨r,hr⟩:=(qeA hb (j:=K) k hle hj).1
  exact hn (show sink∈(visV busy (qff hops,qap hops) k).2 by rw[hr];exact List.mem_append_left _ hm)
 ·have:=(hK k (by omega)).1
  simp only[vis0] at hk
  omega
theorem qpw {busy:List Bool}{hops:List (Int×Int)}(h:TreeOk busy hops) {sink:Int}(hs:0≤sink∧sink≤24) {k:Nat}(hj : ∀ j,j<k→j<(visV busy (vis0 hops) j).2.length) (hk:k<(visV busy (vis0 hops) k).2.length) (hn:(visV busy (vis0 hops) k).2.getD k 0=sink) :
  qaK busy hops sink=some (hops++qbT (visV busy (vis0 hops) k).1 25 sink []):=by
 have hb:=ql2 (busy:=busy) h.rng h.nd
 have hki:=qd4 hb k hj
 by_cases ht:sink∈qap hops
 ·rw[qaK,if_pos ht]
  have hm:=qeA hb (j:=0) k (by omega) hj
  have h0:(qff hops).getD sink.toNat 0 = -1:=by rw[qfQ h.rng hs.1 hs.2,if_pos ht]
  have e:=hm.2 sink hs.1 hs.2 (by show(qff hops).getD sink.toNat 0≠-2;rw[h0];decide)
  have e1:(visV busy (vis0 hops) k).1.getD sink.toNat 0 = -1:=e.trans h0
  have e2:qbT (visV busy (vis0 hops) k).1 25 sink []=[]:=by
   rw[show(25:Nat)=24+1 from rfl]
   simp only[qbT]
   rw[if_neg (by omega)]
  rw[e2,List.append_nil]
 ·obtain⟨K,e,hK,hK2⟩:=qkP hb (sink:=sink) 26 0 rfl (fun j hj=>by omega)
  have e2:bfsC hops sink busy=visV busy (vis0 hops) K:=e
  rw[qaK,if_neg ht,e2]
  have hsk:(visV busy (vis0 hops) k).1.getD sink.toNat 0≠-2:=(hki.seen sink hs.1 hs.2).2 (by rw[←hn];exact qaj hk)
  have hle:K≤k:=Decidable.byContradiction fun hgt=>hsk (hK k (by omega)).2
  have hKi:=qd4 hb K fun j hjK=>(hK j hjK).1
  have hm:=qeA hb (j:=K) k hle hj
  have hf:(visV busy (vis0 hops) K).1.getD sink.toNat 0≠-2:=fun hf=>by
   have h1 : ¬ K<(visV busy (vis0 hops) K).2.length:=fun h1=>hK2 ⟨h1,hf⟩
   by_cases e3:K=k
   ·subst e3;exact h1 hk
   ·exact h1 (hj K (by omega))
  rw[if_neg hf]
  obtain⟨p,hp,hpe⟩:=qbk 0 ((hKi.seen sink hs.1 hs.2).1 hf)
  have:=qiB hKi hm 25 p [] hp
  rw[hpe] at this
  exact congrArg (fun x=>some (hops++x)) this.symm
end Go.VL

set_option linter.unusedVariables false
set_option linter.unusedSimpArgs false
namespace Go.VL
def qdq (cells:List Cel) (v:Int):Nat→Int
 | 0=>-1
 | i+1=>if(cells.getD i ce0).net=v then(i:Int) else qdq cells v i
structure Nin where
 net:Int
 cell:Int
 tile:Int
 sinks:List Int
 pads:List Int
def nin0:Nin:=⟨0,0,0,[],[]⟩
def ninC (c:Circ) (cells:List Cel) (v:Int):Nin:=⟨v,qdq cells v cells.length,(v-1)*5,qcO cells v,qaV c v c.outs.length⟩
def qdN (c:Circ) (cells:List Cel):Nat→List Nin
 | 0=>[]
 | k+1=>qdN c cells k++(if 0<(ninC c cells ((k:Int)+1)).sinks.length+(ninC c cells ((k:Int)+1)).pads.length then [ninC c cells ((k:Int)+1)] else [])
def qkQ (c:Circ) (cells:List Cel):List Nin:=qdN c cells (c.vars.toNat-1)
def srcT (n:Nin) (place:List Int):Int:=if 0≤n.cell then place.getD n.cell.toNat 0 else n.tile
def qb8 (n:Nin) (place:List Int):List Int:=srcT n place::(n.sinks.map (qbA place)++n.pads)
theorem qj7 {cells:List Cel}(ha:cells.Pairwise fun a b=>a.net<b.net) (place:List Int) (v:Int) : ∀ n,n≤cells.length→
  (∃ j:Nat,j<n∧(cells.getD j ce0).net=v∧qa3 cells place v n=[place.getD j 0]∧qdq cells v n=(j:Int))∨((∀ j,j<n→(cells.getD j ce0).net≠v)∧qa3 cells place v n=[]∧qdq cells v n = -1)
 | 0,_=>.inr ⟨by omega,rfl,rfl⟩
 | n+1,hn=>by
  have hlt : ∀ j,j<n→(cells.getD j ce0).net<(cells.getD n ce0).net:=fun j hj=>by
   have:=List.pairwise_iff_getElem.1 ha j n (by omega) (by omega) hj
   simpa [List.getD,show j<cells.length by omega,show n<cells.length by omega] using this
  rcases qj7 ha place v n (by omega) with⟨j,h1,h2,h3,h4⟩|⟨h1,h2,h3⟩
  ·have:=hlt j h1
   left
   refine⟨j,by omega,h2,?_,?_⟩
   ·rw[qa3,h3,if_neg (by omega)];simp
   ·rw[qdq,if_neg (by omega),h4]
  ·by_cases e:(cells.getD n ce0).net=v
   ·left
    refine⟨n,by omega,e,?_,?_⟩
    ·rw[qa3,h2,if_pos e];simp
    ·rw[qdq,if_pos e]
   ·right
    refine⟨fun j hj=>?_,?_,?_⟩
    ·by_cases e2:j=n
     ·rw[e2];exact e
     ·exact h1 j (by omega)
    ·rw[qa3,h2,if_neg e];simp
    ·rw[qdq,if_neg e,h3]
theorem qcx (c:Circ) (i:Nat):(qbv c i).net=c.inputs+1+(i:Int):=by unfold qbv;split <;> rfl
theorem ql4 {c:Circ}(hc:c.Valid):(qaq c).Pairwise fun a b=>a.net<b.net:=by
 have hok:=qd2 hc
 have hfd:c.first=1+c.inputs+(c.next.length:Int):=rfl
 rw[qaq,List.pairwise_append]
 refine⟨?_,?_,fun a ha b hb=>?_⟩
 ·rw[List.pairwise_map]
  refine(List.pairwise_lt_range).imp fun {i j} h=>?_
  rw[qcx,qcx];omega
 ·rw[List.pairwise_map]
  exact hok.asc
 ·obtain⟨i,hi,rfl⟩:=List.mem_map.1 ha
  obtain⟨l,hl,rfl⟩:=List.mem_map.1 hb
  obtain⟨j,-,rfl⟩:=hok.each l hl
  have:=List.mem_range.1 hi
  rw[qcx]
  show _<c.first+(j:Int)
  omega
theorem ql5 {c:Circ}(hc:c.Valid) : ∀ x∈qaq c,c.inputs<x.net∧x.net<c.vars:=by
 have hok:=qd2 hc
 have hfd:c.first=1+c.inputs+(c.next.length:Int):=rfl
 have hvv:c.vars=c.first+(c.gates.length:Int):=rfl
 intro x hx
 rcases List.mem_append.1 hx with h|h
 ·obtain⟨i,hi,rfl⟩:=List.mem_map.1 h
  have:=List.mem_range.1 hi
  rw[qcx];omega
 ·obtain⟨l,hl,rfl⟩:=List.mem_map.1 h
  obtain⟨j,hj,rfl⟩:=hok.each l hl
  show _<c.first+(j:Int)∧c.first+(j:Int)<_
  omega
theorem qeB {c:Circ}(hc:c.Valid) : ∀ x∈qaq c,x.inputs.length≤3∧x.inputs.Nodup∧∀ z∈x.inputs,1≤z∧z<c.vars:=by
 have hok:=qd2 hc
 have hvv:c.vars=c.first+(c.gates.length:Int):=rfl
 intro x hx
 rcases List.mem_append.1 hx with h|h
 ·obtain⟨i,hi,rfl⟩:=List.mem_map.1 h
  have hi2:=List.mem_range.1 hi
  have hno:=hc.n _ (qaj hi2:c.next.getD i 0∈c.next)
  unfold qbc at hno
  unfold qbv
  split
  ·refine⟨by simp,by simp,fun z hz=>?_⟩
   obtain rfl:z=c.next.getD i 0/2:=by simpa using hz
   omega
  ·exact⟨by simp,by simp,by simp⟩
 ·obtain⟨l,hl,rfl⟩:=List.mem_map.1 h
  obtain⟨j,hj,rfl⟩:=hok.each l hl
  obtain⟨b1,b2,b3⟩:=qd0 hc hj
  refine⟨b2,?_,fun z hz=>?_⟩
  ·exact List.nodup_iff_pairwise_ne.2 (List.Pairwise.imp (fun {a b} h=>by omega) b1)
  ·have:=b3 z hz
   omega
theorem cell_of {c:Circ}(hc:c.Valid) {v:Int}(h0:c.inputs<v) (h1:v<c.vars) (hu:v∈qa9 c∨∃ x∈qaq c,v∈x.inputs) : ∃ x∈qaq c,x.net=v:=by
 have hfd:c.first=1+c.inputs+(c.next.length:Int):=rfl
 have hvv:c.vars=c.first+(c.gates.length:Int):=rfl
 by_cases hl:v<c.first
 ·obtain⟨i,rfl⟩ : ∃ i:Nat,v=c.inputs+1+(i:Int):=⟨(v-c.inputs-1).toNat,by omega⟩
  exact⟨qbv c i,List.mem_append_left _ (List.mem_map.2 ⟨i,List.mem_range.2 (by omega),rfl⟩),qcx c i⟩
 ·obtain⟨i,rfl⟩ : ∃ i:Nat,v=c.first+(i:Int):=⟨(v-c.first).toNat,by omega⟩
  have hin:qfM c i∈qdo c:=by
   rw[qpu hc (by omega)]
   rcases hu with h|⟨x,hx,hxi⟩
   ·exact .inl h
   ·rcases List.mem_append.1 hx with h|h
    ·obtain⟨k,hk,rfl⟩:=List.mem_map.1 h
     have hk2:=List.mem_range.1 hk
     left
     unfold qbv at hxi
     split at hxi
     ·obtain h3:c.first+(i:Int)=c.next.getD k 0/2:=by simpa using hxi
      rw[h3]
      exact List.mem_map.2 ⟨_,List.mem_append_right _ (qaj hk2),rfl⟩
     ·simp at hxi
    ·obtain⟨l,hl2,rfl⟩:=List.mem_map.1 h
     exact .inr ⟨l,hl2,hxi⟩
  exact⟨qbo (qfM c i),List.mem_append_right _ (List.mem_map.2 ⟨_,hin,rfl⟩),rfl⟩
theorem src_one {c:Circ}(hc:c.Valid) (place:List Int) {v:Int}(h0:1≤v) (h1:v<c.vars) (hu:qaL c (qaq c) place v≠[]) :
  qgJ c v++qa3 (qaq c) place v (qaq c).length=[srcT (ninC c (qaq c) v) place]:=by
 have ha:=ql4 hc
 have hn:=ql5 hc
 unfold qgJ
 have hT:srcT (ninC c (qaq c) v) place=if 0≤qdq (qaq c) v (qaq c).length then place.getD (qdq (qaq c) v (qaq c).length).toNat 0 else(v-1)*5:=rfl
 rw[hT]
 rcases qj7 ha place v (qaq c).length (Nat.le_refl _) with⟨j,h2,h3,h4,h5⟩|⟨h2,h3,h4⟩
 ·have:=hn _ (qaj h2:(qaq c).getD j ce0∈qaq c)
  rw[h4,h5,if_neg (by omega),if_pos (by omega)]
  simp
 ·rw[h3,h4,if_neg (show ¬ (0:Int)≤-1 by decide)]
  by_cases hi:v≤c.inputs
  ·rw[if_pos ⟨h0,hi⟩];simp
  ·exfalso
   have:v∈qa9 c∨∃ x∈qaq c,v∈x.inputs:=by
    cases hs:qaL c (qaq c) place v with
    | nil=>exact absurd hs hu
    | cons t r=>
     have ht:t∈qaL c (qaq c) place v:=by rw[hs];simp
     rcases qfN.1 ht with⟨i,g1,g2,-⟩|⟨o,g1,g2,-⟩
     ·exact .inr ⟨_,qaj g1,g2⟩
     ·left
      rw[←g2]
      exact List.mem_map.2 ⟨_,List.mem_append_left _ (qaj g1),rfl⟩
   obtain⟨x,hx,hxv⟩:=cell_of hc (by omega) h1 this
   obtain⟨j,hj,rfl⟩:=qbk ce0 hx
   exact h2 j hj hxv
theorem qfV {busy:List Bool} : ∀ (l:List Int),l.foldl (fun o t=>o.bind fun hops=>qaK busy hops t) (none:Option (List (Int×Int)))=none
 | []=>rfl
 | _::l=>qfV l
theorem qkR {busy:List Bool} : ∀ (l out:List Int) (hs:List (Int×Int)),(∀ t∈l,0≤t∧t≤24)→TreeOk busy hs→(∀ t∈out,t∈qap hs)→
  l.foldl (fun o t=>o.bind fun hops=>qaK busy hops t) (some hs)=((l.foldl addU out).drop out.length).foldl (fun o t=>o.bind fun hops=>qaK busy hops t) (some hs)
 | [],out,hs,_,_,_=>by simp
 | t::l,out,hs,hl,ht,ho=>by
  rw[List.foldl_cons,List.foldl_cons,Option.bind_some]
  by_cases hm:t∈out
  ·rw[show addU out t=out by unfold addU;rw[if_pos hm],show qaK busy hs t=some hs by rw[qaK,if_pos (ho t hm)]]
   exact qkR l out hs (fun z hz=>hl z (by simp[hz])) ht ho
  ·obtain⟨r,hr⟩:=qfO (l:=l) (out:=out ++ [t])
   have e0:addU out t=out ++ [t]:=by unfold addU;rw[if_neg hm]
   have e1:((l.foldl addU (addU out t)).drop out.length)=t::((l.foldl addU (addU out t)).drop (addU out t).length):=by
    rw[e0,hr,List.append_assoc]
    simp
   rw[e1,List.foldl_cons,Option.bind_some]
   cases he:qaK busy hs t with
   | none=>rw[qfV,qfV]
   | some h2=>
    obtain⟨a1,a2,r1,a3⟩:=qfR ht (hl t (by simp)) he
    refine qkR l (addU out t) h2 (fun z hz=>hl z (by simp[hz])) a1 fun z hz=>?_
    rcases qlq.1 hz with h|rfl
    ·rw[a3]
     simp only[qap,List.map_append,List.mem_append]
     exact .inl (ho z h)
    ·exact a2
theorem qnH {busy:List Bool}{s:Int}{l:List Int}(hs:0≤s∧s≤24) (hl : ∀ t∈l,0≤t∧t≤24):qd3 busy (s::l)=qd3 busy (l.foldl addU [s]):=by
 obtain⟨r,hr⟩:=qfO (l:=l) (out:=[s])
 have e0:(l.foldl addU [s]).getD 0 0=s:=by rw[hr];rfl
 unfold qd3
 rw[e0,show(s::l).getD 0 0=s from rfl]
 by_cases hb:busy.getD s.toNat false=true
 ·rw[if_pos hb,if_pos hb]
 ·rw[if_neg hb,if_neg hb]
  refine qkR l [s] [(s,-1)] hl ⟨fun x hx=>?_,by simp[qap],fun x hx=>?_,by simp,fun j hj=>?_⟩ (by simp[qap])
  ·obtain rfl:x=(s,-1):=by simpa using hx
   exact hs
  ·obtain rfl:x=(s,-1):=by simpa using hx
   simpa using hb
  ·obtain rfl:j=0:=by simpa using hj
   exact .inl ⟨rfl,rfl⟩
theorem qiC {p q:List Int}(h : ∀ busy,qd3 busy p=qd3 busy q) {busy:List (List Bool)} : ∀ f t,netB p busy f t=netB q busy f t
 | 0,t=>rfl
 | f+1,t=>by
  simp only[netB,h]
  split
  ·rfl
  ·exact qiC h f (t+1)
theorem qfh (c:Circ) (cells:List Cel) (place:List Int) (v:Int):qb8 (ninC c cells v) place=srcT (ninC c cells v) place::qaL c cells place v:=rfl
theorem qd5 {c:Circ}{cells:List Cel}{place:List Int}{v:Int}:qaL c cells place v=[]↔¬ 0<(ninC c cells v).sinks.length+(ninC c cells v).pads.length:=by
 rw[qaL,List.append_eq_nil_iff,List.map_eq_nil_iff]
 show qcO cells v=[]∧qaV c v c.outs.length=[]↔¬ 0<(qcO cells v).length+(qaV c v c.outs.length).length
 rw[←List.length_eq_zero_iff,←List.length_eq_zero_iff]
 omega
theorem qjf {c:Circ}(hc:c.Valid) (place:List Int) {v:Int}(h0:1≤v) (h1:v<c.vars) (hu:qaL c (qaq c) place v≠[]) :
  qde c (qaq c) place v=(qaL c (qaq c) place v).foldl addU [srcT (ninC c (qaq c) v) place]:=by
 rw[qde,if_neg hu,src_one hc place h0 h1 hu]
theorem pins_ne {c:Circ}(hc:c.Valid) (place:List Int) {v:Int}(h0:1≤v) (h1:v<c.vars):qde c (qaq c) place v=[]↔qaL c (qaq c) place v=[]:=by
 constructor
 ·intro h
  refine Decidable.byContradiction fun hu=>?_
  rw[qjf hc place h0 h1 hu] at h
  obtain⟨r,hr⟩:=qfO (l:=qaL c (qaq c) place v) (out:=[srcT (ninC c (qaq c) v) place])
  rw[hr] at h
  simp at h
 ·intro h
  rw[qde,if_pos h]
theorem qiD {c:Circ}(hc:c.Valid) {place:List Int}(hp:PlaceOk (qaq c).length place) {v:Int}(h0:1≤v) (h1:v<c.vars) (hu:qaL c (qaq c) place v≠[]) : ∀ t∈qb8 (ninC c (qaq c) v) place,0≤t∧t≤24:=by
 intro t ht
 refine qgQ hc hp (net:=v) t ?_
 rw[qjf hc place h0 h1 hu,qhJ]
 rw[qfh] at ht
 rcases List.mem_cons.1 ht with h|h
 ·exact .inl (by simp[h])
 ·exact .inr h
theorem qpx {c:Circ}(hc:c.Valid) {place:List Int}(hp:PlaceOk (qaq c).length place) {v:Int}(h0:1≤v) (h1:v<c.vars) (hu:qaL c (qaq c) place v≠[]) (busy:List (List Bool)) (f t:Nat) :
  netB (qb8 (ninC c (qaq c) v) place) busy f t=netB (qde c (qaq c) place v) busy f t:=by
 have hb:=qiD hc hp h0 h1 hu
 rw[qfh] at hb
 rw[qfh,qjf hc place h0 h1 hu]
 exact qiC (fun b=>qnH (hb _ (by simp)) fun t ht=>hb t (by simp[ht])) f t
def qhN (place:List Int) (o:Option (List (List Bool)×List Rt)) (n:Nin):Option (List (List Bool)×List Rt):=
 o.bind fun s=>match netB (qb8 n place) s.1 8 0 with
  | none=>none
  | some (t,h)=>some (takeB s.1 t h,s.2 ++ [⟨n.net,(t:Int),h⟩])
theorem qhO {place:List Int} : ∀ (l:List Nin),l.foldl (qhN place) none=none
 | []=>rfl
 | _::l=>qhO l
theorem qiE {c:Circ}(hc:c.Valid) {place:List Int}(hp:PlaceOk (qaq c).length place) (busy0:List (List Bool)) : ∀ k:Nat,(k:Int)<c.vars→(qdN c (qaq c) k).foldl (qhN place) (some (busy0,[]))=qcm c (qaq c) place busy0 k
 | 0,_=>rfl
 | k+1,hk=>by
  have ih:=qiE hc hp busy0 k (by omega)
  have hp1:=pins_ne hc place (v:=(k:Int)+1) (by omega) (by omega)
  rw[qdN,List.foldl_append,ih,qcm]
  by_cases hu:qaL c (qaq c) place ((k:Int)+1)=[]
  ·rw[if_neg (qd5.1 hu)]
   cases qcm c (qaq c) place busy0 k with
   | none=>rfl
   | some s=>simp only[hp1.2 hu,if_true];rfl
  ·rw[if_pos (Decidable.byContradiction fun h=>hu (qd5.2 h))]
   cases qcm c (qaq c) place busy0 k with
   | none=>rfl
   | some s=>
    simp only[if_neg (fun h=>hu (hp1.1 h))]
    show qhN place (some s) _=_
    rw[qhN,Option.bind_some,qpx hc hp (v:=(k:Int)+1) (by omega) (by omega) hu]
    rfl
theorem ql6 {c:Circ}(hc:c.Valid) {place:List Int}(hp:PlaceOk (qaq c).length place) (busy0:List (List Bool)):qcw c (qaq c) place busy0=((qkQ c (qaq c)).foldl (qhN place) (some (busy0,[]))).map (·.2):=by
 have:=hc.first_bd
 have:=hc.vars_bd
 rw[qcw,qkQ,qiE hc hp busy0 _ (by omega)]
def qb5 (busy:List (List Bool)):List Bool:=(List.range 200).map fun k=>(busy.getD (k%8) []).getD (k/8) false
theorem qaE (busy:List (List Bool)):(qb5 busy).length=200:=by simp[qb5]
theorem qj8 {busy:List (List Bool)}{t u:Nat}(ht:t<25) (hu:u<8):(qb5 busy).getD (t*8+u) false=(busy.getD u []).getD t false:=by
 rw[List.getD_eq_getElem?_getD,List.getElem?_eq_getElem (by rw[qaE];omega)]
 simp only[qb5,List.getElem_map,List.getElem_range,Option.getD_some]
 rw[show(t*8+u)%8=u by omega,show(t*8+u)/8=t by omega]
theorem qj9 {busy:List (List Bool)}{t u:Nat}(ht:t<25) (hu:u<8) (hb:u<busy.length) (hl:t<(busy.getD u []).length):(qb5 busy).set (t*8+u) true=qb5 (busy.set u ((busy.getD u []).set t true)):=by
 refine List.ext_getElem (by simp[qb5]) fun k h1 h2=>?_
 rw[List.getElem_set]
 simp only[qb5,List.getElem_map,List.getElem_range]
 by_cases e:t*8+u=k
 ·subst e
  rw[if_pos rfl,show(t*8+u)%8=u by omega,show(t*8+u)/8=t by omega]
  simp only[List.getD,List.getElem?_set,hb,if_true,Option.getD_some] at hl ⊢
  simp[hl]
 ·rw[if_neg e]
  by_cases e2:u=k%8
  ·have e3:t≠k/8:=by omega
   subst e2
   simp[List.getD,List.getElem?_set,hb,e3]
  ·simp[List.getD,List.getElem?_set,e2]
end Go.VL
