/- Contracts, plain definitions and lemmas. Conditions: none; lemmas. -/
import Derived.Test.YteikeianenfhaaaGreatC64
import Derived.Test.YteikeianenfhaaaGreatC71
set_option linter.unusedVariables false
set_option linter.unusedSimpArgs false
set_option maxHeartbeats 2000000
namespace Go.VL
def visV (busy:List Bool) (s0:BS):Nat->BS
 | 0=>s0
 | k+1=>visitB busy (visV busy s0 k) ((visV busy s0 k).2.getD k 0)
def MonoB (s s':BS):Prop:=(∃ r,s'.2=s.2++r)/\∀ t:Int,0<=t->t<=24->s.1.getD t.toNat 0≠-2->s'.1.getD t.toNat 0=s.1.getD t.toNat 0
theorem MonoB.rfl (s:BS):MonoB s s:=⟨⟨[],by simp⟩,fun _ _ _ _=>Eq.refl _⟩
theorem MonoB.trans {a b c:BS}(h:MonoB a b) (g:MonoB b c):MonoB a c:=by
 obtain⟨⟨r,hr⟩,h2⟩:=h;obtain⟨⟨u,hu⟩,g2⟩:=g;refine⟨⟨r++u,by rw[hu,hr,yar]⟩,fun t h0 h1 ht=>?_⟩;have e:=h2 t h0 h1 ht;rw[g2 t h0 h1 (by rw[e];exact ht),e]
theorem qjF {busy:List Bool}{T:List Int}{s:BS}(h:BInv busy T s) {q n:Int}(hn:0<=n/\n<=24):MonoB s (qcN busy q s n):=by
 refine⟨qiL,fun t h0 h1 ht=>?_⟩;unfold qcN;split
 ·rename_i hc;have hl:=h.len;rw[qcn (by omega),if_neg];intro e;have:t=n:=by omega
  subst this;exact ht hc.1
 ·rfl
theorem qjG {busy:List Bool}{T:List Int}{q:Int} : ∀ (l:List Int) {s:BS},BInv busy T s->q∈s.2->(∀ n∈l,n∈nbC q)->MonoB s (l.foldl (qcN busy q) s)
 | [],s,h,_,_=>MonoB.rfl s
 | n::l,s,h,hq,hl=>by
  have hn:=qjC (h.rng q hq) n (hl n (by simp));have m1:=qjF h (q:=q) hn.1;obtain⟨r,hr⟩:=m1.1;exact m1.trans (qjG l (h.step hq (hl n (by simp))) (by rw[hr];exact yaG _ hq) fun m hm=>hl m (by simp[hm]))
theorem qn8 {busy:List Bool}{T:List Int}{s:BS}(h:BInv busy T s) {q:Int}(hq:q∈s.2):MonoB s (visitB busy s q):=qjG _ h hq fun _ hn=>hn
theorem qeO {busy:List Bool}{T:List Int}{s0:BS}(h:BInv busy T s0) : ∀ k,(∀ j,j<k->j<(visV busy s0 j).2.length)->BInv busy T (visV busy s0 k)
 | 0,_=>h
 | k+1,hj=>(qeO h k fun j hjk=>hj j (by omega)).visit (qac (hj k (by omega)))
theorem qfj {busy:List Bool}{T:List Int}{s0:BS}(h:BInv busy T s0) {j:Nat} : ∀ k,j<=k->(∀ i,i<k->i<(visV busy s0 i).2.length)->MonoB (visV busy s0 j) (visV busy s0 k)
 | 0,hk,_=>by
          obtain rfl:j=0:=by omega
          exact MonoB.rfl _
 | k+1,hk,hi=>by
  by_cases e:j=k+1
  ·subst e;exact MonoB.rfl _
  ·exact(qfj h k (by omega) fun i hik=>hi i (by omega)).trans (qn8 (qeO h k fun i hik=>hi i (by omega)) (qac (hi k (by omega))))
theorem qjH {busy:List Bool}{T:List Int}{s s':BS}(h:BInv busy T s) (hm:MonoB s s') : ∀ (f p:Nat) (acc:List (Int×Int)),p<s.2.length->qbV s'.1 f (s.2.getD p 0) acc=qbV s.1 f (s.2.getD p 0) acc
 | 0,p,acc,_=>rfl
 | f+1,p,acc,hp=>by
  have hpm:s.2.getD p 0∈s.2:=qac hp;have hr:=h.rng _ hpm;have e:=hm.2 _ hr.1 hr.2 ((h.seen _ hr.1 hr.2).2 hpm);simp only[qbV,e];rcases h.root p hp with⟨h1,-⟩|⟨h1,-,-,m,h4,h5,-⟩
  ·rw[if_neg (by omega),if_neg (by omega)]
  ·rw[if_pos h1,if_pos h1,<-h5];exact qjH h hm f m _ (by omega)
theorem qmv {busy:List Bool}{T:List Int}{s0:BS}(h:BInv busy T s0) {sink:Int} : ∀ (f k:Nat),f+k=26->(∀ j,j<k->j<(visV busy s0 j).2.length/\(visV busy s0 j).1.getD sink.toNat 0 = -2)->
  ∃ K,bfsN busy sink f k (visV busy s0 k)=visV busy s0 K/\(∀ j,j<K->j<(visV busy s0 j).2.length/\(visV busy s0 j).1.getD sink.toNat 0 = -2)/\¬ (K<(visV busy s0 K).2.length/\(visV busy s0 K).1.getD sink.toNat 0 = -2)
 | 0,k,hk,hj=>by
  have h1:=(qeO h k fun j hjk=>(hj j hjk).1).qlen;exact⟨k,rfl,hj,fun hc=>by omega⟩
 | f+1,k,hk,hj=>by
  rw[bfsN];split
  ·rename_i hc;exact qmv h f (k+1) (by omega) fun j hjk=>by
    by_cases e:j=k
    ·subst e;exact hc
    ·exact hj j (by omega)
  ·rename_i hc;exact⟨k,rfl,hj,hc⟩
def vis0 (hops:List (Int×Int)):BS:=(qf2 hops,qam hops)
theorem qrJ {busy:List Bool}{hops:List (Int×Int)}(h:TreeOk busy hops) {sink:Int}(hs:0<=sink/\sink<=24) {k:Nat}(hj : ∀ j,j<k->j<(visV busy (vis0 hops) j).2.length) (hk:k=(visV busy (vis0 hops) k).2.length) (hn:sink∉(visV busy (vis0 hops) k).2):qaK busy hops sink=none:=by
 have hb:=qn5 (busy:=busy) h.rng h.nd;obtain⟨K,e,hK,hK2⟩:=qmv hb (sink:=sink) 26 0 rfl (fun j hj=>by omega);have e2:bfsC hops sink busy=visV busy (vis0 hops) K:=e;have hnt:sink∉qam hops:=fun hm=>by
  obtain⟨r,hr⟩:=(qfj hb (j:=0) k (by omega) hj).1;exact hn (show sink∈(visV busy (qf2 hops,qam hops) k).2 by rw[hr];exact yaG _ hm)
 rw[qaK,if_neg hnt,e2,if_pos];refine Decidable.byContradiction fun hf=>?_
 have hKi:=qeO hb K fun j hjK=>(hK j hjK).1
 have hm:=(hKi.seen sink hs.1 hs.2).1 hf;by_cases hle:K<=k
 ·obtain⟨r,hr⟩:=(qfj hb (j:=K) k hle hj).1;exact hn (show sink∈(visV busy (qf2 hops,qam hops) k).2 by rw[hr];exact yaG _ hm)
 ·have:=(hK k (by omega)).1;simp only[vis0] at hk;omega
theorem qrK {busy:List Bool}{hops:List (Int×Int)}(h:TreeOk busy hops) {sink:Int}(hs:0<=sink/\sink<=24) {k:Nat}(hj : ∀ j,j<k->j<(visV busy (vis0 hops) j).2.length) (hk:k<(visV busy (vis0 hops) k).2.length) (hn:(visV busy (vis0 hops) k).2.getD k 0=sink) :
  qaK busy hops sink=some (hops++qbV (visV busy (vis0 hops) k).1 25 sink []):=by
 have hb:=qn5 (busy:=busy) h.rng h.nd;have hki:=qeO hb k hj;by_cases ht:sink∈qam hops
 ·rw[qaK,if_pos ht];have hm:=qfj hb (j:=0) k (by omega) hj;have h0:(qf2 hops).getD sink.toNat 0 = -1:=by rw[qgv h.rng hs.1 hs.2,if_pos ht]
  have e:=hm.2 sink hs.1 hs.2 (by show(qf2 hops).getD sink.toNat 0≠-2;rw[h0];decide);have e1:(visV busy (vis0 hops) k).1.getD sink.toNat 0 = -1:=e.trans h0;have e2:qbV (visV busy (vis0 hops) k).1 25 sink []=[]:=by
   rw[show(25:Nat)=24+1 from rfl];simp only[qbV];rw[if_neg (by omega)]
  rw[e2,yaF]
 ·obtain⟨K,e,hK,hK2⟩:=qmv hb (sink:=sink) 26 0 rfl (fun j hj=>by omega);have e2:bfsC hops sink busy=visV busy (vis0 hops) K:=e;rw[qaK,if_neg ht,e2];have hsk:(visV busy (vis0 hops) k).1.getD sink.toNat 0≠-2:=(hki.seen sink hs.1 hs.2).2 (by rw[<-hn];exact qac hk);have hle:K<=k:=Decidable.byContradiction fun hgt=>hsk (hK k (by omega)).2
  have hKi:=qeO hb K fun j hjK=>(hK j hjK).1
  have hm:=qfj hb (j:=K) k hle hj;have hf:(visV busy (vis0 hops) K).1.getD sink.toNat 0≠-2:=fun hf=>by
   have h1 : ¬ K<(visV busy (vis0 hops) K).2.length:=fun h1=>hK2 ⟨h1,hf⟩
   by_cases e3:K=k
   ·subst e3;exact h1 hk
   ·exact h1 (hj K (by omega))
  rw[if_neg hf];obtain⟨p,hp,hpe⟩:=qaU 0 ((hKi.seen sink hs.1 hs.2).1 hf);have:=qjH hKi hm 25 p [] hp;rw[hpe] at this;exact congrArg (fun x=>some (hops++x)) this.symm
end Go.VL

set_option linter.unusedVariables false
set_option linter.unusedSimpArgs false
namespace Go.VL
def qdm (cells:List Cel) (v:Int):Nat->Int
 | 0=>-1
 | i+1=>if(cells.getD i ce0).net=v then(i:Int) else qdm cells v i
structure Nin where
 net:Int
 cell:Int
 tile:Int
 sinks:List Int
 pads:List Int
def nin0:Nin:=⟨0,0,0,[],[]⟩
def ninC (c:Circ) (cells:List Cel) (v:Int):Nin:=⟨v,qdm cells v cells.length,(v-1)*5,qdn cells v,qa1 c v c.outs.length⟩
def qdT (c:Circ) (cells:List Cel):Nat->List Nin
 | 0=>[]
 | k+1=>qdT c cells k++(if 0<(ninC c cells ((k:Int)+1)).sinks.length+(ninC c cells ((k:Int)+1)).pads.length then [ninC c cells ((k:Int)+1)] else [])
def qg9 (c:Circ) (cells:List Cel):List Nin:=qdT c cells (c.vars.toNat-1)
def srcT (n:Nin) (place:List Int):Int:=if 0<=n.cell then place.getD n.cell.toNat 0 else n.tile
def qa6 (n:Nin) (place:List Int):List Int:=srcT n place::(n.sinks.map (qbF place)++n.pads)
theorem qgz {cells:List Cel}(ha:cells.Pairwise fun a b=>a.net<b.net) (place:List Int) (v:Int) : ∀ n,n<=cells.length->
  (∃ j:Nat,j<n/\(cells.getD j ce0).net=v/\qbc cells place v n=[place.getD j 0]/\qdm cells v n=(j:Int))∨((∀ j,j<n->(cells.getD j ce0).net≠v)/\qbc cells place v n=[]/\qdm cells v n = -1)
 | 0,_=>.inr ⟨by omega,rfl,rfl⟩
 | n+1,hn=>by
  have hlt : ∀ j,j<n->(cells.getD j ce0).net<(cells.getD n ce0).net:=fun j hj=>by
   have:=List.pairwise_iff_getElem.1 ha j n (by omega) (by omega) hj;simpa [List.getD,show j<cells.length by omega,show n<cells.length by omega] using this
  rcases qgz ha place v n (by omega) with⟨j,h1,h2,h3,h4⟩|⟨h1,h2,h3⟩
  ·have:=hlt j h1;left;refine⟨j,by omega,h2,?_,?_⟩
   ·rw[qbc,h3,if_neg (by omega)];simp
   ·rw[qdm,if_neg (by omega),h4]
  ·by_cases e:(cells.getD n ce0).net=v
   ·left;refine⟨n,by omega,e,?_,?_⟩
    ·rw[qbc,h2,if_pos e];simp
    ·rw[qdm,if_pos e]
   ·right;refine⟨fun j hj=>?_,?_,?_⟩
    ·by_cases e2:j=n
     ·rw[e2];exact e
     ·exact h1 j (by omega)
    ·rw[qbc,h2,if_neg e];simp
    ·rw[qdm,if_neg e,h3]
theorem qcj (c:Circ) (i:Nat):(qaL c i).net=c.inputs+1+(i:Int):=by unfold qaL;split <;> rfl
theorem qha {c:Circ}(hc:c.Valid):(qae c).Pairwise fun a b=>a.net<b.net:=by
 have hok:=qc9 hc;have hfd:c.first=1+c.inputs+(c.next.length:Int):=rfl
 rw[qae,List.pairwise_append];refine⟨?_,?_,fun a ha b hb=>?_⟩
 ·rw[List.pairwise_map];refine(List.pairwise_lt_range).imp fun {i j} h=>?_
  rw[qcj,qcj];omega
 ·rw[List.pairwise_map];exact hok.asc
 ·obtain⟨i,hi,rfl⟩:=List.mem_map.1 ha;obtain⟨l,hl,rfl⟩:=List.mem_map.1 hb;obtain⟨j,-,rfl⟩:=hok.each l hl;have:=List.mem_range.1 hi;rw[qcj];show _<c.first+(j:Int)
  omega
theorem qjI {c:Circ}(hc:c.Valid) : ∀ x∈qae c,c.inputs<x.net/\x.net<c.vars:=by
 have hok:=qc9 hc;have hfd:c.first=1+c.inputs+(c.next.length:Int):=rfl
 have hvv:c.vars=c.first+(c.gates.length:Int):=rfl
 intro x hx;rcases List.mem_append.1 hx with h|h
 ·obtain⟨i,hi,rfl⟩:=List.mem_map.1 h;have:=List.mem_range.1 hi;rw[qcj];omega
 ·obtain⟨l,hl,rfl⟩:=List.mem_map.1 h;obtain⟨j,hj,rfl⟩:=hok.each l hl;show _<c.first+(j:Int)/\c.first+(j:Int)<_
  omega
theorem qdk {c:Circ}(hc:c.Valid) : ∀ x∈qae c,x.inputs.length<=3/\x.inputs.Nodup/\∀ z∈x.inputs,1<=z/\z<c.vars:=by
 have hok:=qc9 hc;have hvv:c.vars=c.first+(c.gates.length:Int):=rfl
 intro x hx;rcases List.mem_append.1 hx with h|h
 ·obtain⟨i,hi,rfl⟩:=List.mem_map.1 h;have hi2:=List.mem_range.1 hi;have hno:=hc.n _ (qac hi2:c.next.getD i 0∈c.next);unfold qaX at hno;unfold qaL;split
  ·refine⟨by simp,by simp,fun z hz=>?_⟩;obtain rfl:z=c.next.getD i 0/2:=by simpa using hz
   omega
  ·exact⟨by simp,by simp,by simp⟩
 ·obtain⟨l,hl,rfl⟩:=List.mem_map.1 h;obtain⟨j,hj,rfl⟩:=hok.each l hl;obtain⟨b1,b2,b3⟩:=qcF hc hj;refine⟨b2,?_,fun z hz=>?_⟩
  ·exact List.nodup_iff_pairwise_ne.2 (List.Pairwise.imp (fun {a b} h=>by omega) b1)
  ·have:=b3 z hz;omega
theorem cell_of {c:Circ}(hc:c.Valid) {v:Int}(h0:c.inputs<v) (h1:v<c.vars) (hu:v∈qbl c∨∃ x∈qae c,v∈x.inputs) : ∃ x∈qae c,x.net=v:=by
 have hfd:c.first=1+c.inputs+(c.next.length:Int):=rfl
 have hvv:c.vars=c.first+(c.gates.length:Int):=rfl
 by_cases hl:v<c.first
 ·obtain⟨i,rfl⟩ : ∃ i:Nat,v=c.inputs+1+(i:Int):=⟨(v-c.inputs-1).toNat,by omega⟩;exact⟨qaL c i,yaG _ (List.mem_map.2 ⟨i,List.mem_range.2 (by omega),rfl⟩),qcj c i⟩
 ·obtain⟨i,rfl⟩ : ∃ i:Nat,v=c.first+(i:Int):=⟨(v-c.first).toNat,by omega⟩
  have hin:qfi c i∈qdx c:=by
   rw[qrE hc (by omega)];rcases hu with h|⟨x,hx,hxi⟩
   ·exact .inl h
   ·rcases List.mem_append.1 hx with h|h
    ·obtain⟨k,hk,rfl⟩:=List.mem_map.1 h;have hk2:=List.mem_range.1 hk;left;unfold qaL at hxi;split at hxi
     ·obtain h3:c.first+(i:Int)=c.next.getD k 0/2:=by simpa using hxi
      rw[h3];exact List.mem_map.2 ⟨_,List.mem_append_right _ (qac hk2),rfl⟩
     ·simp at hxi
    ·obtain⟨l,hl2,rfl⟩:=List.mem_map.1 h;exact .inr ⟨l,hl2,hxi⟩
  exact⟨qa5 (qfi c i),List.mem_append_right _ (List.mem_map.2 ⟨_,hin,rfl⟩),rfl⟩
theorem qpP {c:Circ}(hc:c.Valid) (place:List Int) {v:Int}(h0:1<=v) (h1:v<c.vars) (hu:qaz c (qae c) place v≠[]) :
  qg3 c v++qbc (qae c) place v (qae c).length=[srcT (ninC c (qae c) v) place]:=by
 have ha:=qha hc;have hn:=qjI hc;unfold qg3;have hT:srcT (ninC c (qae c) v) place=if 0<=qdm (qae c) v (qae c).length then place.getD (qdm (qae c) v (qae c).length).toNat 0 else(v-1)*5:=rfl
 rw[hT];rcases qgz ha place v (qae c).length (yad _) with⟨j,h2,h3,h4,h5⟩|⟨h2,h3,h4⟩
 ·have:=hn _ (qac h2:(qae c).getD j ce0∈qae c);rw[h4,h5,if_neg (by omega),if_pos (by omega)];simp
 ·rw[h3,h4,if_neg (show ¬ (0:Int)<=-1 by decide)];by_cases hi:v<=c.inputs
  ·rw[if_pos ⟨h0,hi⟩];simp
  ·exfalso;have:v∈qbl c∨∃ x∈qae c,v∈x.inputs:=by
    cases hs:qaz c (qae c) place v with
    | nil=>exact absurd hs hu
    | cons t r=>
     have ht:t∈qaz c (qae c) place v:=by rw[hs];simp
     rcases qcG.1 ht with⟨i,g1,g2,-⟩|⟨o,g1,g2,-⟩
     ·exact .inr ⟨_,qac g1,g2⟩
     ·left;rw[<-g2];exact List.mem_map.2 ⟨_,yaG _ (qac g1),rfl⟩
   obtain⟨x,hx,hxv⟩:=cell_of hc (by omega) h1 this;obtain⟨j,hj,rfl⟩:=qaU ce0 hx;exact h2 j hj hxv
theorem qgA {busy:List Bool} : ∀ (l:List Int),l.foldl (fun o t=>o.bind fun hops=>qaK busy hops t) (none:Option (List (Int×Int)))=none
 | []=>rfl
 | _::l=>qgA l
theorem qmw {busy:List Bool} : ∀ (l out:List Int) (hs:List (Int×Int)),(∀ t∈l,0<=t/\t<=24)->TreeOk busy hs->(∀ t∈out,t∈qam hs)->
  l.foldl (fun o t=>o.bind fun hops=>qaK busy hops t) (some hs)=((l.foldl addU out).drop out.length).foldl (fun o t=>o.bind fun hops=>qaK busy hops t) (some hs)
 | [],out,hs,_,_,_=>by simp
 | t::l,out,hs,hl,ht,ho=>by
  rw[yao,yao,ybh];by_cases hm:t∈out
  ·rw[show addU out t=out by unfold addU;rw[if_pos hm],show qaK busy hs t=some hs by rw[qaK,if_pos (ho t hm)]];exact qmw l out hs (fun z hz=>hl z (by simp[hz])) ht ho
  ·obtain⟨r,hr⟩:=qet (l:=l) (out:=out ++ [t]);have e0:addU out t=out ++ [t]:=by unfold addU;rw[if_neg hm]
   have e1:((l.foldl addU (addU out t)).drop out.length)=t::((l.foldl addU (addU out t)).drop (addU out t).length):=by
    rw[e0,hr,yar];simp
   rw[e1,yao,ybh];cases he:qaK busy hs t with
   | none=>rw[qgA,qgA]
   | some h2=>
    obtain⟨a1,a2,r1,a3⟩:=qgw ht (hl t (by simp)) he;refine qmw l (addU out t) h2 (fun z hz=>hl z (by simp[hz])) a1 fun z hz=>?_
    rcases qne.1 hz with h|rfl
    ·rw[a3];simp only[qam,yaA,yaw];exact .inl (ho z h)
    ·exact a2
theorem qpQ {busy:List Bool}{s:Int}{l:List Int}(hs:0<=s/\s<=24) (hl : ∀ t∈l,0<=t/\t<=24):qeN busy (s::l)=qeN busy (l.foldl addU [s]):=by
 obtain⟨r,hr⟩:=qet (l:=l) (out:=[s]);have e0:(l.foldl addU [s]).getD 0 0=s:=by rw[hr];rfl
 unfold qeN;rw[e0,show(s::l).getD 0 0=s from rfl];by_cases hb:busy.getD s.toNat false=true
 ·rw[if_pos hb,if_pos hb]
 ·rw[if_neg hb,if_neg hb];refine qmw l [s] [(s,-1)] hl ⟨fun x hx=>?_,by simp[qam],fun x hx=>?_,by simp,fun j hj=>?_⟩ (by simp[qam])
  ·obtain rfl:x=(s,-1):=by simpa using hx
   exact hs
  ·obtain rfl:x=(s,-1):=by simpa using hx
   simpa using hb
  ·obtain rfl:j=0:=by simpa using hj
   exact .inl ⟨rfl,rfl⟩
theorem qjJ {p q:List Int}(h : ∀ busy,qeN busy p=qeN busy q) {busy:List (List Bool)} : ∀ f t,netB p busy f t=netB q busy f t
 | 0,t=>rfl
 | f+1,t=>by
  simp only[netB,h];split
  ·rfl
  ·exact qjJ h f (t+1)
theorem qf4 (c:Circ) (cells:List Cel) (place:List Int) (v:Int):qa6 (ninC c cells v) place=srcT (ninC c cells v) place::qaz c cells place v:=rfl
theorem qcL {c:Circ}{cells:List Cel}{place:List Int}{v:Int}:qaz c cells place v=[]↔¬ 0<(ninC c cells v).sinks.length+(ninC c cells v).pads.length:=by
 rw[qaz,List.append_eq_nil_iff,List.map_eq_nil_iff];show qdn cells v=[]/\qa1 c v c.outs.length=[]↔¬ 0<(qdn cells v).length+(qa1 c v c.outs.length).length
 rw[<-List.length_eq_zero_iff,<-List.length_eq_zero_iff];omega
theorem qgB {c:Circ}(hc:c.Valid) (place:List Int) {v:Int}(h0:1<=v) (h1:v<c.vars) (hu:qaz c (qae c) place v≠[]) :
  qdy c (qae c) place v=(qaz c (qae c) place v).foldl addU [srcT (ninC c (qae c) v) place]:=by
 rw[qdy,if_neg hu,qpP hc place h0 h1 hu]
theorem qiP {c:Circ}(hc:c.Valid) (place:List Int) {v:Int}(h0:1<=v) (h1:v<c.vars):qdy c (qae c) place v=[]↔qaz c (qae c) place v=[]:=by
 constructor
 ·intro h;refine Decidable.byContradiction fun hu=>?_
  rw[qgB hc place h0 h1 hu] at h;obtain⟨r,hr⟩:=qet (l:=qaz c (qae c) place v) (out:=[srcT (ninC c (qae c) v) place]);rw[hr] at h;simp at h
 ·intro h;rw[qdy,if_pos h]
theorem qjK {c:Circ}(hc:c.Valid) {place:List Int}(hp:PlaceOk (qae c).length place) {v:Int}(h0:1<=v) (h1:v<c.vars) (hu:qaz c (qae c) place v≠[]) : ∀ t∈qa6 (ninC c (qae c) v) place,0<=t/\t<=24:=by
 intro t ht;refine qgp hc hp (net:=v) t ?_;rw[qgB hc place h0 h1 hu,qgo];rw[qf4] at ht;rcases List.mem_cons.1 ht with h|h
 ·exact .inl (by simp[h])
 ·exact .inr h
theorem qrL {c:Circ}(hc:c.Valid) {place:List Int}(hp:PlaceOk (qae c).length place) {v:Int}(h0:1<=v) (h1:v<c.vars) (hu:qaz c (qae c) place v≠[]) (busy:List (List Bool)) (f t:Nat) :
  netB (qa6 (ninC c (qae c) v) place) busy f t=netB (qdy c (qae c) place v) busy f t:=by
 have hb:=qjK hc hp h0 h1 hu;rw[qf4] at hb;rw[qf4,qgB hc place h0 h1 hu];exact qjJ (fun b=>qpQ (hb _ (by simp)) fun t ht=>hb t (by simp[ht])) f t
def qiQ (place:List Int) (o:Option (List (List Bool)×List Rt)) (n:Nin):Option (List (List Bool)×List Rt):=
 o.bind fun s=>match netB (qa6 n place) s.1 8 0 with
  | none=>none
  | some (t,h)=>some (takeB s.1 t h,s.2 ++ [⟨n.net,(t:Int),h⟩])
theorem qiR {place:List Int} : ∀ (l:List Nin),l.foldl (qiQ place) none=none
 | []=>rfl
 | _::l=>qiR l
theorem qjL {c:Circ}(hc:c.Valid) {place:List Int}(hp:PlaceOk (qae c).length place) (busy0:List (List Bool)) : ∀ k:Nat,(k:Int)<c.vars->(qdT c (qae c) k).foldl (qiQ place) (some (busy0,[]))=qcI c (qae c) place busy0 k
 | 0,_=>rfl
 | k+1,hk=>by
  have ih:=qjL hc hp busy0 k (by omega);have hp1:=qiP hc place (v:=(k:Int)+1) (by omega) (by omega);rw[qdT,yaO,ih,qcI];by_cases hu:qaz c (qae c) place ((k:Int)+1)=[]
  ·rw[if_neg (qcL.1 hu)];cases qcI c (qae c) place busy0 k with
   | none=>rfl
   | some s=>simp only[hp1.2 hu,if_true];rfl
  ·rw[if_pos (Decidable.byContradiction fun h=>hu (qcL.2 h))];cases qcI c (qae c) place busy0 k with
   | none=>rfl
   | some s=>
    simp only[if_neg (fun h=>hu (hp1.1 h))];show qiQ place (some s) _=_
    rw[qiQ,ybh,qrL hc hp (v:=(k:Int)+1) (by omega) (by omega) hu];rfl
theorem qn9 {c:Circ}(hc:c.Valid) {place:List Int}(hp:PlaceOk (qae c).length place) (busy0:List (List Bool)):qcw c (qae c) place busy0=((qg9 c (qae c)).foldl (qiQ place) (some (busy0,[]))).map (·.2):=by
 have:=hc.first_bd;have:=hc.vars_bd;rw[qcw,qg9,qjL hc hp busy0 _ (by omega)]
def qb9 (busy:List (List Bool)):List Bool:=(List.range 200).map fun k=>(busy.getD (k%8) []).getD (k/8) false
theorem qbs (busy:List (List Bool)):(qb9 busy).length=200:=by simp[qb9]
theorem qlu {busy:List (List Bool)}{t u:Nat}(ht:t<25) (hu:u<8):(qb9 busy).getD (t*8+u) false=(busy.getD u []).getD t false:=by
 rw[List.getD_eq_getElem?_getD,List.getElem?_eq_getElem (by rw[qbs];omega)];simp only[qb9,List.getElem_map,List.getElem_range,yag];rw[show(t*8+u)%8=u by omega,show(t*8+u)/8=t by omega]
theorem qlv {busy:List (List Bool)}{t u:Nat}(ht:t<25) (hu:u<8) (hb:u<busy.length) (hl:t<(busy.getD u []).length):(qb9 busy).set (t*8+u) true=qb9 (busy.set u ((busy.getD u []).set t true)):=by
 refine ybg (by simp[qb9]) fun k h1 h2=>?_
 rw[List.getElem_set];simp only[qb9,List.getElem_map,List.getElem_range];by_cases e:t*8+u=k
 ·subst e;rw[if_pos rfl,show(t*8+u)%8=u by omega,show(t*8+u)/8=t by omega];simp only[List.getD,List.getElem?_set,hb,if_true,yag] at hl ⊢;simp[hl]
 ·rw[if_neg e];by_cases e2:u=k%8
  ·have e3:t≠k/8:=by omega
   subst e2;simp[List.getD,List.getElem?_set,hb,e3]
  ·simp[List.getD,List.getElem?_set,e2]
end Go.VL

set_option linter.unusedVariables false
set_option linter.unusedSimpArgs false
namespace Go.VL
theorem qpR {hops:List (Int×Int)}(hn:(qam hops).Nodup) {i j:Nat}(hi:i<hops.length) (hj:j<hops.length) (h:(hops.getD i (0,0)).1=(hops.getD j (0,0)).1):i=j:=by
 refine qeu.1 hn i j (by simp[qam];omega) (by simp[qam];omega) ?_;have e : ∀ k,k<hops.length->(qam hops).getD k 0=(hops.getD k (0,0)).1:=fun k hk=>by simp[qam,List.getD,hk]
 rw[e i hi,e j hj,h]
theorem qiS {c:Circ}{cells:List Cel}{place:List Int} : ∀ k:Nat,(qew c cells place k).Nodup/\(∀ n∈qew c cells place k,1<=n/\n<=k)/\(qew c cells place k).length<=k
 | 0=>by simp[qew]
 | k+1=>by
  obtain⟨h1,h2,h3⟩:=qiS (c:=c) (cells:=cells) (place:=place) k;rw[qf3];split
  ·rw[yaF];exact⟨h1,fun n hn=>by have:=h2 n hn;omega,by omega⟩
  ·refine⟨?_,fun n hn=>?_,by simp;omega⟩
   ·rw[ybj];refine⟨h1,by simp,fun a ha b hb e=>?_⟩;obtain rfl:b=(k:Int)+1:=by simpa using hb
    have:=h2 a ha;omega
   ·rcases List.mem_append.1 hn with h|h
    ·have:=h2 n h;omega
    ·obtain rfl:n=(k:Int)+1:=by simpa using h
     omega
structure RtsOk (routes:List Rt):Prop where
 nd:(routes.map (·.net)).Nodup
 net : ∀ r∈routes,1<=r.net
 tree : ∀ r∈routes,∃ busy,TreeOk busy r.hops
 len:routes.length<=100
theorem RtsOk.hops {routes:List Rt}(h:RtsOk routes) : ∀ r∈routes,r.hops.length<=25:=fun r hr=>by
 obtain⟨b,hb⟩:=h.tree r hr;exact qda hb
end Go.VL

set_option linter.unusedVariables false
set_option linter.unusedSimpArgs false
namespace Go.VL
def qlw (cells:List Cel) (place:List Int) (net:Int):Nat->List Int
 | 0=>[]
 | i+1=>qlw cells place net i++(if net∈(cells.getD i ce0).inputs then [place.getD i 0] else [])
theorem qjM {cells:List Cel}{place:List Int}{net t:Int} : ∀ {n:Nat},t∈qlw cells place net n↔∃ i:Nat,i<n/\net∈(cells.getD i ce0).inputs/\t=place.getD i 0
 | 0=>by simp[qlw]
 | n+1=>by
  rw[qlw,yaw,qjM];constructor
  ·rintro(⟨o,h1,h2,h3⟩|h)
   ·exact⟨o,by omega,h2,h3⟩
   ·split at h
    ·rename_i h2;exact⟨n,by omega,h2,by simpa using h⟩
    ·simp at h
  ·rintro⟨o,h1,h2,h3⟩;by_cases ho:o<n
   ·exact .inl ⟨o,ho,h2,h3⟩
   ·obtain rfl:o=n:=by omega
    rw[if_pos h2];exact .inr (by simp[h3])
def qpS (c:Circ) (cells:List Cel) (place:List Int) (net:Int):List Int:=qlw cells place net cells.length++qa1 c net c.outs.length
theorem qjN {c:Circ}{cells:List Cel}{place:List Int}{net t:Int}:t∈qpS c cells place net↔t∈qaz c cells place net:=by
 rw[qpS,yaw,qjM,qg5,qcG]
def srcK (cells:List Cel) (place:List Int) (net:Int):Nat->Int
 | 0=>(net-1)*5
 | k+1=>if(cells.getD k ce0).net=net then place.getD k 0 else srcK cells place net k
theorem qmx {cells:List Cel}{place:List Int}{net:Int} : ∀ k,srcK cells place net k=if 0<=qdm cells net k then place.getD (qdm cells net k).toNat 0 else(net-1)*5
 | 0=>by simp[srcK,qdm]
 | k+1=>by
  rw[srcK,qdm];by_cases h:(cells.getD k ce0).net=net
  ·rw[if_pos h,if_pos h,if_pos (by omega),ybi]
  ·rw[if_neg h,if_neg h];exact qmx k
theorem qhb {c:Circ}{cells:List Cel}{place:List Int}{k:Nat}{n:Int}:n∈qew c cells place k↔(1<=n/\n<=k)/\qdy c cells place n≠[]:=by
 rw[qew,List.mem_filter,decide_eq_true_eq];refine and_congr_left fun _=>?_
 constructor
 ·intro h;obtain⟨j,hj,rfl⟩:=List.mem_map.1 h;have:=List.mem_range.1 hj;omega
 ·rintro⟨h1,h2⟩;exact List.mem_map.2 ⟨(n-1).toNat,List.mem_range.2 (by omega),by omega⟩
theorem qiT {c:Circ}(hc:c.Valid) {place:List Int}{busy0 busy:List (List Bool)}{rs:List Rt}(h:RoutesOk c (qae c) place busy0 (c.vars.toNat-1) busy rs) {r:Rt}(hr:r∈rs) :
  (∀ t∈qpS c (qae c) place r.net,t∈qam r.hops)/\(r.hops.getD 0 (0,0)).1=srcK (qae c) place r.net (qae c).length:=by
 have hk:=h.each r hr;have hv:=hc.vars_bd;have hf:=hc.first_bd;have hn:r.net∈qew c (qae c) place (c.vars.toNat-1):=by rw[<-h.nets];exact List.mem_map.2 ⟨r,hr,rfl⟩
 obtain⟨h1,h2⟩:=qhb.1 hn;have hu:qaz c (qae c) place r.net≠[]:=fun h3=>h2 ((qiP hc place h1.1 (by omega)).2 h3)
 have hp:=qgB hc place h1.1 (by omega:r.net<c.vars) hu;refine⟨fun t ht=>hk.pins t ?_,?_⟩
 ·rw[hp,qgo];exact .inr (qjN.1 ht)
 ·obtain⟨q,hq⟩:=hk.src;obtain⟨r2,hr2⟩:=qet (l:=qaz c (qae c) place r.net) (out:=[srcT (ninC c (qae c) r.net) place]);rw[hp,hr2] at hq;rw[hq,qmx];rfl
end Go.VL
