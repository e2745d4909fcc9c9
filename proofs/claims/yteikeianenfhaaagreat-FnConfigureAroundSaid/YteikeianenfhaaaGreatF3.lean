/- Contracts, plain definitions and lemmas. Conditions: none; lemmas. -/
import Derived.Test.YteikeianenfhaaaGreatC64
import Derived.Test.YteikeianenfhaaaGreatC71
set_option linter.unusedVariables false
set_option linter.unusedSimpArgs false
set_option maxHeartbeats 2000000
namespace Go.VL
set_option linter.defProp false
variable {busy:List Bool}{T:List Int}{s:BS}{q sink:Int}{hops:List (Int×Int)}{k:Nat}
def visV (busy:List Bool) (s0:BS):Nat->BS
 | 0=>s0
 | k+1=>visitB busy (visV busy s0 k) ((visV busy s0 k).2.getD k 0)
def MonoB (s s':BS):Prop:=(∃ r,s'.2=s.2++r)/\∀ t:Int,0<=t->t<=24->s.1.getD t.toNat 0≠-2->s'.1.getD t.toNat 0=s.1.getD t.toNat 0
def MonoB.rfl (s:BS):MonoB s s:=⟨⟨[],by simp⟩,fun _ _ _ _=>Eq.refl _⟩
def MonoB.trans {a b c:BS}(h:MonoB a b) (g:MonoB b c):MonoB a c:=by
 obtain⟨⟨r,hr⟩,h2⟩:=h;obtain⟨⟨u,hu⟩,g2⟩:=g;refine⟨⟨r++u,by rw[hu,hr,yar]⟩,fun t h0 h1 ht=>?_⟩;have e:=h2 t h0 h1 ht;rw[g2 t h0 h1 (by rw[e];exact ht),e]
def qjS (h:BInv busy T s) {n:Int}(hn:0<=n/\n<=24):MonoB s (qcQ busy q s n):=by
 refine⟨qiX,fun t h0 h1 ht=>?_⟩;unfold qcQ;split
 ·rename_i hc;have hl:=h.len;rw[qcp (by omega),if_neg];intro e;have:t=n:=by omega
  subst this;exact ht hc.1
 ·rfl
def qjT {busy:List Bool}{T:List Int}{q:Int} : ∀ (l:List Int) {s:BS},BInv busy T s->q∈s.2->(∀ n∈l,n∈nbC q)->MonoB s (l.foldl (qcQ busy q) s)
 | [],s,h,_,_=>MonoB.rfl s
 | n::l,s,h,hq,hl=>by
  have hn:=qjP (h.rng q hq) n (hl n (by simp));have m1:=qjS h (q:=q) hn.1;obtain⟨r,hr⟩:=m1.1;exact m1.trans (qjT l (h.step hq (hl n (by simp))) (by rw[hr];exact yaI _ hq) fun m hm=>hl m (by simp[hm]))
def qop (h:BInv busy T s) (hq:q∈s.2):MonoB s (visitB busy s q):=qjT _ h hq fun _ hn=>hn
def qeR {busy:List Bool}{T:List Int}{s0:BS}(h:BInv busy T s0) : ∀ k,(∀ j,j<k->j<(visV busy s0 j).2.length)->BInv busy T (visV busy s0 k)
 | 0,_=>h
 | k+1,hj=>(qeR h k fun j hjk=>hj j (by omega)).visit (qad (hj k (by omega)))
def qfn {busy:List Bool}{T:List Int}{s0:BS}(h:BInv busy T s0) {j:Nat} : ∀ k,j<=k->(∀ i,i<k->i<(visV busy s0 i).2.length)->MonoB (visV busy s0 j) (visV busy s0 k)
 | 0,hk,_=>by
          obtain rfl:j=0:=by omega
          exact MonoB.rfl _
 | k+1,hk,hi=>by
  by_cases e:j=k+1
  ·subst e;exact MonoB.rfl _
  ·exact(qfn h k (by omega) fun i hik=>hi i (by omega)).trans (qop (qeR h k fun i hik=>hi i (by omega)) (qad (hi k (by omega))))
def qjU {busy:List Bool}{T:List Int}{s s':BS}(h:BInv busy T s) (hm:MonoB s s') : ∀ (f p:Nat) (acc:List (Int×Int)),p<s.2.length->qbX s'.1 f (s.2.getD p 0) acc=qbX s.1 f (s.2.getD p 0) acc
 | 0,p,acc,_=>rfl
 | f+1,p,acc,hp=>by
  have hpm:s.2.getD p 0∈s.2:=qad hp;have hr:=h.rng _ hpm;have e:=hm.2 _ hr.1 hr.2 ((h.seen _ hr.1 hr.2).2 hpm);simp only[qbX,e];rcases h.root p hp with⟨h1,-⟩|⟨h1,-,-,m,h4,h5,-⟩
  ·rw[if_neg (by omega),if_neg (by omega)]
  ·rw[if_pos h1,if_pos h1,<-h5];exact qjU h hm f m _ (by omega)
def qmK {busy:List Bool}{T:List Int}{s0:BS}(h:BInv busy T s0) {sink:Int} : ∀ (f k:Nat),f+k=26->(∀ j,j<k->j<(visV busy s0 j).2.length/\(visV busy s0 j).1.getD sink.toNat 0 = -2)->
  ∃ K,bfsN busy sink f k (visV busy s0 k)=visV busy s0 K/\(∀ j,j<K->j<(visV busy s0 j).2.length/\(visV busy s0 j).1.getD sink.toNat 0 = -2)/\¬ (K<(visV busy s0 K).2.length/\(visV busy s0 K).1.getD sink.toNat 0 = -2)
 | 0,k,hk,hj=>by
  have h1:=(qeR h k fun j hjk=>(hj j hjk).1).qlen;exact⟨k,rfl,hj,fun hc=>by omega⟩
 | f+1,k,hk,hj=>by
  rw[bfsN];split
  ·rename_i hc;exact qmK h f (k+1) (by omega) fun j hjk=>by
    by_cases e:j=k
    ·subst e;exact hc
    ·exact hj j (by omega)
  ·rename_i hc;exact⟨k,rfl,hj,hc⟩
def vis0 (hops:List (Int×Int)):BS:=(qf9 hops,qao hops)
def qr0 (h:TreeOk busy hops) (hs:0<=sink/\sink<=24) (hj : ∀ j,j<k->j<(visV busy (vis0 hops) j).2.length) (hk:k=(visV busy (vis0 hops) k).2.length) (hn:sink∉(visV busy (vis0 hops) k).2):qaJ busy hops sink=none:=by
 have hb:=qom (busy:=busy) h.rng h.nd;obtain⟨K,e,hK,hK2⟩:=qmK hb (sink:=sink) 26 0 rfl (fun j hj=>by omega);have e2:bfsC hops sink busy=visV busy (vis0 hops) K:=e;have hnt:sink∉qao hops:=fun hm=>by
  obtain⟨r,hr⟩:=(qfn hb (j:=0) k (by omega) hj).1;exact hn (show sink∈(visV busy (qf9 hops,qao hops) k).2 by rw[hr];exact yaI _ hm)
 rw[qaJ,if_neg hnt,e2,if_pos];refine Decidable.byContradiction fun hf=>?_
 have hKi:=qeR hb K fun j hjK=>(hK j hjK).1
 have hm:=(hKi.seen sink hs.1 hs.2).1 hf;by_cases hle:K<=k
 ·obtain⟨r,hr⟩:=(qfn hb (j:=K) k hle hj).1;exact hn (show sink∈(visV busy (qf9 hops,qao hops) k).2 by rw[hr];exact yaI _ hm)
 ·have:=(hK k (by omega)).1;simp only[vis0] at hk;omega
def qr1 (h:TreeOk busy hops) (hs:0<=sink/\sink<=24) (hj : ∀ j,j<k->j<(visV busy (vis0 hops) j).2.length) (hk:k<(visV busy (vis0 hops) k).2.length) (hn:(visV busy (vis0 hops) k).2.getD k 0=sink) :
  qaJ busy hops sink=some (hops++qbX (visV busy (vis0 hops) k).1 25 sink []):=by
 have hb:=qom (busy:=busy) h.rng h.nd;have hki:=qeR hb k hj;by_cases ht:sink∈qao hops
 ·rw[qaJ,if_pos ht];have hm:=qfn hb (j:=0) k (by omega) hj;have h0:(qf9 hops).getD sink.toNat 0 = -1:=by rw[qgG h.rng hs.1 hs.2,if_pos ht]
  have e:=hm.2 sink hs.1 hs.2 (by show(qf9 hops).getD sink.toNat 0≠-2;rw[h0];decide);have e1:(visV busy (vis0 hops) k).1.getD sink.toNat 0 = -1:=e.trans h0;have e2:qbX (visV busy (vis0 hops) k).1 25 sink []=[]:=by
   rw[show(25:Nat)=24+1 from rfl];simp only[qbX];rw[if_neg (by omega)]
  rw[e2,yaG]
 ·obtain⟨K,e,hK,hK2⟩:=qmK hb (sink:=sink) 26 0 rfl (fun j hj=>by omega);have e2:bfsC hops sink busy=visV busy (vis0 hops) K:=e;rw[qaJ,if_neg ht,e2];have hsk:(visV busy (vis0 hops) k).1.getD sink.toNat 0≠-2:=(hki.seen sink hs.1 hs.2).2 (by rw[<-hn];exact qad hk);have hle:K<=k:=Decidable.byContradiction fun hgt=>hsk (hK k (by omega)).2
  have hKi:=qeR hb K fun j hjK=>(hK j hjK).1
  have hm:=qfn hb (j:=K) k hle hj;have hf:(visV busy (vis0 hops) K).1.getD sink.toNat 0≠-2:=fun hf=>by
   have h1 : ¬ K<(visV busy (vis0 hops) K).2.length:=fun h1=>hK2 ⟨h1,hf⟩
   by_cases e3:K=k
   ·subst e3;exact h1 hk
   ·exact h1 (hj K (by omega))
  rw[if_neg hf];obtain⟨p,hp,hpe⟩:=qaV 0 ((hKi.seen sink hs.1 hs.2).1 hf);have:=qjU hKi hm 25 p [] hp;rw[hpe] at this;exact congrArg (fun x=>some (hops++x)) this.symm
end Go.VL

set_option linter.unusedVariables false
set_option linter.unusedSimpArgs false
namespace Go.VL
set_option linter.defProp false
variable {c:Circ}{v:Int}{busy:List (List Bool)}{place:List Int}{t u:Nat}
def qdl (cells:List Cel) (v:Int):Nat->Int
 | 0=>-1
 | i+1=>if(cells.getD i ce0).net=v then(i:Int) else qdl cells v i
structure Nin where
 net:Int
 cell:Int
 tile:Int
 sinks:List Int
 pads:List Int
def nin0:Nin:=⟨0,0,0,[],[]⟩
def ninC (c:Circ) (cells:List Cel) (v:Int):Nin:=⟨v,qdl cells v cells.length,(v-1)*5,qdm cells v,qa3 c v c.outs.length⟩
def qdU (c:Circ) (cells:List Cel):Nat->List Nin
 | 0=>[]
 | k+1=>qdU c cells k++(if 0<(ninC c cells ((k:Int)+1)).sinks.length+(ninC c cells ((k:Int)+1)).pads.length then [ninC c cells ((k:Int)+1)] else [])
def qhm (c:Circ) (cells:List Cel):List Nin:=qdU c cells (c.vars.toNat-1)
def srcT (n:Nin) (place:List Int):Int:=if 0<=n.cell then place.getD n.cell.toNat 0 else n.tile
def qa7 (n:Nin) (place:List Int):List Int:=srcT n place::(n.sinks.map (qbH place)++n.pads)
def qgK {cells:List Cel}(ha:cells.Pairwise fun a b=>a.net<b.net) (place:List Int) (v:Int) : ∀ n,n<=cells.length->
  (∃ j:Nat,j<n/\(cells.getD j ce0).net=v/\qbe cells place v n=[place.getD j 0]/\qdl cells v n=(j:Int))∨((∀ j,j<n->(cells.getD j ce0).net≠v)/\qbe cells place v n=[]/\qdl cells v n = -1)
 | 0,_=>.inr ⟨by omega,rfl,rfl⟩
 | n+1,hn=>by
  have hlt : ∀ j,j<n->(cells.getD j ce0).net<(cells.getD n ce0).net:=fun j hj=>by
   have:=List.pairwise_iff_getElem.1 ha j n (by omega) (by omega) hj;simpa [List.getD,show j<cells.length by omega,show n<cells.length by omega] using this
  rcases qgK ha place v n (by omega) with⟨j,h1,h2,h3,h4⟩|⟨h1,h2,h3⟩
  ·have:=hlt j h1;left;refine⟨j,by omega,h2,?_,?_⟩
   ·rw[qbe,h3,if_neg (by omega)];simp
   ·rw[qdl,if_neg (by omega),h4]
  ·by_cases e:(cells.getD n ce0).net=v
   ·left;refine⟨n,by omega,e,?_,?_⟩
    ·rw[qbe,h2,if_pos e];simp
    ·rw[qdl,if_pos e]
   ·right;refine⟨fun j hj=>?_,?_,?_⟩
    ·by_cases e2:j=n
     ·rw[e2];exact e
     ·exact h1 j (by omega)
    ·rw[qbe,h2,if_neg e];simp
    ·rw[qdl,if_neg e,h3]
def qcl (c:Circ) (i:Nat):(qaM c i).net=c.inputs+1+(i:Int):=by unfold qaM;split <;> rfl
def qhn (hc:c.Valid):(qae c).Pairwise fun a b=>a.net<b.net:=by
 have hok:=qdb hc;have hfd:c.first=1+c.inputs+(c.next.length:Int):=rfl
 rw[qae,List.pairwise_append];refine⟨?_,?_,fun a ha b hb=>?_⟩
 ·rw[List.pairwise_map];refine(List.pairwise_lt_range).imp fun {i j} h=>?_
  rw[qcl,qcl];omega
 ·rw[List.pairwise_map];exact hok.asc
 ·obtain⟨i,hi,rfl⟩:=List.mem_map.1 ha;obtain⟨l,hl,rfl⟩:=List.mem_map.1 hb;obtain⟨j,-,rfl⟩:=hok.each l hl;have:=List.mem_range.1 hi;rw[qcl];show _<c.first+(j:Int)
  omega
def qjV (hc:c.Valid) : ∀ x∈qae c,c.inputs<x.net/\x.net<c.vars:=by
 have hok:=qdb hc;have hfd:c.first=1+c.inputs+(c.next.length:Int):=rfl
 have hvv:c.vars=c.first+(c.gates.length:Int):=rfl
 intro x hx;rcases List.mem_append.1 hx with h|h
 ·obtain⟨i,hi,rfl⟩:=List.mem_map.1 h;have:=List.mem_range.1 hi;rw[qcl];omega
 ·obtain⟨l,hl,rfl⟩:=List.mem_map.1 h;obtain⟨j,hj,rfl⟩:=hok.each l hl;show _<c.first+(j:Int)/\c.first+(j:Int)<_
  omega
def qdk (hc:c.Valid) : ∀ x∈qae c,x.inputs.length<=3/\x.inputs.Nodup/\∀ z∈x.inputs,1<=z/\z<c.vars:=by
 have hok:=qdb hc;have hvv:c.vars=c.first+(c.gates.length:Int):=rfl
 intro x hx;rcases List.mem_append.1 hx with h|h
 ·obtain⟨i,hi,rfl⟩:=List.mem_map.1 h;have hi2:=List.mem_range.1 hi;have hno:=hc.n _ (qad hi2:c.next.getD i 0∈c.next);unfold qaY at hno;unfold qaM;split
  ·refine⟨by simp,by simp,fun z hz=>?_⟩;obtain rfl:z=c.next.getD i 0/2:=by simpa using hz
   omega
  ·exact⟨by simp,by simp,by simp⟩
 ·obtain⟨l,hl,rfl⟩:=List.mem_map.1 h;obtain⟨j,hj,rfl⟩:=hok.each l hl;obtain⟨b1,b2,b3⟩:=qcI hc hj;refine⟨b2,?_,fun z hz=>?_⟩
  ·exact List.nodup_iff_pairwise_ne.2 (List.Pairwise.imp (fun {a b} h=>by omega) b1)
  ·have:=b3 z hz;omega
def cell_of (hc:c.Valid) (h0:c.inputs<v) (h1:v<c.vars) (hu:v∈qbl c∨∃ x∈qae c,v∈x.inputs) : ∃ x∈qae c,x.net=v:=by
 have hfd:c.first=1+c.inputs+(c.next.length:Int):=rfl
 have hvv:c.vars=c.first+(c.gates.length:Int):=rfl
 by_cases hl:v<c.first
 ·obtain⟨i,rfl⟩ : ∃ i:Nat,v=c.inputs+1+(i:Int):=⟨(v-c.inputs-1).toNat,by omega⟩;exact⟨qaM c i,yaI _ (List.mem_map.2 ⟨i,List.mem_range.2 (by omega),rfl⟩),qcl c i⟩
 ·obtain⟨i,rfl⟩ : ∃ i:Nat,v=c.first+(i:Int):=⟨(v-c.first).toNat,by omega⟩
  have hin:qfm c i∈qdw c:=by
   rw[qrV hc (by omega)];rcases hu with h|⟨x,hx,hxi⟩
   ·exact .inl h
   ·rcases List.mem_append.1 hx with h|h
    ·obtain⟨k,hk,rfl⟩:=List.mem_map.1 h;have hk2:=List.mem_range.1 hk;left;unfold qaM at hxi;split at hxi
     ·obtain h3:c.first+(i:Int)=c.next.getD k 0/2:=by simpa using hxi
      rw[h3];exact List.mem_map.2 ⟨_,List.mem_append_right _ (qad hk2),rfl⟩
     ·simp at hxi
    ·obtain⟨l,hl2,rfl⟩:=List.mem_map.1 h;exact .inr ⟨l,hl2,hxi⟩
  exact⟨qa6 (qfm c i),List.mem_append_right _ (List.mem_map.2 ⟨_,hin,rfl⟩),rfl⟩
def qp5 (hc:c.Valid) (place:List Int) (h0:1<=v) (h1:v<c.vars) (hu:qay c (qae c) place v≠[]) :
  qhf c v++qbe (qae c) place v (qae c).length=[srcT (ninC c (qae c) v) place]:=by
 have ha:=qhn hc;have hn:=qjV hc;unfold qhf;have hT:srcT (ninC c (qae c) v) place=if 0<=qdl (qae c) v (qae c).length then place.getD (qdl (qae c) v (qae c).length).toNat 0 else(v-1)*5:=rfl
 rw[hT];rcases qgK ha place v (qae c).length (yad _) with⟨j,h2,h3,h4,h5⟩|⟨h2,h3,h4⟩
 ·have:=hn _ (qad h2:(qae c).getD j ce0∈qae c);rw[h4,h5,if_neg (by omega),if_pos (by omega)];simp
 ·rw[h3,h4,if_neg (show ¬ (0:Int)<=-1 by decide)];by_cases hi:v<=c.inputs
  ·rw[if_pos ⟨h0,hi⟩];simp
  ·exfalso;have:v∈qbl c∨∃ x∈qae c,v∈x.inputs:=by
    cases hs:qay c (qae c) place v with
    | nil=>exact absurd hs hu
    | cons t r=>
     have ht:t∈qay c (qae c) place v:=by rw[hs];simp
     rcases qcJ.1 ht with⟨i,g1,g2,-⟩|⟨o,g1,g2,-⟩
     ·exact .inr ⟨_,qad g1,g2⟩
     ·left;rw[<-g2];exact List.mem_map.2 ⟨_,yaI _ (qad g1),rfl⟩
   obtain⟨x,hx,hxv⟩:=cell_of hc (by omega) h1 this;obtain⟨j,hj,rfl⟩:=qaV ce0 hx;exact h2 j hj hxv
def qgL {busy:List Bool} : ∀ (l:List Int),l.foldl (fun o t=>o.bind fun hops=>qaJ busy hops t) (none:Option (List (Int×Int)))=none
 | []=>rfl
 | _::l=>qgL l
def qmL {busy:List Bool} : ∀ (l out:List Int) (hs:List (Int×Int)),(∀ t∈l,0<=t/\t<=24)->TreeOk busy hs->(∀ t∈out,t∈qao hs)->
  l.foldl (fun o t=>o.bind fun hops=>qaJ busy hops t) (some hs)=((l.foldl addU out).drop out.length).foldl (fun o t=>o.bind fun hops=>qaJ busy hops t) (some hs)
 | [],out,hs,_,_,_=>by simp
 | t::l,out,hs,hl,ht,ho=>by
  rw[yao,yao,ybk];by_cases hm:t∈out
  ·rw[show addU out t=out by unfold addU;rw[if_pos hm],show qaJ busy hs t=some hs by rw[qaJ,if_pos (ho t hm)]];exact qmL l out hs (fun z hz=>hl z (by simp[hz])) ht ho
  ·obtain⟨r,hr⟩:=qeu (l:=l) (out:=out ++ [t]);have e0:addU out t=out ++ [t]:=by unfold addU;rw[if_neg hm]
   have e1:((l.foldl addU (addU out t)).drop out.length)=t::((l.foldl addU (addU out t)).drop (addU out t).length):=by
    rw[e0,hr,yar];simp
   rw[e1,yao,ybk];cases he:qaJ busy hs t with
   | none=>rw[qgL,qgL]
   | some h2=>
    obtain⟨a1,a2,r1,a3⟩:=qgH ht (hl t (by simp)) he;refine qmL l (addU out t) h2 (fun z hz=>hl z (by simp[hz])) a1 fun z hz=>?_
    rcases qnr.1 hz with h|rfl
    ·rw[a3];simp only[qao,yaz,yax];exact .inl (ho z h)
    ·exact a2
def qp6 {busy:List Bool}{s:Int}{l:List Int}(hs:0<=s/\s<=24) (hl : ∀ t∈l,0<=t/\t<=24):qeQ busy (s::l)=qeQ busy (l.foldl addU [s]):=by
 obtain⟨r,hr⟩:=qeu (l:=l) (out:=[s]);have e0:(l.foldl addU [s]).getD 0 0=s:=by rw[hr];rfl
 unfold qeQ;rw[e0,show(s::l).getD 0 0=s from rfl];by_cases hb:busy.getD s.toNat false=true
 ·rw[if_pos hb,if_pos hb]
 ·rw[if_neg hb,if_neg hb];refine qmL l [s] [(s,-1)] hl ⟨fun x hx=>?_,by simp[qao],fun x hx=>?_,by simp,fun j hj=>?_⟩ (by simp[qao])
  ·obtain rfl:x=(s,-1):=by simpa using hx
   exact hs
  ·obtain rfl:x=(s,-1):=by simpa using hx
   simpa using hb
  ·obtain rfl:j=0:=by simpa using hj
   exact .inl ⟨rfl,rfl⟩
def qjW {p q:List Int}(h : ∀ busy,qeQ busy p=qeQ busy q) {busy:List (List Bool)} : ∀ f t,netB p busy f t=netB q busy f t
 | 0,t=>rfl
 | f+1,t=>by
  simp only[netB,h];split
  ·rfl
  ·exact qjW h f (t+1)
def qgb (c:Circ) (cells:List Cel) (place:List Int) (v:Int):qa7 (ninC c cells v) place=srcT (ninC c cells v) place::qay c cells place v:=rfl
def qcO {cells:List Cel}:qay c cells place v=[]↔¬ 0<(ninC c cells v).sinks.length+(ninC c cells v).pads.length:=by
 rw[qay,List.append_eq_nil_iff,List.map_eq_nil_iff];show qdm cells v=[]/\qa3 c v c.outs.length=[]↔¬ 0<(qdm cells v).length+(qa3 c v c.outs.length).length
 rw[<-List.length_eq_zero_iff,<-List.length_eq_zero_iff];omega
def qgM (hc:c.Valid) (place:List Int) (h0:1<=v) (h1:v<c.vars) (hu:qay c (qae c) place v≠[]) :
  qdx c (qae c) place v=(qay c (qae c) place v).foldl addU [srcT (ninC c (qae c) v) place]:=by
 rw[qdx,if_neg hu,qp5 hc place h0 h1 hu]
def qi0 (hc:c.Valid) (place:List Int) (h0:1<=v) (h1:v<c.vars):qdx c (qae c) place v=[]↔qay c (qae c) place v=[]:=by
 constructor
 ·intro h;refine Decidable.byContradiction fun hu=>?_
  rw[qgM hc place h0 h1 hu] at h;obtain⟨r,hr⟩:=qeu (l:=qay c (qae c) place v) (out:=[srcT (ninC c (qae c) v) place]);rw[hr] at h;simp at h
 ·intro h;rw[qdx,if_pos h]
def qjX (hc:c.Valid) (hp:PlaceOk (qae c).length place) (h0:1<=v) (h1:v<c.vars) (hu:qay c (qae c) place v≠[]) : ∀ t∈qa7 (ninC c (qae c) v) place,0<=t/\t<=24:=by
 intro t ht;refine qgz hc hp (net:=v) t ?_;rw[qgM hc place h0 h1 hu,qgy];rw[qgb] at ht;rcases List.mem_cons.1 ht with h|h
 ·exact .inl (by simp[h])
 ·exact .inr h
def qr2 (hc:c.Valid) (hp:PlaceOk (qae c).length place) (h0:1<=v) (h1:v<c.vars) (hu:qay c (qae c) place v≠[]) (busy:List (List Bool)) (f t:Nat) :
  netB (qa7 (ninC c (qae c) v) place) busy f t=netB (qdx c (qae c) place v) busy f t:=by
 have hb:=qjX hc hp h0 h1 hu;rw[qgb] at hb;rw[qgb,qgM hc place h0 h1 hu];exact qjW (fun b=>qp6 (hb _ (by simp)) fun t ht=>hb t (by simp[ht])) f t
def qi1 (place:List Int) (o:Option (List (List Bool)×List Rt)) (n:Nin):Option (List (List Bool)×List Rt):=
 o.bind fun s=>match netB (qa7 n place) s.1 8 0 with
  | none=>none
  | some (t,h)=>some (takeB s.1 t h,s.2 ++ [⟨n.net,(t:Int),h⟩])
def qi2 {place:List Int} : ∀ (l:List Nin),l.foldl (qi1 place) none=none
 | []=>rfl
 | _::l=>qi2 l
def qjY {c:Circ}(hc:c.Valid) {place:List Int}(hp:PlaceOk (qae c).length place) (busy0:List (List Bool)) : ∀ k:Nat,(k:Int)<c.vars->(qdU c (qae c) k).foldl (qi1 place) (some (busy0,[]))=qcL c (qae c) place busy0 k
 | 0,_=>rfl
 | k+1,hk=>by
  have ih:=qjY hc hp busy0 k (by omega);have hp1:=qi0 hc place (v:=(k:Int)+1) (by omega) (by omega);rw[qdU,yaM,ih,qcL];by_cases hu:qay c (qae c) place ((k:Int)+1)=[]
  ·rw[if_neg (qcO.1 hu)];cases qcL c (qae c) place busy0 k with
   | none=>rfl
   | some s=>simp only[hp1.2 hu,if_true];rfl
  ·rw[if_pos (Decidable.byContradiction fun h=>hu (qcO.2 h))];cases qcL c (qae c) place busy0 k with
   | none=>rfl
   | some s=>
    simp only[if_neg (fun h=>hu (hp1.1 h))];show qi1 place (some s) _=_
    rw[qi1,ybk,qr2 hc hp (v:=(k:Int)+1) (by omega) (by omega) hu];rfl
def qoq (hc:c.Valid) (hp:PlaceOk (qae c).length place) (busy0:List (List Bool)):qcy c (qae c) place busy0=((qhm c (qae c)).foldl (qi1 place) (some (busy0,[]))).map (·.2):=by
 have:=hc.first_bd;have:=hc.vars_bd;rw[qcy,qhm,qjY hc hp busy0 _ (by omega)]
def qcb (busy:List (List Bool)):List Bool:=(List.range 200).map fun k=>(busy.getD (k%8) []).getD (k/8) false
def qbt (busy:List (List Bool)):(qcb busy).length=200:=by simp[qcb]
def qlL (ht:t<25) (hu:u<8):(qcb busy).getD (t*8+u) false=(busy.getD u []).getD t false:=by
 rw[List.getD_eq_getElem?_getD,List.getElem?_eq_getElem (by rw[qbt];omega)];simp only[qcb,List.getElem_map,List.getElem_range,yag];rw[show(t*8+u)%8=u by omega,show(t*8+u)/8=t by omega]
def qlM (ht:t<25) (hu:u<8) (hb:u<busy.length) (hl:t<(busy.getD u []).length):(qcb busy).set (t*8+u) true=qcb (busy.set u ((busy.getD u []).set t true)):=by
 refine ybf (by simp[qcb]) fun k h1 h2=>?_
 rw[List.getElem_set];simp only[qcb,List.getElem_map,List.getElem_range];by_cases e:t*8+u=k
 ·subst e;rw[if_pos rfl,show(t*8+u)%8=u by omega,show(t*8+u)/8=t by omega];simp only[List.getD,List.getElem?_set,hb,if_true,yag] at hl ⊢;simp[hl]
 ·rw[if_neg e];by_cases e2:u=k%8
  ·have e3:t≠k/8:=by omega
   subst e2;simp[List.getD,List.getElem?_set,hb,e3]
  ·simp[List.getD,List.getElem?_set,e2]
end Go.VL

set_option linter.unusedVariables false
set_option linter.unusedSimpArgs false
namespace Go.VL
set_option linter.defProp false
def qp7 {hops:List (Int×Int)}(hn:(qao hops).Nodup) {i j:Nat}(hi:i<hops.length) (hj:j<hops.length) (h:(hops.getD i (0,0)).1=(hops.getD j (0,0)).1):i=j:=by
 refine qev.1 hn i j (by simp[qao];omega) (by simp[qao];omega) ?_;have e : ∀ k,k<hops.length->(qao hops).getD k 0=(hops.getD k (0,0)).1:=fun k hk=>by simp[qao,List.getD,hk]
 rw[e i hi,e j hj,h]
def qi3 {c:Circ}{cells:List Cel}{place:List Int} : ∀ k:Nat,(qex c cells place k).Nodup/\(∀ n∈qex c cells place k,1<=n/\n<=k)/\(qex c cells place k).length<=k
 | 0=>by simp[qex]
 | k+1=>by
  obtain⟨h1,h2,h3⟩:=qi3 (c:=c) (cells:=cells) (place:=place) k;rw[qga];split
  ·rw[yaG];exact⟨h1,fun n hn=>by have:=h2 n hn;omega,by omega⟩
  ·refine⟨?_,fun n hn=>?_,by simp;omega⟩
   ·rw[ybl];refine⟨h1,by simp,fun a ha b hb e=>?_⟩;obtain rfl:b=(k:Int)+1:=by simpa using hb
    have:=h2 a ha;omega
   ·rcases List.mem_append.1 hn with h|h
    ·have:=h2 n h;omega
    ·obtain rfl:n=(k:Int)+1:=by simpa using h
     omega
structure RtsOk (routes:List Rt):Prop where
 nd:(routes.map (·.net)).Nodup
 net : ∀ r∈routes,1<=r.net
 tree : ∀ r∈routes,∃ busy,TreeOk busy r.hops
 len:routes.length<=100
def RtsOk.hops {routes:List Rt}(h:RtsOk routes) : ∀ r∈routes,r.hops.length<=25:=fun r hr=>by
 obtain⟨b,hb⟩:=h.tree r hr;exact qdz hb
end Go.VL

set_option linter.unusedVariables false
set_option linter.unusedSimpArgs false
namespace Go.VL
set_option linter.defProp false
variable {c:Circ}{cells:List Cel}{place:List Int}
def qlN (cells:List Cel) (place:List Int) (net:Int):Nat->List Int
 | 0=>[]
 | i+1=>qlN cells place net i++(if net∈(cells.getD i ce0).inputs then [place.getD i 0] else [])
def qjZ {cells:List Cel}{place:List Int}{net t:Int} : ∀ {n:Nat},t∈qlN cells place net n↔∃ i:Nat,i<n/\net∈(cells.getD i ce0).inputs/\t=place.getD i 0
 | 0=>by simp[qlN]
 | n+1=>by
  rw[qlN,yax,qjZ];constructor
  ·rintro(⟨o,h1,h2,h3⟩|h)
   ·exact⟨o,by omega,h2,h3⟩
   ·split at h
    ·rename_i h2;exact⟨n,by omega,h2,by simpa using h⟩
    ·simp at h
  ·rintro⟨o,h1,h2,h3⟩;by_cases ho:o<n
   ·exact .inl ⟨o,ho,h2,h3⟩
   ·obtain rfl:o=n:=by omega
    rw[if_pos h2];exact .inr (by simp[h3])
def qp8 (c:Circ) (cells:List Cel) (place:List Int) (net:Int):List Int:=qlN cells place net cells.length++qa3 c net c.outs.length
def qj0 {net t:Int}:t∈qp8 c cells place net↔t∈qay c cells place net:=by
 rw[qp8,yax,qjZ,qhh,qcJ]
def srcK (cells:List Cel) (place:List Int) (net:Int):Nat->Int
 | 0=>(net-1)*5
 | k+1=>if(cells.getD k ce0).net=net then place.getD k 0 else srcK cells place net k
def qmM {cells:List Cel}{place:List Int}{net:Int} : ∀ k,srcK cells place net k=if 0<=qdl cells net k then place.getD (qdl cells net k).toNat 0 else(net-1)*5
 | 0=>by simp[srcK,qdl]
 | k+1=>by
  rw[srcK,qdl];by_cases h:(cells.getD k ce0).net=net
  ·rw[if_pos h,if_pos h,if_pos (by omega),yba]
  ·rw[if_neg h,if_neg h];exact qmM k
def qho {k:Nat}{n:Int}:n∈qex c cells place k↔(1<=n/\n<=k)/\qdx c cells place n≠[]:=by
 rw[qex,List.mem_filter,decide_eq_true_eq];refine and_congr_left fun _=>?_
 constructor
 ·intro h;obtain⟨j,hj,rfl⟩:=List.mem_map.1 h;have:=List.mem_range.1 hj;omega
 ·rintro⟨h1,h2⟩;exact List.mem_map.2 ⟨(n-1).toNat,List.mem_range.2 (by omega),by omega⟩
def qi4 (hc:c.Valid) {busy0 busy:List (List Bool)}{rs:List Rt}(h:RoutesOk c (qae c) place busy0 (c.vars.toNat-1) busy rs) {r:Rt}(hr:r∈rs) :
  (∀ t∈qp8 c (qae c) place r.net,t∈qao r.hops)/\(r.hops.getD 0 (0,0)).1=srcK (qae c) place r.net (qae c).length:=by
 have hk:=h.each r hr;have hv:=hc.vars_bd;have hf:=hc.first_bd;have hn:r.net∈qex c (qae c) place (c.vars.toNat-1):=by rw[<-h.nets];exact List.mem_map.2 ⟨r,hr,rfl⟩
 obtain⟨h1,h2⟩:=qho.1 hn;have hu:qay c (qae c) place r.net≠[]:=fun h3=>h2 ((qi0 hc place h1.1 (by omega)).2 h3)
 have hp:=qgM hc place h1.1 (by omega:r.net<c.vars) hu;refine⟨fun t ht=>hk.pins t ?_,?_⟩
 ·rw[hp,qgy];exact .inr (qj0.1 ht)
 ·obtain⟨q,hq⟩:=hk.src;obtain⟨r2,hr2⟩:=qeu (l:=qay c (qae c) place r.net) (out:=[srcT (ninC c (qae c) r.net) place]);rw[hp,hr2] at hq;rw[hq,qmM];rfl
end Go.VL
