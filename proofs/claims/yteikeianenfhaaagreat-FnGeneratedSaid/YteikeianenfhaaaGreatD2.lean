/- Contracts, plain definitions and lemmas. Conditions: none; lemmas. -/
import Derived.Test.YteikeianenfhaaaGreatC63
set_option linter.unusedVariables false
set_option linter.unusedSimpArgs false
set_option maxHeartbeats 2000000
namespace Go.VL
structure BusyOk (busy:List (List Bool)):Prop where
 len:busy.length=8
 row : ∀ t,t<8->(busy.getD t []).length=25
theorem free0_ok:BusyOk qkK:=⟨by simp[qkK],fun t ht=>by rw[qkK,qqU ht];simp⟩
theorem qlT : ∀ (hops:List (Int×Int)) (b:List Bool),(qgq b hops).length=b.length
 | [],b=>rfl
 | h::hs,b=>by
  show(qgq (b.set h.1.toNat true) hs).length=_
  rw[qlT hs,yax]
theorem qlU : ∀ (hops:List (Int×Int)) (b:List Bool),b.length=25->(∀ h∈hops,0<=h.1/\h.1<=24)->∀ x:Int,0<=x->x<=24->(qgq b hops).getD x.toNat false=(b.getD x.toNat false || decide (x∈qak hops))
 | [],b,_,_,x,_,_=>by simp[qgq,qak]
 | h::hs,b,hb,hr,x,h0,h1=>by
  have hh:=hr h (by simp);show(qgq (b.set h.1.toNat true) hs).getD x.toNat false=_
  rw[qlU hs _ (by simp[hb]) (fun z hz=>hr z (by simp[hz])) x h0 h1];have hm:x∈qak (h::hs)↔x=h.1∨x∈qak hs:=by simp[qak]
  by_cases e:x=h.1
  ·subst e;have e1:(b.set h.1.toNat true).getD h.1.toNat false=true:=by simp[List.getD,show h.1.toNat<b.length by omega]
   rw[e1,decide_eq_true (hm.2 (.inl rfl))];simp
  ·have e1:(b.set h.1.toNat true).getD x.toNat false=b.getD x.toNat false:=by
    simp[List.getD,List.getElem?_set,show ¬ h.1.toNat=x.toNat by omega]
   rw[e1];congr 1;exact decide_eq_decide.2 (by rw[hm];simp[e])
theorem qqX {busy:List (List Bool)}(hb:BusyOk busy) {t:Nat}(ht:t<8) {hops:List (Int×Int)}(hr : ∀ h∈hops,0<=h.1/\h.1<=24) {u:Nat}(hu:u<8) {x:Int}(h0:0<=x) (h1:x<=24) :
  ((takeB busy t hops).getD u []).getD x.toNat false=((busy.getD u []).getD x.toNat false || decide (u=t/\x∈qak hops)):=by
 have hl:=hb.len;unfold takeB;by_cases e:t=u
 ·subst e;have e1:(busy.set t (qgq (busy.getD t []) hops)).getD t []=qgq (busy.getD t []) hops:=by simp[List.getD,show t<busy.length by omega]
  rw[e1,qlU hops _ (hb.row t ht) hr x h0 h1];simp
 ·have e1:(busy.set t (qgq (busy.getD t []) hops)).getD u []=busy.getD u []:=by simp[List.getD,List.getElem?_set,e]
  rw[e1];simp[Ne.symm e]
theorem qkM {busy:List (List Bool)}(hb:BusyOk busy) {t:Nat}(ht:t<8) {hops:List (Int×Int)}:BusyOk (takeB busy t hops):=by
 have hl:=hb.len;refine⟨by simp[takeB,hl],fun u hu=>?_⟩;unfold takeB;by_cases e:t=u
 ·subst e;have e1:(busy.set t (qgq (busy.getD t []) hops)).getD t []=qgq (busy.getD t []) hops:=by simp[List.getD,show t<busy.length by omega]
  rw[e1,qlT];exact hb.row t ht
 ·have e1:(busy.set t (qgq (busy.getD t []) hops)).getD u []=busy.getD u []:=by simp[List.getD,List.getElem?_set,e]
  rw[e1];exact hb.row u hu
structure RtOk (c:Circ) (cells:List Cel) (place:List Int) (busy0:List (List Bool)) (k:Nat) (r:Rt):Prop where
 net:1<=r.net/\r.net<=k
 track:0<=r.track/\r.track<8
 tree:TreeOk (busy0.getD r.track.toNat []) r.hops
 pins : ∀ t∈qfz c cells place r.net,t∈qak r.hops
 src : ∃ q,r.hops=((qfz c cells place r.net).getD 0 0,-1)::q
def qqY (out:List Rt) (t:Nat) (x:Int):Prop:=∃ r∈out,r.track=(t:Int)/\x∈qak r.hops
def qqZ (a b:Rt):Prop:=a.track=b.track->∀ x∈qak a.hops,x∉qak b.hops
def qd8 (c:Circ) (cells:List Cel) (place:List Int) (k:Nat):List Int:=((List.range k).map fun(j:Nat)=>(j:Int)+1).filter fun n=>decide (qfz c cells place n≠[])
theorem qf0 {c:Circ}{cells:List Cel}{place:List Int}{k:Nat}:qd8 c cells place (k+1)=qd8 c cells place k++(if qfz c cells place ((k:Int)+1)=[] then [] else [(k:Int)+1]):=by
 rw[qd8,yaO,yaE,List.filter_append];congr 1;by_cases h:qfz c cells place ((k:Int)+1)=[]
 ·simp[h]
 ·simp[h]
structure RoutesOk (c:Circ) (cells:List Cel) (place:List Int) (busy0:List (List Bool)) (k:Nat) (busy:List (List Bool)) (out:List Rt):Prop where
 bok:BusyOk busy
 used : ∀ t,t<8->∀ x:Int,0<=x->x<=24->((busy.getD t []).getD x.toNat false=true↔(busy0.getD t []).getD x.toNat false=true∨qqY out t x)
 each : ∀ r∈out,RtOk c cells place busy0 k r
 apart:out.Pairwise qqZ
 nets:out.map (·.net)=qd8 c cells place k
theorem qlV {c:Circ}{cells:List Cel}{place:List Int}{busy0:List (List Bool)}(hc:c.Valid) (hp:PlaceOk cells.length place) (hb0:BusyOk busy0) : ∀ (k:Nat) {busy:List (List Bool)}{out:List Rt},qfG c cells place busy0 k=some (busy,out)->RoutesOk c cells place busy0 k busy out
 | 0,busy,out,h=>by
  simp only[qfG,yab,yac] at h;obtain⟨rfl,rfl⟩:=h;exact⟨hb0,fun t ht x h0 h1=>by simp[qqY],by simp,by simp,by simp[qd8]⟩
 | k+1,busy,out,h=>by
  simp only[qfG] at h;split at h
  ·cases h
  ·rename_i busy1 out1 h1;have ih:=qlV hc hp hb0 k h1;have weak : ∀ {r:Rt},RtOk c cells place busy0 k r->RtOk c cells place busy0 (k+1) r:=fun {r} q=>⟨by have:=q.net;omega,q.track,q.tree,q.pins,q.src⟩
   split at h
   ·rename_i hpn;simp only[yab,yac] at h;obtain⟨rfl,rfl⟩:=h;exact⟨ih.bok,ih.used,fun r hr=>weak (ih.each r hr),ih.apart,by rw[qf0,if_pos hpn,yaL];exact ih.nets⟩
   ·rename_i hpn;split at h
    ·cases h
    ·rename_i t hs h2;simp only[yab,yac] at h;obtain⟨rfl,rfl⟩:=h;obtain⟨-,ht8,ht,-⟩:=qm5 8 0 h2;have ht8:t<8:=by omega
     obtain⟨b1,b2,b3⟩:=qkL (qnY hc hp) hpn ht;have hfree : ∀ h∈hs,(busy0.getD t []).getD h.1.toNat false=false/\¬ qqY out1 t h.1:=fun h hh=>by
      have hr:=b1.rng h hh;have:=(not_congr (ih.used t ht8 h.1 hr.1 hr.2)).1 (by rw[b1.free h hh];simp);exact⟨by simpa using fun e=>this (.inl e),fun e=>this (.inr e)⟩
     refine⟨qkM ih.bok ht8,fun u hu x h0 h1=>?_,fun r hr=>?_,?_,?_⟩
     ·rw[qqX ih.bok ht8 b1.rng hu h0 h1,yaT,ih.used u hu x h0 h1,decide_eq_true_eq,or_assoc];refine or_congr_right ?_;constructor
      ·rintro(⟨r,hr,e1,e2⟩|⟨rfl,e2⟩)
       ·exact⟨r,yaC _ hr,e1,e2⟩
       ·exact⟨⟨(k:Int)+1,(u:Int),hs⟩,List.mem_append_right _ (by simp),rfl,e2⟩
      ·rintro⟨r,hr,e1,e2⟩;rcases List.mem_append.1 hr with h3|h3
       ·exact .inl ⟨r,h3,e1,e2⟩
       ·obtain rfl:r=⟨(k:Int)+1,(t:Int),hs⟩:=by simpa using h3
        exact .inr ⟨by simp only at e1;omega,e2⟩
     ·rcases List.mem_append.1 hr with h3|h3
      ·exact weak (ih.each r h3)
      ·obtain rfl:r=⟨(k:Int)+1,(t:Int),hs⟩:=by simpa using h3
       refine⟨by simp only;omega,by simp only;omega,?_,b2,b3⟩;have e:((t:Int)).toNat=t:=by omega
       simp only[e];exact⟨b1.rng,b1.nd,fun h hh=>(hfree h hh).1,b1.pos,b1.root⟩
     ·rw[List.pairwise_append];refine⟨ih.apart,by simp,fun a ha b hb e x hx hx2=>?_⟩;obtain rfl:b=⟨(k:Int)+1,(t:Int),hs⟩:=by simpa using hb
      obtain⟨h,hh,rfl⟩:=List.mem_map.1 hx2;exact(hfree h hh).2 ⟨a,ha,e,hx⟩
     ·rw[qf0,if_neg hpn,yaE,ih.nets];rfl
theorem RtOk.len {c:Circ}{cells:List Cel}{place:List Int}{busy0:List (List Bool)}{k:Nat}{r:Rt}(h:RtOk c cells place busy0 k r):r.hops.length<=25:=qex h.tree
end Go.VL

set_option linter.unusedVariables false
set_option linter.unusedSimpArgs false
namespace Go.VL
def visV (busy:List Bool) (s0:BS):Nat->BS
 | 0=>s0
 | k+1=>visitB busy (visV busy s0 k) ((visV busy s0 k).2.getD k 0)
def MonoB (s s':BS):Prop:=(∃ r,s'.2=s.2++r)/\∀ t:Int,0<=t->t<=24->s.1.getD t.toNat 0≠-2->s'.1.getD t.toNat 0=s.1.getD t.toNat 0
theorem MonoB.rfl (s:BS):MonoB s s:=⟨⟨[],by simp⟩,fun _ _ _ _=>Eq.refl _⟩
theorem MonoB.trans {a b c:BS}(h:MonoB a b) (g:MonoB b c):MonoB a c:=by
 obtain⟨⟨r,hr⟩,h2⟩:=h;obtain⟨⟨u,hu⟩,g2⟩:=g;refine⟨⟨r++u,by rw[hu,hr,yaq]⟩,fun t h0 h1 ht=>?_⟩;have e:=h2 t h0 h1 ht;rw[g2 t h0 h1 (by rw[e];exact ht),e]
theorem qjQ {busy:List Bool}{T:List Int}{s:BS}(h:BInv busy T s) {q n:Int}(hn:0<=n/\n<=24):MonoB s (qiU busy q s n):=by
 refine⟨qlS,fun t h0 h1 ht=>?_⟩;unfold qiU;split
 ·rename_i hc;have hl:=h.len;rw[qcY (by omega),if_neg];intro e;have:t=n:=by omega
  subst this;exact ht hc.1
 ·rfl
theorem qjR {busy:List Bool}{T:List Int}{q:Int} : ∀ (l:List Int) {s:BS},BInv busy T s->q∈s.2->(∀ n∈l,n∈nbC q)->MonoB s (l.foldl (qiU busy q) s)
 | [],s,h,_,_=>MonoB.rfl s
 | n::l,s,h,hq,hl=>by
  have hn:=qlR (h.rng q hq) n (hl n (by simp));have m1:=qjQ h (q:=q) hn.1;obtain⟨r,hr⟩:=m1.1;exact m1.trans (qjR l (h.step hq (hl n (by simp))) (by rw[hr];exact yaC _ hq) fun m hm=>hl m (by simp[hm]))
theorem qoZ {busy:List Bool}{T:List Int}{s:BS}(h:BInv busy T s) {q:Int}(hq:q∈s.2):MonoB s (visitB busy s q):=qjR _ h hq fun _ hn=>hn
theorem qey {busy:List Bool}{T:List Int}{s0:BS}(h:BInv busy T s0) : ∀ k,(∀ j,j<k->j<(visV busy s0 j).2.length)->BInv busy T (visV busy s0 k)
 | 0,_=>h
 | k+1,hj=>(qey h k fun j hjk=>hj j (by omega)).visit (qac (hj k (by omega)))
theorem qe6 {busy:List Bool}{T:List Int}{s0:BS}(h:BInv busy T s0) {j:Nat} : ∀ k,j<=k->(∀ i,i<k->i<(visV busy s0 i).2.length)->MonoB (visV busy s0 j) (visV busy s0 k)
 | 0,hk,_=>by
          obtain rfl:j=0:=by omega
          exact MonoB.rfl _
 | k+1,hk,hi=>by
  by_cases e:j=k+1
  ·subst e;exact MonoB.rfl _
  ·exact(qe6 h k (by omega) fun i hik=>hi i (by omega)).trans (qoZ (qey h k fun i hik=>hi i (by omega)) (qac (hi k (by omega))))
theorem qjS {busy:List Bool}{T:List Int}{s s':BS}(h:BInv busy T s) (hm:MonoB s s') : ∀ (f p:Nat) (acc:List (Int×Int)),p<s.2.length->qct s'.1 f (s.2.getD p 0) acc=qct s.1 f (s.2.getD p 0) acc
 | 0,p,acc,_=>rfl
 | f+1,p,acc,hp=>by
  have hpm:s.2.getD p 0∈s.2:=qac hp;have hr:=h.rng _ hpm;have e:=hm.2 _ hr.1 hr.2 ((h.seen _ hr.1 hr.2).2 hpm);simp only[qct,e];rcases h.root p hp with⟨h1,-⟩|⟨h1,-,-,m,h4,h5,-⟩
  ·rw[if_neg (by omega),if_neg (by omega)]
  ·rw[if_pos h1,if_pos h1,<-h5];exact qjS h hm f m _ (by omega)
theorem qm6 {busy:List Bool}{T:List Int}{s0:BS}(h:BInv busy T s0) {sink:Int} : ∀ (f k:Nat),f+k=26->(∀ j,j<k->j<(visV busy s0 j).2.length/\(visV busy s0 j).1.getD sink.toNat 0 = -2)->
  ∃ K,bfsN busy sink f k (visV busy s0 k)=visV busy s0 K/\(∀ j,j<K->j<(visV busy s0 j).2.length/\(visV busy s0 j).1.getD sink.toNat 0 = -2)/\¬ (K<(visV busy s0 K).2.length/\(visV busy s0 K).1.getD sink.toNat 0 = -2)
 | 0,k,hk,hj=>by
  have h1:=(qey h k fun j hjk=>(hj j hjk).1).qlen;exact⟨k,rfl,hj,fun hc=>by omega⟩
 | f+1,k,hk,hj=>by
  rw[bfsN];split
  ·rename_i hc;exact qm6 h f (k+1) (by omega) fun j hjk=>by
    by_cases e:j=k
    ·subst e;exact hc
    ·exact hj j (by omega)
  ·rename_i hc;exact⟨k,rfl,hj,hc⟩
def vis0 (hops:List (Int×Int)):BS:=(qhE hops,qak hops)
theorem qtk {busy:List Bool}{hops:List (Int×Int)}(h:TreeOk busy hops) {sink:Int}(hs:0<=sink/\sink<=24) {k:Nat}(hj : ∀ j,j<k->j<(visV busy (vis0 hops) j).2.length) (hk:k=(visV busy (vis0 hops) k).2.length) (hn:sink∉(visV busy (vis0 hops) k).2):qa5 busy hops sink=none:=by
 have hb:=qqW (busy:=busy) h.rng h.nd;obtain⟨K,e,hK,hK2⟩:=qm6 hb (sink:=sink) 26 0 rfl (fun j hj=>by omega);have e2:bfsC hops sink busy=visV busy (vis0 hops) K:=e;have hnt:sink∉qak hops:=fun hm=>by
  obtain⟨r,hr⟩:=(qe6 hb (j:=0) k (by omega) hj).1;exact hn (show sink∈(visV busy (qhE hops,qak hops) k).2 by rw[hr];exact yaC _ hm)
 rw[qa5,if_neg hnt,e2,if_pos];refine Decidable.byContradiction fun hf=>?_
 have hKi:=qey hb K fun j hjK=>(hK j hjK).1
 have hm:=(hKi.seen sink hs.1 hs.2).1 hf;by_cases hle:K<=k
 ·obtain⟨r,hr⟩:=(qe6 hb (j:=K) k hle hj).1;exact hn (show sink∈(visV busy (qhE hops,qak hops) k).2 by rw[hr];exact yaC _ hm)
 ·have:=(hK k (by omega)).1;simp only[vis0] at hk;omega
theorem qtl {busy:List Bool}{hops:List (Int×Int)}(h:TreeOk busy hops) {sink:Int}(hs:0<=sink/\sink<=24) {k:Nat}(hj : ∀ j,j<k->j<(visV busy (vis0 hops) j).2.length) (hk:k<(visV busy (vis0 hops) k).2.length) (hn:(visV busy (vis0 hops) k).2.getD k 0=sink) :
  qa5 busy hops sink=some (hops++qct (visV busy (vis0 hops) k).1 25 sink []):=by
 have hb:=qqW (busy:=busy) h.rng h.nd;have hki:=qey hb k hj;by_cases ht:sink∈qak hops
 ·rw[qa5,if_pos ht];have hm:=qe6 hb (j:=0) k (by omega) hj;have h0:(qhE hops).getD sink.toNat 0 = -1:=by rw[qgr h.rng hs.1 hs.2,if_pos ht]
  have e:=hm.2 sink hs.1 hs.2 (by show(qhE hops).getD sink.toNat 0≠-2;rw[h0];decide);have e1:(visV busy (vis0 hops) k).1.getD sink.toNat 0 = -1:=e.trans h0;have e2:qct (visV busy (vis0 hops) k).1 25 sink []=[]:=by
   rw[show(25:Nat)=24+1 from rfl];simp only[qct];rw[if_neg (by omega)]
  rw[e2,yaL]
 ·obtain⟨K,e,hK,hK2⟩:=qm6 hb (sink:=sink) 26 0 rfl (fun j hj=>by omega);have e2:bfsC hops sink busy=visV busy (vis0 hops) K:=e;rw[qa5,if_neg ht,e2];have hsk:(visV busy (vis0 hops) k).1.getD sink.toNat 0≠-2:=(hki.seen sink hs.1 hs.2).2 (by rw[<-hn];exact qac hk);have hle:K<=k:=Decidable.byContradiction fun hgt=>hsk (hK k (by omega)).2
  have hKi:=qey hb K fun j hjK=>(hK j hjK).1
  have hm:=qe6 hb (j:=K) k hle hj;have hf:(visV busy (vis0 hops) K).1.getD sink.toNat 0≠-2:=fun hf=>by
   have h1 : ¬ K<(visV busy (vis0 hops) K).2.length:=fun h1=>hK2 ⟨h1,hf⟩
   by_cases e3:K=k
   ·subst e3;exact h1 hk
   ·exact h1 (hj K (by omega))
  rw[if_neg hf];obtain⟨p,hp,hpe⟩:=qaE 0 ((hKi.seen sink hs.1 hs.2).1 hf);have:=qjS hKi hm 25 p [] hp;rw[hpe] at this;exact congrArg (fun x=>some (hops++x)) this.symm
end Go.VL
