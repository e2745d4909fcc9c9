/- Contracts, plain definitions and lemmas. Conditions: none; lemmas. -/
import Derived.Test.YteikeianenfhaaaGreatC64
import Derived.Test.YteikeianenfhaaaGreatC71
set_option linter.unusedVariables false
set_option linter.unusedSimpArgs false
namespace Go.VL
def visV (busy:List Bool) (s0:BS):Nat->BS
 | 0=>s0
 | k+1=>visitB busy (visV busy s0 k) ((visV busy s0 k).2.getD k 0)
def MonoB (s s':BS):Prop:=(∃ r,s'.2=s.2++r)/\∀ t:Int,0<=t->t<=24->s.1.getD t.toNat 0≠-2->s'.1.getD t.toNat 0=s.1.getD t.toNat 0
theorem MonoB.rfl (s:BS):MonoB s s:=⟨⟨[],by simp⟩,fun _ _ _ _=>Eq.refl _⟩
theorem MonoB.trans {a b c:BS}(h:MonoB a b) (g:MonoB b c):MonoB a c:=by
 obtain⟨⟨r,hr⟩,h2⟩:=h;obtain⟨⟨u,hu⟩,g2⟩:=g;refine⟨⟨r++u,by rw[hu,hr,yaq]⟩,fun t h0 h1 ht=>?_⟩;have e:=h2 t h0 h1 ht;rw[g2 t h0 h1 (by rw[e];exact ht),e]
theorem qjz {busy:List Bool}{T:List Int}{s:BS}(h:BInv busy T s) {q n:Int}(hn:0<=n/\n<=24):MonoB s (qcN busy q s n):=by
 refine⟨qiC,fun t h0 h1 ht=>?_⟩;unfold qcN;split
 ·rename_i hc;have hl:=h.len;rw[qcs (by omega),if_neg];intro e;have:t=n:=by omega
  subst this;exact ht hc.1
 ·rfl
theorem qjA {busy:List Bool}{T:List Int}{q:Int} : ∀ (l:List Int) {s:BS},BInv busy T s->q∈s.2->(∀ n∈l,n∈nbC q)->MonoB s (l.foldl (qcN busy q) s)
 | [],s,h,_,_=>MonoB.rfl s
 | n::l,s,h,hq,hl=>by
  have hn:=qjy (h.rng q hq) n (hl n (by simp));have m1:=qjz h (q:=q) hn.1;obtain⟨r,hr⟩:=m1.1;exact m1.trans (qjA l (h.step hq (hl n (by simp))) (by rw[hr];exact yaE _ hq) fun m hm=>hl m (by simp[hm]))
theorem qnM {busy:List Bool}{T:List Int}{s:BS}(h:BInv busy T s) {q:Int}(hq:q∈s.2):MonoB s (visitB busy s q):=qjA _ h hq fun _ hn=>hn
theorem qeG {busy:List Bool}{T:List Int}{s0:BS}(h:BInv busy T s0) : ∀ k,(∀ j,j<k->j<(visV busy s0 j).2.length)->BInv busy T (visV busy s0 k)
 | 0,_=>h
 | k+1,hj=>(qeG h k fun j hjk=>hj j (by omega)).visit (qal (hj k (by omega)))
theorem qfa {busy:List Bool}{T:List Int}{s0:BS}(h:BInv busy T s0) {j:Nat} : ∀ k,j<=k->(∀ i,i<k->i<(visV busy s0 i).2.length)->MonoB (visV busy s0 j) (visV busy s0 k)
 | 0,hk,_=>by
          obtain rfl:j=0:=by omega
          exact MonoB.rfl _
 | k+1,hk,hi=>by
  by_cases e:j=k+1
  ·subst e;exact MonoB.rfl _
  ·exact(qfa h k (by omega) fun i hik=>hi i (by omega)).trans (qnM (qeG h k fun i hik=>hi i (by omega)) (qal (hi k (by omega))))
theorem qjB {busy:List Bool}{T:List Int}{s s':BS}(h:BInv busy T s) (hm:MonoB s s') : ∀ (f p:Nat) (acc:List (Int×Int)),p<s.2.length->qbY s'.1 f (s.2.getD p 0) acc=qbY s.1 f (s.2.getD p 0) acc
 | 0,p,acc,_=>rfl
 | f+1,p,acc,hp=>by
  have hpm:s.2.getD p 0∈s.2:=qal hp;have hr:=h.rng _ hpm;have e:=hm.2 _ hr.1 hr.2 ((h.seen _ hr.1 hr.2).2 hpm);simp only[qbY,e];rcases h.root p hp with⟨h1,-⟩|⟨h1,-,-,m,h4,h5,-⟩
  ·rw[if_neg (by omega),if_neg (by omega)]
  ·rw[if_pos h1,if_pos h1,<-h5];exact qjB h hm f m _ (by omega)
theorem qmn {busy:List Bool}{T:List Int}{s0:BS}(h:BInv busy T s0) {sink:Int} : ∀ (f k:Nat),f+k=26->(∀ j,j<k->j<(visV busy s0 j).2.length/\(visV busy s0 j).1.getD sink.toNat 0 = -2)->
  ∃ K,bfsN busy sink f k (visV busy s0 k)=visV busy s0 K/\(∀ j,j<K->j<(visV busy s0 j).2.length/\(visV busy s0 j).1.getD sink.toNat 0 = -2)/\¬ (K<(visV busy s0 K).2.length/\(visV busy s0 K).1.getD sink.toNat 0 = -2)
 | 0,k,hk,hj=>by
  have h1:=(qeG h k fun j hjk=>(hj j hjk).1).qlen;exact⟨k,rfl,hj,fun hc=>by omega⟩
 | f+1,k,hk,hj=>by
  rw[bfsN];split
  ·rename_i hc;exact qmn h f (k+1) (by omega) fun j hjk=>by
    by_cases e:j=k
    ·subst e;exact hc
    ·exact hj j (by omega)
  ·rename_i hc;exact⟨k,rfl,hj,hc⟩
def vis0 (hops:List (Int×Int)):BS:=(qfQ hops,qav hops)
theorem qrd {busy:List Bool}{hops:List (Int×Int)}(h:TreeOk busy hops) {sink:Int}(hs:0<=sink/\sink<=24) {k:Nat}(hj : ∀ j,j<k->j<(visV busy (vis0 hops) j).2.length) (hk:k=(visV busy (vis0 hops) k).2.length) (hn:sink∉(visV busy (vis0 hops) k).2):qaN busy hops sink=none:=by
 have hb:=qnL (busy:=busy) h.rng h.nd;obtain⟨K,e,hK,hK2⟩:=qmn hb (sink:=sink) 26 0 rfl (fun j hj=>by omega);have e2:bfsC hops sink busy=visV busy (vis0 hops) K:=e;have hnt:sink∉qav hops:=fun hm=>by
  obtain⟨r,hr⟩:=(qfa hb (j:=0) k (by omega) hj).1;exact hn (show sink∈(visV busy (qfQ hops,qav hops) k).2 by rw[hr];exact yaE _ hm)
 rw[qaN,if_neg hnt,e2,if_pos];refine Decidable.byContradiction fun hf=>?_
 have hKi:=qeG hb K fun j hjK=>(hK j hjK).1
 have hm:=(hKi.seen sink hs.1 hs.2).1 hf;by_cases hle:K<=k
 ·obtain⟨r,hr⟩:=(qfa hb (j:=K) k hle hj).1;exact hn (show sink∈(visV busy (qfQ hops,qav hops) k).2 by rw[hr];exact yaE _ hm)
 ·have:=(hK k (by omega)).1;simp only[vis0] at hk;omega
theorem qre {busy:List Bool}{hops:List (Int×Int)}(h:TreeOk busy hops) {sink:Int}(hs:0<=sink/\sink<=24) {k:Nat}(hj : ∀ j,j<k->j<(visV busy (vis0 hops) j).2.length) (hk:k<(visV busy (vis0 hops) k).2.length) (hn:(visV busy (vis0 hops) k).2.getD k 0=sink) :
  qaN busy hops sink=some (hops++qbY (visV busy (vis0 hops) k).1 25 sink []):=by
 have hb:=qnL (busy:=busy) h.rng h.nd;have hki:=qeG hb k hj;by_cases ht:sink∈qav hops
 ·rw[qaN,if_pos ht];have hm:=qfa hb (j:=0) k (by omega) hj;have h0:(qfQ hops).getD sink.toNat 0 = -1:=by rw[qgp h.rng hs.1 hs.2,if_pos ht]
  have e:=hm.2 sink hs.1 hs.2 (by show(qfQ hops).getD sink.toNat 0≠-2;rw[h0];decide);have e1:(visV busy (vis0 hops) k).1.getD sink.toNat 0 = -1:=e.trans h0;have e2:qbY (visV busy (vis0 hops) k).1 25 sink []=[]:=by
   rw[show(25:Nat)=24+1 from rfl];simp only[qbY];rw[if_neg (by omega)]
  rw[e2,yaH]
 ·obtain⟨K,e,hK,hK2⟩:=qmn hb (sink:=sink) 26 0 rfl (fun j hj=>by omega);have e2:bfsC hops sink busy=visV busy (vis0 hops) K:=e;rw[qaN,if_neg ht,e2];have hsk:(visV busy (vis0 hops) k).1.getD sink.toNat 0≠-2:=(hki.seen sink hs.1 hs.2).2 (by rw[<-hn];exact qal hk);have hle:K<=k:=Decidable.byContradiction fun hgt=>hsk (hK k (by omega)).2
  have hKi:=qeG hb K fun j hjK=>(hK j hjK).1
  have hm:=qfa hb (j:=K) k hle hj;have hf:(visV busy (vis0 hops) K).1.getD sink.toNat 0≠-2:=fun hf=>by
   have h1 : ¬ K<(visV busy (vis0 hops) K).2.length:=fun h1=>hK2 ⟨h1,hf⟩
   by_cases e3:K=k
   ·subst e3;exact h1 hk
   ·exact h1 (hj K (by omega))
  rw[if_neg hf];obtain⟨p,hp,hpe⟩:=qa1 0 ((hKi.seen sink hs.1 hs.2).1 hf);have:=qjB hKi hm 25 p [] hp;rw[hpe] at this;exact congrArg (fun x=>some (hops++x)) this.symm
end Go.VL

set_option linter.unusedVariables false
set_option linter.unusedSimpArgs false
namespace Go.VL
def qdg (cells:List Cel) (v:Int):Nat->Int
 | 0=>-1
 | i+1=>if(cells.getD i ce0).net=v then(i:Int) else qdg cells v i
structure Nin where
 net:Int
 cell:Int
 tile:Int
 sinks:List Int
 pads:List Int
def nin0:Nin:=⟨0,0,0,[],[]⟩
def ninC (c:Circ) (cells:List Cel) (v:Int):Nin:=⟨v,qdg cells v cells.length,(v-1)*5,qdi cells v,qa3 c v c.outs.length⟩
def qdM (c:Circ) (cells:List Cel):Nat->List Nin
 | 0=>[]
 | k+1=>qdM c cells k++(if 0<(ninC c cells ((k:Int)+1)).sinks.length+(ninC c cells ((k:Int)+1)).pads.length then [ninC c cells ((k:Int)+1)] else [])
def qg3 (c:Circ) (cells:List Cel):List Nin:=qdM c cells (c.vars.toNat-1)
def srcT (n:Nin) (place:List Int):Int:=if 0<=n.cell then place.getD n.cell.toNat 0 else n.tile
def qa8 (n:Nin) (place:List Int):List Int:=srcT n place::(n.sinks.map (qbJ place)++n.pads)
theorem qgr {cells:List Cel}(ha:cells.Pairwise fun a b=>a.net<b.net) (place:List Int) (v:Int) : ∀ n,n<=cells.length->
  (∃ j:Nat,j<n/\(cells.getD j ce0).net=v/\qbg cells place v n=[place.getD j 0]/\qdg cells v n=(j:Int))∨((∀ j,j<n->(cells.getD j ce0).net≠v)/\qbg cells place v n=[]/\qdg cells v n = -1)
 | 0,_=>.inr ⟨by omega,rfl,rfl⟩
 | n+1,hn=>by
  have hlt : ∀ j,j<n->(cells.getD j ce0).net<(cells.getD n ce0).net:=fun j hj=>by
   have:=List.pairwise_iff_getElem.1 ha j n (by omega) (by omega) hj;simpa [List.getD,show j<cells.length by omega,show n<cells.length by omega] using this
  rcases qgr ha place v n (by omega) with⟨j,h1,h2,h3,h4⟩|⟨h1,h2,h3⟩
  ·have:=hlt j h1;left;refine⟨j,by omega,h2,?_,?_⟩
   ·rw[qbg,h3,if_neg (by omega)];simp
   ·rw[qdg,if_neg (by omega),h4]
  ·by_cases e:(cells.getD n ce0).net=v
   ·left;refine⟨n,by omega,e,?_,?_⟩
    ·rw[qbg,h2,if_pos e];simp
    ·rw[qdg,if_pos e]
   ·right;refine⟨fun j hj=>?_,?_,?_⟩
    ·by_cases e2:j=n
     ·rw[e2];exact e
     ·exact h1 j (by omega)
    ·rw[qbg,h2,if_neg e];simp
    ·rw[qdg,if_neg e,h3]
theorem qcn (c:Circ) (i:Nat):(qaP c i).net=c.inputs+1+(i:Int):=by unfold qaP;split <;> rfl
theorem qg4 {c:Circ}(hc:c.Valid):(qak c).Pairwise fun a b=>a.net<b.net:=by
 have hok:=qcX hc;have hfd:c.first=1+c.inputs+(c.next.length:Int):=rfl
 rw[qak,List.pairwise_append];refine⟨?_,?_,fun a ha b hb=>?_⟩
 ·rw[List.pairwise_map];refine(List.pairwise_lt_range).imp fun {i j} h=>?_
  rw[qcn,qcn];omega
 ·rw[List.pairwise_map];exact hok.asc
 ·obtain⟨i,hi,rfl⟩:=List.mem_map.1 ha;obtain⟨l,hl,rfl⟩:=List.mem_map.1 hb;obtain⟨j,-,rfl⟩:=hok.each l hl;have:=List.mem_range.1 hi;rw[qcn];show _<c.first+(j:Int)
  omega
theorem qjC {c:Circ}(hc:c.Valid) : ∀ x∈qak c,c.inputs<x.net/\x.net<c.vars:=by
 have hok:=qcX hc;have hfd:c.first=1+c.inputs+(c.next.length:Int):=rfl
 have hvv:c.vars=c.first+(c.gates.length:Int):=rfl
 intro x hx;rcases List.mem_append.1 hx with h|h
 ·obtain⟨i,hi,rfl⟩:=List.mem_map.1 h;have:=List.mem_range.1 hi;rw[qcn];omega
 ·obtain⟨l,hl,rfl⟩:=List.mem_map.1 h;obtain⟨j,hj,rfl⟩:=hok.each l hl;show _<c.first+(j:Int)/\c.first+(j:Int)<_
  omega
theorem qdc {c:Circ}(hc:c.Valid) : ∀ x∈qak c,x.inputs.length<=3/\x.inputs.Nodup/\∀ z∈x.inputs,1<=z/\z<c.vars:=by
 have hok:=qcX hc;have hvv:c.vars=c.first+(c.gates.length:Int):=rfl
 intro x hx;rcases List.mem_append.1 hx with h|h
 ·obtain⟨i,hi,rfl⟩:=List.mem_map.1 h;have hi2:=List.mem_range.1 hi;have hno:=hc.n _ (qal hi2:c.next.getD i 0∈c.next);unfold qa4 at hno;unfold qaP;split
  ·refine⟨by simp,by simp,fun z hz=>?_⟩;obtain rfl:z=c.next.getD i 0/2:=by simpa using hz
   omega
  ·exact⟨by simp,by simp,by simp⟩
 ·obtain⟨l,hl,rfl⟩:=List.mem_map.1 h;obtain⟨j,hj,rfl⟩:=hok.each l hl;obtain⟨b1,b2,b3⟩:=qcI hc hj;refine⟨b2,?_,fun z hz=>?_⟩
  ·exact List.nodup_iff_pairwise_ne.2 (List.Pairwise.imp (fun {a b} h=>by omega) b1)
  ·have:=b3 z hz;omega
theorem cell_of {c:Circ}(hc:c.Valid) {v:Int}(h0:c.inputs<v) (h1:v<c.vars) (hu:v∈qbq c∨∃ x∈qak c,v∈x.inputs) : ∃ x∈qak c,x.net=v:=by
 have hfd:c.first=1+c.inputs+(c.next.length:Int):=rfl
 have hvv:c.vars=c.first+(c.gates.length:Int):=rfl
 by_cases hl:v<c.first
 ·obtain⟨i,rfl⟩ : ∃ i:Nat,v=c.inputs+1+(i:Int):=⟨(v-c.inputs-1).toNat,by omega⟩;exact⟨qaP c i,yaE _ (List.mem_map.2 ⟨i,List.mem_range.2 (by omega),rfl⟩),qcn c i⟩
 ·obtain⟨i,rfl⟩ : ∃ i:Nat,v=c.first+(i:Int):=⟨(v-c.first).toNat,by omega⟩
  have hin:qe9 c i∈qdq c:=by
   rw[qrb hc (by omega)];rcases hu with h|⟨x,hx,hxi⟩
   ·exact .inl h
   ·rcases List.mem_append.1 hx with h|h
    ·obtain⟨k,hk,rfl⟩:=List.mem_map.1 h;have hk2:=List.mem_range.1 hk;left;unfold qaP at hxi;split at hxi
     ·obtain h3:c.first+(i:Int)=c.next.getD k 0/2:=by simpa using hxi
      rw[h3];exact List.mem_map.2 ⟨_,List.mem_append_right _ (qal hk2),rfl⟩
     ·simp at hxi
    ·obtain⟨l,hl2,rfl⟩:=List.mem_map.1 h;exact .inr ⟨l,hl2,hxi⟩
  exact⟨qa7 (qe9 c i),List.mem_append_right _ (List.mem_map.2 ⟨_,hin,rfl⟩),rfl⟩
theorem qpp {c:Circ}(hc:c.Valid) (place:List Int) {v:Int}(h0:1<=v) (h1:v<c.vars) (hu:qaA c (qak c) place v≠[]) :
  qgZ c v++qbg (qak c) place v (qak c).length=[srcT (ninC c (qak c) v) place]:=by
 have ha:=qg4 hc;have hn:=qjC hc;unfold qgZ;have hT:srcT (ninC c (qak c) v) place=if 0<=qdg (qak c) v (qak c).length then place.getD (qdg (qak c) v (qak c).length).toNat 0 else(v-1)*5:=rfl
 rw[hT];rcases qgr ha place v (qak c).length (yad _) with⟨j,h2,h3,h4,h5⟩|⟨h2,h3,h4⟩
 ·have:=hn _ (qal h2:(qak c).getD j ce0∈qak c);rw[h4,h5,if_neg (by omega),if_pos (by omega)];simp
 ·rw[h3,h4,if_neg (show ¬ (0:Int)<=-1 by decide)];by_cases hi:v<=c.inputs
  ·rw[if_pos ⟨h0,hi⟩];simp
  ·exfalso;have:v∈qbq c∨∃ x∈qak c,v∈x.inputs:=by
    cases hs:qaA c (qak c) place v with
    | nil=>exact absurd hs hu
    | cons t r=>
     have ht:t∈qaA c (qak c) place v:=by rw[hs];simp
     rcases qcJ.1 ht with⟨i,g1,g2,-⟩|⟨o,g1,g2,-⟩
     ·exact .inr ⟨_,qal g1,g2⟩
     ·left;rw[<-g2];exact List.mem_map.2 ⟨_,yaE _ (qal g1),rfl⟩
   obtain⟨x,hx,hxv⟩:=cell_of hc (by omega) h1 this;obtain⟨j,hj,rfl⟩:=qa1 ce0 hx;exact h2 j hj hxv
theorem qgs {busy:List Bool} : ∀ (l:List Int),l.foldl (fun o t=>o.bind fun hops=>qaN busy hops t) (none:Option (List (Int×Int)))=none
 | []=>rfl
 | _::l=>qgs l
theorem qmo {busy:List Bool} : ∀ (l out:List Int) (hs:List (Int×Int)),(∀ t∈l,0<=t/\t<=24)->TreeOk busy hs->(∀ t∈out,t∈qav hs)->
  l.foldl (fun o t=>o.bind fun hops=>qaN busy hops t) (some hs)=((l.foldl addU out).drop out.length).foldl (fun o t=>o.bind fun hops=>qaN busy hops t) (some hs)
 | [],out,hs,_,_,_=>by simp
 | t::l,out,hs,hl,ht,ho=>by
  rw[yam,yam,ybe];by_cases hm:t∈out
  ·rw[show addU out t=out by unfold addU;rw[if_pos hm],show qaN busy hs t=some hs by rw[qaN,if_pos (ho t hm)]];exact qmo l out hs (fun z hz=>hl z (by simp[hz])) ht ho
  ·obtain⟨r,hr⟩:=qek (l:=l) (out:=out ++ [t]);have e0:addU out t=out ++ [t]:=by unfold addU;rw[if_neg hm]
   have e1:((l.foldl addU (addU out t)).drop out.length)=t::((l.foldl addU (addU out t)).drop (addU out t).length):=by
    rw[e0,hr,yaq];simp
   rw[e1,yam,ybe];cases he:qaN busy hs t with
   | none=>rw[qgs,qgs]
   | some h2=>
    obtain⟨a1,a2,r1,a3⟩:=qgq ht (hl t (by simp)) he;refine qmo l (addU out t) h2 (fun z hz=>hl z (by simp[hz])) a1 fun z hz=>?_
    rcases qm1.1 hz with h|rfl
    ·rw[a3];simp only[qav,yaC,yas];exact .inl (ho z h)
    ·exact a2
theorem qpq {busy:List Bool}{s:Int}{l:List Int}(hs:0<=s/\s<=24) (hl : ∀ t∈l,0<=t/\t<=24):qeF busy (s::l)=qeF busy (l.foldl addU [s]):=by
 obtain⟨r,hr⟩:=qek (l:=l) (out:=[s]);have e0:(l.foldl addU [s]).getD 0 0=s:=by rw[hr];rfl
 unfold qeF;rw[e0,show(s::l).getD 0 0=s from rfl];by_cases hb:busy.getD s.toNat false=true
 ·rw[if_pos hb,if_pos hb]
 ·rw[if_neg hb,if_neg hb];refine qmo l [s] [(s,-1)] hl ⟨fun x hx=>?_,by simp[qav],fun x hx=>?_,by simp,fun j hj=>?_⟩ (by simp[qav])
  ·obtain rfl:x=(s,-1):=by simpa using hx
   exact hs
  ·obtain rfl:x=(s,-1):=by simpa using hx
   simpa using hb
  ·obtain rfl:j=0:=by simpa using hj
   exact .inl ⟨rfl,rfl⟩
theorem qjD {p q:List Int}(h : ∀ busy,qeF busy p=qeF busy q) {busy:List (List Bool)} : ∀ f t,netB p busy f t=netB q busy f t
 | 0,t=>rfl
 | f+1,t=>by
  simp only[netB,h];split
  ·rfl
  ·exact qjD h f (t+1)
theorem qfS (c:Circ) (cells:List Cel) (place:List Int) (v:Int):qa8 (ninC c cells v) place=srcT (ninC c cells v) place::qaA c cells place v:=rfl
theorem qcM {c:Circ}{cells:List Cel}{place:List Int}{v:Int}:qaA c cells place v=[]↔¬ 0<(ninC c cells v).sinks.length+(ninC c cells v).pads.length:=by
 rw[qaA,List.append_eq_nil_iff,List.map_eq_nil_iff];show qdi cells v=[]/\qa3 c v c.outs.length=[]↔¬ 0<(qdi cells v).length+(qa3 c v c.outs.length).length
 rw[<-List.length_eq_zero_iff,<-List.length_eq_zero_iff];omega
theorem qgt {c:Circ}(hc:c.Valid) (place:List Int) {v:Int}(h0:1<=v) (h1:v<c.vars) (hu:qaA c (qak c) place v≠[]) :
  qdr c (qak c) place v=(qaA c (qak c) place v).foldl addU [srcT (ninC c (qak c) v) place]:=by
 rw[qdr,if_neg hu,qpp hc place h0 h1 hu]
theorem qiE {c:Circ}(hc:c.Valid) (place:List Int) {v:Int}(h0:1<=v) (h1:v<c.vars):qdr c (qak c) place v=[]↔qaA c (qak c) place v=[]:=by
 constructor
 ·intro h;refine Decidable.byContradiction fun hu=>?_
  rw[qgt hc place h0 h1 hu] at h;obtain⟨r,hr⟩:=qek (l:=qaA c (qak c) place v) (out:=[srcT (ninC c (qak c) v) place]);rw[hr] at h;simp at h
 ·intro h;rw[qdr,if_pos h]
theorem qjE {c:Circ}(hc:c.Valid) {place:List Int}(hp:PlaceOk (qak c).length place) {v:Int}(h0:1<=v) (h1:v<c.vars) (hu:qaA c (qak c) place v≠[]) : ∀ t∈qa8 (ninC c (qak c) v) place,0<=t/\t<=24:=by
 intro t ht;refine qgj hc hp (net:=v) t ?_;rw[qgt hc place h0 h1 hu,qgi];rw[qfS] at ht;rcases List.mem_cons.1 ht with h|h
 ·exact .inl (by simp[h])
 ·exact .inr h
theorem qrf {c:Circ}(hc:c.Valid) {place:List Int}(hp:PlaceOk (qak c).length place) {v:Int}(h0:1<=v) (h1:v<c.vars) (hu:qaA c (qak c) place v≠[]) (busy:List (List Bool)) (f t:Nat) :
  netB (qa8 (ninC c (qak c) v) place) busy f t=netB (qdr c (qak c) place v) busy f t:=by
 have hb:=qjE hc hp h0 h1 hu;rw[qfS] at hb;rw[qfS,qgt hc place h0 h1 hu];exact qjD (fun b=>qpq (hb _ (by simp)) fun t ht=>hb t (by simp[ht])) f t
def qiF (place:List Int) (o:Option (List (List Bool)×List Rt)) (n:Nin):Option (List (List Bool)×List Rt):=
 o.bind fun s=>match netB (qa8 n place) s.1 8 0 with
  | none=>none
  | some (t,h)=>some (takeB s.1 t h,s.2 ++ [⟨n.net,(t:Int),h⟩])
theorem qiG {place:List Int} : ∀ (l:List Nin),l.foldl (qiF place) none=none
 | []=>rfl
 | _::l=>qiG l
theorem qjF {c:Circ}(hc:c.Valid) {place:List Int}(hp:PlaceOk (qak c).length place) (busy0:List (List Bool)) : ∀ k:Nat,(k:Int)<c.vars->(qdM c (qak c) k).foldl (qiF place) (some (busy0,[]))=qcQ c (qak c) place busy0 k
 | 0,_=>rfl
 | k+1,hk=>by
  have ih:=qjF hc hp busy0 k (by omega);have hp1:=qiE hc place (v:=(k:Int)+1) (by omega) (by omega);rw[qdM,yaO,ih,qcQ];by_cases hu:qaA c (qak c) place ((k:Int)+1)=[]
  ·rw[if_neg (qcM.1 hu)];cases qcQ c (qak c) place busy0 k with
   | none=>rfl
   | some s=>simp only[hp1.2 hu,if_true];rfl
  ·rw[if_pos (Decidable.byContradiction fun h=>hu (qcM.2 h))];cases qcQ c (qak c) place busy0 k with
   | none=>rfl
   | some s=>
    simp only[if_neg (fun h=>hu (hp1.1 h))];show qiF place (some s) _=_
    rw[qiF,ybe,qrf hc hp (v:=(k:Int)+1) (by omega) (by omega) hu];rfl
theorem qnN {c:Circ}(hc:c.Valid) {place:List Int}(hp:PlaceOk (qak c).length place) (busy0:List (List Bool)):qcL c (qak c) place busy0=((qg3 c (qak c)).foldl (qiF place) (some (busy0,[]))).map (·.2):=by
 have:=hc.first_bd;have:=hc.vars_bd;rw[qcL,qg3,qjF hc hp busy0 _ (by omega)]
def qcf (busy:List (List Bool)):List Bool:=(List.range 200).map fun k=>(busy.getD (k%8) []).getD (k/8) false
theorem qaY (busy:List (List Bool)):(qcf busy).length=200:=by simp[qcf]
theorem qll {busy:List (List Bool)}{t u:Nat}(ht:t<25) (hu:u<8):(qcf busy).getD (t*8+u) false=(busy.getD u []).getD t false:=by
 rw[List.getD_eq_getElem?_getD,List.getElem?_eq_getElem (by rw[qaY];omega)];simp only[qcf,List.getElem_map,List.getElem_range,yau];rw[show(t*8+u)%8=u by omega,show(t*8+u)/8=t by omega]
theorem qlm {busy:List (List Bool)}{t u:Nat}(ht:t<25) (hu:u<8) (hb:u<busy.length) (hl:t<(busy.getD u []).length):(qcf busy).set (t*8+u) true=qcf (busy.set u ((busy.getD u []).set t true)):=by
 refine ybo (by simp[qcf]) fun k h1 h2=>?_
 rw[List.getElem_set];simp only[qcf,List.getElem_map,List.getElem_range];by_cases e:t*8+u=k
 ·subst e;rw[if_pos rfl,show(t*8+u)%8=u by omega,show(t*8+u)/8=t by omega];simp only[List.getD,List.getElem?_set,hb,if_true,yau] at hl ⊢;simp[hl]
 ·rw[if_neg e];by_cases e2:u=k%8
  ·have e3:t≠k/8:=by omega
   subst e2;simp[List.getD,List.getElem?_set,hb,e3]
  ·simp[List.getD,List.getElem?_set,e2]
end Go.VL
