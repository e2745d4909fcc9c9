/- Contracts, plain definitions and lemmas. Conditions: none; lemmas. -/
import Derived.Test.YteikeianenfhaaaGreatC64
import Derived.Test.YteikeianenfhaaaGreatC71
set_option linter.unusedVariables false
set_option linter.unusedSimpArgs false
set_option maxHeartbeats 2000000
namespace Go.VL
set_option linter.defProp false
variable {busy:List Bool}{T:List Int}{s:BS}{q sink:Int}{hops:List (Int×Int)}{k:Nat}
def visV (busy:List Bool) (s0:BS):Nat->BS
 | 0=>s0
 | k+1=>visitB busy (visV busy s0 k) ((visV busy s0 k).2.getD k 0)
def MonoB (s s':BS):Prop:=(∃ r,s'.2=s.2++r)/\∀ t:Int,0<=t->t<=24->s.1.getD t.toNat 0≠-2->s'.1.getD t.toNat 0=s.1.getD t.toNat 0
def MonoB.rfl (s:BS):MonoB s s:=⟨⟨[],by simp⟩,fun _ _ _ _=>Eq.refl _⟩
def MonoB.trans {a b c:BS}(h:MonoB a b) (g:MonoB b c):MonoB a c:=by
 obtain⟨⟨r,hr⟩,h2⟩:=h;obtain⟨⟨u,hu⟩,g2⟩:=g;refine⟨⟨r++u,by rw[hu,hr,yap]⟩,fun t h0 h1 ht=>?_⟩;have e:=h2 t h0 h1 ht;rw[g2 t h0 h1 (by rw[e];exact ht),e]
def qjQ (h:BInv busy T s) {n:Int}(hn:0<=n/\n<=24):MonoB s (qcM busy q s n):=by
 refine⟨qiP,fun t h0 h1 ht=>?_⟩;unfold qcM;split
 ·rename_i hc;have hl:=h.len;rw[qcr (by omega),if_neg];intro e;have:t=n:=by omega
  subst this;exact ht hc.1
 ·rfl
def qjR {busy:List Bool}{T:List Int}{q:Int} : ∀ (l:List Int) {s:BS},BInv busy T s->q∈s.2->(∀ n∈l,n∈nbC q)->MonoB s (l.foldl (qcM busy q) s)
 | [],s,h,_,_=>MonoB.rfl s
 | n::l,s,h,hq,hl=>by
  have hn:=qjM (h.rng q hq) n (hl n (by simp));have m1:=qjQ h (q:=q) hn.1;obtain⟨r,hr⟩:=m1.1;exact m1.trans (qjR l (h.step hq (hl n (by simp))) (by rw[hr];exact yaF _ hq) fun m hm=>hl m (by simp[hm]))
def qok (h:BInv busy T s) (hq:q∈s.2):MonoB s (visitB busy s q):=qjR _ h hq fun _ hn=>hn
def qeJ {busy:List Bool}{T:List Int}{s0:BS}(h:BInv busy T s0) : ∀ k,(∀ j,j<k->j<(visV busy s0 j).2.length)->BInv busy T (visV busy s0 k)
 | 0,_=>h
 | k+1,hj=>(qeJ h k fun j hjk=>hj j (by omega)).visit (qae (hj k (by omega)))
def qfe {busy:List Bool}{T:List Int}{s0:BS}(h:BInv busy T s0) {j:Nat} : ∀ k,j<=k->(∀ i,i<k->i<(visV busy s0 i).2.length)->MonoB (visV busy s0 j) (visV busy s0 k)
 | 0,hk,_=>by
          obtain rfl:j=0:=by omega
          exact MonoB.rfl _
 | k+1,hk,hi=>by
  by_cases e:j=k+1
  ·subst e;exact MonoB.rfl _
  ·exact(qfe h k (by omega) fun i hik=>hi i (by omega)).trans (qok (qeJ h k fun i hik=>hi i (by omega)) (qae (hi k (by omega))))
def qjS {busy:List Bool}{T:List Int}{s s':BS}(h:BInv busy T s) (hm:MonoB s s') : ∀ (f p:Nat) (acc:List (Int×Int)),p<s.2.length->qbX s'.1 f (s.2.getD p 0) acc=qbX s.1 f (s.2.getD p 0) acc
 | 0,p,acc,_=>rfl
 | f+1,p,acc,hp=>by
  have hpm:s.2.getD p 0∈s.2:=qae hp;have hr:=h.rng _ hpm;have e:=hm.2 _ hr.1 hr.2 ((h.seen _ hr.1 hr.2).2 hpm);simp only[qbX,e];rcases h.root p hp with⟨h1,-⟩|⟨h1,-,-,m,h4,h5,-⟩
  ·rw[if_neg (by omega),if_neg (by omega)]
  ·rw[if_pos h1,if_pos h1,<-h5];exact qjS h hm f m _ (by omega)
def qmH {busy:List Bool}{T:List Int}{s0:BS}(h:BInv busy T s0) {sink:Int} : ∀ (f k:Nat),f+k=26->(∀ j,j<k->j<(visV busy s0 j).2.length/\(visV busy s0 j).1.getD sink.toNat 0 = -2)->
  ∃ K,bfsN busy sink f k (visV busy s0 k)=visV busy s0 K/\(∀ j,j<K->j<(visV busy s0 j).2.length/\(visV busy s0 j).1.getD sink.toNat 0 = -2)/\¬ (K<(visV busy s0 K).2.length/\(visV busy s0 K).1.getD sink.toNat 0 = -2)
 | 0,k,hk,hj=>by
  have h1:=(qeJ h k fun j hjk=>(hj j hjk).1).qlen;exact⟨k,rfl,hj,fun hc=>by omega⟩
 | f+1,k,hk,hj=>by
  rw[bfsN];split
  ·rename_i hc;exact qmH h f (k+1) (by omega) fun j hjk=>by
    by_cases e:j=k
    ·subst e;exact hc
    ·exact hj j (by omega)
  ·rename_i hc;exact⟨k,rfl,hj,hc⟩
def vis0 (hops:List (Int×Int)):BS:=(qf2 hops,qan hops)
def qrM (h:TreeOk busy hops) (hs:0<=sink/\sink<=24) (hj : ∀ j,j<k->j<(visV busy (vis0 hops) j).2.length) (hk:k=(visV busy (vis0 hops) k).2.length) (hn:sink∉(visV busy (vis0 hops) k).2):qaO busy hops sink=none:=by
 have hb:=qoe (busy:=busy) h.rng h.nd;obtain⟨K,e,hK,hK2⟩:=qmH hb (sink:=sink) 26 0 rfl (fun j hj=>by omega);have e2:bfsC hops sink busy=visV busy (vis0 hops) K:=e;have hnt:sink∉qan hops:=fun hm=>by
  obtain⟨r,hr⟩:=(qfe hb (j:=0) k (by omega) hj).1;exact hn (show sink∈(visV busy (qf2 hops,qan hops) k).2 by rw[hr];exact yaF _ hm)
 rw[qaO,if_neg hnt,e2,if_pos];refine Decidable.byContradiction fun hf=>?_
 have hKi:=qeJ hb K fun j hjK=>(hK j hjK).1
 have hm:=(hKi.seen sink hs.1 hs.2).1 hf;by_cases hle:K<=k
 ·obtain⟨r,hr⟩:=(qfe hb (j:=K) k hle hj).1;exact hn (show sink∈(visV busy (qf2 hops,qan hops) k).2 by rw[hr];exact yaF _ hm)
 ·have:=(hK k (by omega)).1;simp only[vis0] at hk;omega
def qrN (h:TreeOk busy hops) (hs:0<=sink/\sink<=24) (hj : ∀ j,j<k->j<(visV busy (vis0 hops) j).2.length) (hk:k<(visV busy (vis0 hops) k).2.length) (hn:(visV busy (vis0 hops) k).2.getD k 0=sink) :
  qaO busy hops sink=some (hops++qbX (visV busy (vis0 hops) k).1 25 sink []):=by
 have hb:=qoe (busy:=busy) h.rng h.nd;have hki:=qeJ hb k hj;by_cases ht:sink∈qan hops
 ·rw[qaO,if_pos ht];have hm:=qfe hb (j:=0) k (by omega) hj;have h0:(qf2 hops).getD sink.toNat 0 = -1:=by rw[qgw h.rng hs.1 hs.2,if_pos ht]
  have e:=hm.2 sink hs.1 hs.2 (by show(qf2 hops).getD sink.toNat 0≠-2;rw[h0];decide);have e1:(visV busy (vis0 hops) k).1.getD sink.toNat 0 = -1:=e.trans h0;have e2:qbX (visV busy (vis0 hops) k).1 25 sink []=[]:=by
   rw[show(25:Nat)=24+1 from rfl];simp only[qbX];rw[if_neg (by omega)]
  rw[e2,yaD]
 ·obtain⟨K,e,hK,hK2⟩:=qmH hb (sink:=sink) 26 0 rfl (fun j hj=>by omega);have e2:bfsC hops sink busy=visV busy (vis0 hops) K:=e;rw[qaO,if_neg ht,e2];have hsk:(visV busy (vis0 hops) k).1.getD sink.toNat 0≠-2:=(hki.seen sink hs.1 hs.2).2 (by rw[<-hn];exact qae hk);have hle:K<=k:=Decidable.byContradiction fun hgt=>hsk (hK k (by omega)).2
  have hKi:=qeJ hb K fun j hjK=>(hK j hjK).1
  have hm:=qfe hb (j:=K) k hle hj;have hf:(visV busy (vis0 hops) K).1.getD sink.toNat 0≠-2:=fun hf=>by
   have h1 : ¬ K<(visV busy (vis0 hops) K).2.length:=fun h1=>hK2 ⟨h1,hf⟩
   by_cases e3:K=k
   ·subst e3;exact h1 hk
   ·exact h1 (hj K (by omega))
  rw[if_neg hf];obtain⟨p,hp,hpe⟩:=qa4 0 ((hKi.seen sink hs.1 hs.2).1 hf);have:=qjS hKi hm 25 p [] hp;rw[hpe] at this;exact congrArg (fun x=>some (hops++x)) this.symm
end Go.VL

set_option linter.unusedVariables false
set_option linter.unusedSimpArgs false
namespace Go.VL
set_option linter.defProp false
variable {c:Circ}{v:Int}{busy:List (List Bool)}{place:List Int}{t u:Nat}
def qdi (cells:List Cel) (v:Int):Nat->Int
 | 0=>-1
 | i+1=>if(cells.getD i ce0).net=v then(i:Int) else qdi cells v i
structure Nin where
 net:Int
 cell:Int
 tile:Int
 sinks:List Int
 pads:List Int
def nin0:Nin:=⟨0,0,0,[],[]⟩
def ninC (c:Circ) (cells:List Cel) (v:Int):Nin:=⟨v,qdi cells v cells.length,(v-1)*5,qdj cells v,qa6 c v c.outs.length⟩
def qdO (c:Circ) (cells:List Cel):Nat->List Nin
 | 0=>[]
 | k+1=>qdO c cells k++(if 0<(ninC c cells ((k:Int)+1)).sinks.length+(ninC c cells ((k:Int)+1)).pads.length then [ninC c cells ((k:Int)+1)] else [])
def qhc (c:Circ) (cells:List Cel):List Nin:=qdO c cells (c.vars.toNat-1)
def srcT (n:Nin) (place:List Int):Int:=if 0<=n.cell then place.getD n.cell.toNat 0 else n.tile
def qbb (n:Nin) (place:List Int):List Int:=srcT n place::(n.sinks.map (qbJ place)++n.pads)
def qgB {cells:List Cel}(ha:cells.Pairwise fun a b=>a.net<b.net) (place:List Int) (v:Int) : ∀ n,n<=cells.length->
  (∃ j:Nat,j<n/\(cells.getD j ce0).net=v/\qbi cells place v n=[place.getD j 0]/\qdi cells v n=(j:Int))∨((∀ j,j<n->(cells.getD j ce0).net≠v)/\qbi cells place v n=[]/\qdi cells v n = -1)
 | 0,_=>.inr ⟨by omega,rfl,rfl⟩
 | n+1,hn=>by
  have hlt : ∀ j,j<n->(cells.getD j ce0).net<(cells.getD n ce0).net:=fun j hj=>by
   have:=List.pairwise_iff_getElem.1 ha j n (by omega) (by omega) hj;simpa [List.getD,show j<cells.length by omega,show n<cells.length by omega] using this
  rcases qgB ha place v n (by omega) with⟨j,h1,h2,h3,h4⟩|⟨h1,h2,h3⟩
  ·have:=hlt j h1;left;refine⟨j,by omega,h2,?_,?_⟩
   ·rw[qbi,h3,if_neg (by omega)];simp
   ·rw[qdi,if_neg (by omega),h4]
  ·by_cases e:(cells.getD n ce0).net=v
   ·left;refine⟨n,by omega,e,?_,?_⟩
    ·rw[qbi,h2,if_pos e];simp
    ·rw[qdi,if_pos e]
   ·right;refine⟨fun j hj=>?_,?_,?_⟩
    ·by_cases e2:j=n
     ·rw[e2];exact e
     ·exact h1 j (by omega)
    ·rw[qbi,h2,if_neg e];simp
    ·rw[qdi,if_neg e,h3]
def qcl (c:Circ) (i:Nat):(qaQ c i).net=c.inputs+1+(i:Int):=by unfold qaQ;split <;> rfl
def qhd (hc:c.Valid):(qaf c).Pairwise fun a b=>a.net<b.net:=by
 have hok:=qcY hc;have hfd:c.first=1+c.inputs+(c.next.length:Int):=rfl
 rw[qaf,List.pairwise_append];refine⟨?_,?_,fun a ha b hb=>?_⟩
 ·rw[List.pairwise_map];refine(List.pairwise_lt_range).imp fun {i j} h=>?_
  rw[qcl,qcl];omega
 ·rw[List.pairwise_map];exact hok.asc
 ·obtain⟨i,hi,rfl⟩:=List.mem_map.1 ha;obtain⟨l,hl,rfl⟩:=List.mem_map.1 hb;obtain⟨j,-,rfl⟩:=hok.each l hl;have:=List.mem_range.1 hi;rw[qcl];show _<c.first+(j:Int)
  omega
def qjT (hc:c.Valid) : ∀ x∈qaf c,c.inputs<x.net/\x.net<c.vars:=by
 have hok:=qcY hc;have hfd:c.first=1+c.inputs+(c.next.length:Int):=rfl
 have hvv:c.vars=c.first+(c.gates.length:Int):=rfl
 intro x hx;rcases List.mem_append.1 hx with h|h
 ·obtain⟨i,hi,rfl⟩:=List.mem_map.1 h;have:=List.mem_range.1 hi;rw[qcl];omega
 ·obtain⟨l,hl,rfl⟩:=List.mem_map.1 h;obtain⟨j,hj,rfl⟩:=hok.each l hl;show _<c.first+(j:Int)/\c.first+(j:Int)<_
  omega
def qdg (hc:c.Valid) : ∀ x∈qaf c,x.inputs.length<=3/\x.inputs.Nodup/\∀ z∈x.inputs,1<=z/\z<c.vars:=by
 have hok:=qcY hc;have hvv:c.vars=c.first+(c.gates.length:Int):=rfl
 intro x hx;rcases List.mem_append.1 hx with h|h
 ·obtain⟨i,hi,rfl⟩:=List.mem_map.1 h;have hi2:=List.mem_range.1 hi;have hno:=hc.n _ (qae hi2:c.next.getD i 0∈c.next);unfold qa7 at hno;unfold qaQ;split
  ·refine⟨by simp,by simp,fun z hz=>?_⟩;obtain rfl:z=c.next.getD i 0/2:=by simpa using hz
   omega
  ·exact⟨by simp,by simp,by simp⟩
 ·obtain⟨l,hl,rfl⟩:=List.mem_map.1 h;obtain⟨j,hj,rfl⟩:=hok.each l hl;obtain⟨b1,b2,b3⟩:=qcH hc hj;refine⟨b2,?_,fun z hz=>?_⟩
  ·exact List.nodup_iff_pairwise_ne.2 (List.Pairwise.imp (fun {a b} h=>by omega) b1)
  ·have:=b3 z hz;omega
def cell_of (hc:c.Valid) (h0:c.inputs<v) (h1:v<c.vars) (hu:v∈qbp c∨∃ x∈qaf c,v∈x.inputs) : ∃ x∈qaf c,x.net=v:=by
 have hfd:c.first=1+c.inputs+(c.next.length:Int):=rfl
 have hvv:c.vars=c.first+(c.gates.length:Int):=rfl
 by_cases hl:v<c.first
 ·obtain⟨i,rfl⟩ : ∃ i:Nat,v=c.inputs+1+(i:Int):=⟨(v-c.inputs-1).toNat,by omega⟩;exact⟨qaQ c i,yaF _ (List.mem_map.2 ⟨i,List.mem_range.2 (by omega),rfl⟩),qcl c i⟩
 ·obtain⟨i,rfl⟩ : ∃ i:Nat,v=c.first+(i:Int):=⟨(v-c.first).toNat,by omega⟩
  have hin:qfb c i∈qdq c:=by
   rw[qrG hc (by omega)];rcases hu with h|⟨x,hx,hxi⟩
   ·exact .inl h
   ·rcases List.mem_append.1 hx with h|h
    ·obtain⟨k,hk,rfl⟩:=List.mem_map.1 h;have hk2:=List.mem_range.1 hk;left;unfold qaQ at hxi;split at hxi
     ·obtain h3:c.first+(i:Int)=c.next.getD k 0/2:=by simpa using hxi
      rw[h3];exact List.mem_map.2 ⟨_,List.mem_append_right _ (qae hk2),rfl⟩
     ·simp at hxi
    ·obtain⟨l,hl2,rfl⟩:=List.mem_map.1 h;exact .inr ⟨l,hl2,hxi⟩
  exact⟨qba (qfb c i),List.mem_append_right _ (List.mem_map.2 ⟨_,hin,rfl⟩),rfl⟩
def qpW (hc:c.Valid) (place:List Int) (h0:1<=v) (h1:v<c.vars) (hu:qax c (qaf c) place v≠[]) :
  qg2 c v++qbi (qaf c) place v (qaf c).length=[srcT (ninC c (qaf c) v) place]:=by
 have ha:=qhd hc;have hn:=qjT hc;unfold qg2;have hT:srcT (ninC c (qaf c) v) place=if 0<=qdi (qaf c) v (qaf c).length then place.getD (qdi (qaf c) v (qaf c).length).toNat 0 else(v-1)*5:=rfl
 rw[hT];rcases qgB ha place v (qaf c).length (yad _) with⟨j,h2,h3,h4,h5⟩|⟨h2,h3,h4⟩
 ·have:=hn _ (qae h2:(qaf c).getD j ce0∈qaf c);rw[h4,h5,if_neg (by omega),if_pos (by omega)];simp
 ·rw[h3,h4,if_neg (show ¬ (0:Int)<=-1 by decide)];by_cases hi:v<=c.inputs
  ·rw[if_pos ⟨h0,hi⟩];simp
  ·exfalso;have:v∈qbp c∨∃ x∈qaf c,v∈x.inputs:=by
    cases hs:qax c (qaf c) place v with
    | nil=>exact absurd hs hu
    | cons t r=>
     have ht:t∈qax c (qaf c) place v:=by rw[hs];simp
     rcases qcI.1 ht with⟨i,g1,g2,-⟩|⟨o,g1,g2,-⟩
     ·exact .inr ⟨_,qae g1,g2⟩
     ·left;rw[<-g2];exact List.mem_map.2 ⟨_,yaF _ (qae g1),rfl⟩
   obtain⟨x,hx,hxv⟩:=cell_of hc (by omega) h1 this;obtain⟨j,hj,rfl⟩:=qa4 ce0 hx;exact h2 j hj hxv
def qgC {busy:List Bool} : ∀ (l:List Int),l.foldl (fun o t=>o.bind fun hops=>qaO busy hops t) (none:Option (List (Int×Int)))=none
 | []=>rfl
 | _::l=>qgC l
def qmI {busy:List Bool} : ∀ (l out:List Int) (hs:List (Int×Int)),(∀ t∈l,0<=t/\t<=24)->TreeOk busy hs->(∀ t∈out,t∈qan hs)->
  l.foldl (fun o t=>o.bind fun hops=>qaO busy hops t) (some hs)=((l.foldl addU out).drop out.length).foldl (fun o t=>o.bind fun hops=>qaO busy hops t) (some hs)
 | [],out,hs,_,_,_=>by simp
 | t::l,out,hs,hl,ht,ho=>by
  rw[yan,yan,ybh];by_cases hm:t∈out
  ·rw[show addU out t=out by unfold addU;rw[if_pos hm],show qaO busy hs t=some hs by rw[qaO,if_pos (ho t hm)]];exact qmI l out hs (fun z hz=>hl z (by simp[hz])) ht ho
  ·obtain⟨r,hr⟩:=qem (l:=l) (out:=out ++ [t]);have e0:addU out t=out ++ [t]:=by unfold addU;rw[if_neg hm]
   have e1:((l.foldl addU (addU out t)).drop out.length)=t::((l.foldl addU (addU out t)).drop (addU out t).length):=by
    rw[e0,hr,yap];simp
   rw[e1,yan,ybh];cases he:qaO busy hs t with
   | none=>rw[qgC,qgC]
   | some h2=>
    obtain⟨a1,a2,r1,a3⟩:=qgx ht (hl t (by simp)) he;refine qmI l (addU out t) h2 (fun z hz=>hl z (by simp[hz])) a1 fun z hz=>?_
    rcases qno.1 hz with h|rfl
    ·rw[a3];simp only[qan,yaA,yat];exact .inl (ho z h)
    ·exact a2
def qpX {busy:List Bool}{s:Int}{l:List Int}(hs:0<=s/\s<=24) (hl : ∀ t∈l,0<=t/\t<=24):qeH busy (s::l)=qeH busy (l.foldl addU [s]):=by
 obtain⟨r,hr⟩:=qem (l:=l) (out:=[s]);have e0:(l.foldl addU [s]).getD 0 0=s:=by rw[hr];rfl
 unfold qeH;rw[e0,show(s::l).getD 0 0=s from rfl];by_cases hb:busy.getD s.toNat false=true
 ·rw[if_pos hb,if_pos hb]
 ·rw[if_neg hb,if_neg hb];refine qmI l [s] [(s,-1)] hl ⟨fun x hx=>?_,by simp[qan],fun x hx=>?_,by simp,fun j hj=>?_⟩ (by simp[qan])
  ·obtain rfl:x=(s,-1):=by simpa using hx
   exact hs
  ·obtain rfl:x=(s,-1):=by simpa using hx
   simpa using hb
  ·obtain rfl:j=0:=by simpa using hj
   exact .inl ⟨rfl,rfl⟩
def qjU {p q:List Int}(h : ∀ busy,qeH busy p=qeH busy q) {busy:List (List Bool)} : ∀ f t,netB p busy f t=netB q busy f t
 | 0,t=>rfl
 | f+1,t=>by
  simp only[netB,h];split
  ·rfl
  ·exact qjU h f (t+1)
def qf4 (c:Circ) (cells:List Cel) (place:List Int) (v:Int):qbb (ninC c cells v) place=srcT (ninC c cells v) place::qax c cells place v:=rfl
def qcL {cells:List Cel}:qax c cells place v=[]↔¬ 0<(ninC c cells v).sinks.length+(ninC c cells v).pads.length:=by
 rw[qax,List.append_eq_nil_iff,List.map_eq_nil_iff];show qdj cells v=[]/\qa6 c v c.outs.length=[]↔¬ 0<(qdj cells v).length+(qa6 c v c.outs.length).length
 rw[<-List.length_eq_zero_iff,<-List.length_eq_zero_iff];omega
def qgD (hc:c.Valid) (place:List Int) (h0:1<=v) (h1:v<c.vars) (hu:qax c (qaf c) place v≠[]) :
  qdr c (qaf c) place v=(qax c (qaf c) place v).foldl addU [srcT (ninC c (qaf c) v) place]:=by
 rw[qdr,if_neg hu,qpW hc place h0 h1 hu]
def qiV (hc:c.Valid) (place:List Int) (h0:1<=v) (h1:v<c.vars):qdr c (qaf c) place v=[]↔qax c (qaf c) place v=[]:=by
 constructor
 ·intro h;refine Decidable.byContradiction fun hu=>?_
  rw[qgD hc place h0 h1 hu] at h;obtain⟨r,hr⟩:=qem (l:=qax c (qaf c) place v) (out:=[srcT (ninC c (qaf c) v) place]);rw[hr] at h;simp at h
 ·intro h;rw[qdr,if_pos h]
def qjV (hc:c.Valid) (hp:PlaceOk (qaf c).length place) (h0:1<=v) (h1:v<c.vars) (hu:qax c (qaf c) place v≠[]) : ∀ t∈qbb (ninC c (qaf c) v) place,0<=t/\t<=24:=by
 intro t ht;refine qgp hc hp (net:=v) t ?_;rw[qgD hc place h0 h1 hu,qgo];rw[qf4] at ht;rcases List.mem_cons.1 ht with h|h
 ·exact .inl (by simp[h])
 ·exact .inr h
def qrO (hc:c.Valid) (hp:PlaceOk (qaf c).length place) (h0:1<=v) (h1:v<c.vars) (hu:qax c (qaf c) place v≠[]) (busy:List (List Bool)) (f t:Nat) :
  netB (qbb (ninC c (qaf c) v) place) busy f t=netB (qdr c (qaf c) place v) busy f t:=by
 have hb:=qjV hc hp h0 h1 hu;rw[qf4] at hb;rw[qf4,qgD hc place h0 h1 hu];exact qjU (fun b=>qpX (hb _ (by simp)) fun t ht=>hb t (by simp[ht])) f t
def qiW (place:List Int) (o:Option (List (List Bool)×List Rt)) (n:Nin):Option (List (List Bool)×List Rt):=
 o.bind fun s=>match netB (qbb n place) s.1 8 0 with
  | none=>none
  | some (t,h)=>some (takeB s.1 t h,s.2 ++ [⟨n.net,(t:Int),h⟩])
def qiX {place:List Int} : ∀ (l:List Nin),l.foldl (qiW place) none=none
 | []=>rfl
 | _::l=>qiX l
def qjW {c:Circ}(hc:c.Valid) {place:List Int}(hp:PlaceOk (qaf c).length place) (busy0:List (List Bool)) : ∀ k:Nat,(k:Int)<c.vars->(qdO c (qaf c) k).foldl (qiW place) (some (busy0,[]))=qcK c (qaf c) place busy0 k
 | 0,_=>rfl
 | k+1,hk=>by
  have ih:=qjW hc hp busy0 k (by omega);have hp1:=qiV hc place (v:=(k:Int)+1) (by omega) (by omega);rw[qdO,yaO,ih,qcK];by_cases hu:qax c (qaf c) place ((k:Int)+1)=[]
  ·rw[if_neg (qcL.1 hu)];cases qcK c (qaf c) place busy0 k with
   | none=>rfl
   | some s=>simp only[hp1.2 hu,if_true];rfl
  ·rw[if_pos (Decidable.byContradiction fun h=>hu (qcL.2 h))];cases qcK c (qaf c) place busy0 k with
   | none=>rfl
   | some s=>
    simp only[if_neg (fun h=>hu (hp1.1 h))];show qiW place (some s) _=_
    rw[qiW,ybh,qrO hc hp (v:=(k:Int)+1) (by omega) (by omega) hu];rfl
def qol (hc:c.Valid) (hp:PlaceOk (qaf c).length place) (busy0:List (List Bool)):qcz c (qaf c) place busy0=((qhc c (qaf c)).foldl (qiW place) (some (busy0,[]))).map (·.2):=by
 have:=hc.first_bd;have:=hc.vars_bd;rw[qcz,qhc,qjW hc hp busy0 _ (by omega)]
def qcb (busy:List (List Bool)):List Bool:=(List.range 200).map fun k=>(busy.getD (k%8) []).getD (k/8) false
def qbx (busy:List (List Bool)):(qcb busy).length=200:=by simp[qcb]
def qlF (ht:t<25) (hu:u<8):(qcb busy).getD (t*8+u) false=(busy.getD u []).getD t false:=by
 rw[List.getD_eq_getElem?_getD,List.getElem?_eq_getElem (by rw[qbx];omega)];simp only[qcb,List.getElem_map,List.getElem_range,yav];rw[show(t*8+u)%8=u by omega,show(t*8+u)/8=t by omega]
def qlG (ht:t<25) (hu:u<8) (hb:u<busy.length) (hl:t<(busy.getD u []).length):(qcb busy).set (t*8+u) true=qcb (busy.set u ((busy.getD u []).set t true)):=by
 refine List.ext_getElem (by simp[qcb]) fun k h1 h2=>?_
 rw[List.getElem_set];simp only[qcb,List.getElem_map,List.getElem_range];by_cases e:t*8+u=k
 ·subst e;rw[if_pos rfl,show(t*8+u)%8=u by omega,show(t*8+u)/8=t by omega];simp only[List.getD,List.getElem?_set,hb,if_true,yav] at hl ⊢;simp[hl]
 ·rw[if_neg e];by_cases e2:u=k%8
  ·have e3:t≠k/8:=by omega
   subst e2;simp[List.getD,List.getElem?_set,hb,e3]
  ·simp[List.getD,List.getElem?_set,e2]
end Go.VL
