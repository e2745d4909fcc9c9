/- Contracts, plain definitions and lemmas. Conditions: none; lemmas. -/
import Derived.Test.YteikeianenfhaaaGreatD2
import Derived.Test.YteikeianenfhaaaGreatC98
import Derived.Test.YteikeianenfhaaaGreatC63
import Derived.Test.YteikeianenfhaaaGreatC72
set_option linter.unusedVariables false
set_option linter.unusedSimpArgs false
set_option maxHeartbeats 2000000
namespace Go.VL
def qc8 (cells:List Cel) (v:Int):Nat->Int
 | 0=>-1
 | i+1=>if(cells.getD i ce0).net=v then(i:Int) else qc8 cells v i
structure Nin where
 net:Int
 cell:Int
 tile:Int
 sinks:List Int
 pads:List Int
def nin0:Nin:=⟨0,0,0,[],[]⟩
def ninC (c:Circ) (cells:List Cel) (v:Int):Nin:=⟨v,qc8 cells v cells.length,(v-1)*5,qgl cells v,qbL c v c.outs.length⟩
def qds (c:Circ) (cells:List Cel):Nat->List Nin
 | 0=>[]
 | k+1=>qds c cells k++(if 0<(ninC c cells ((k:Int)+1)).sinks.length+(ninC c cells ((k:Int)+1)).pads.length then [ninC c cells ((k:Int)+1)] else [])
def qg5 (c:Circ) (cells:List Cel):List Nin:=qds c cells (c.vars.toNat-1)
def srcT (n:Nin) (place:List Int):Int:=if 0<=n.cell then place.getD n.cell.toNat 0 else n.tile
def qaT (n:Nin) (place:List Int):List Int:=srcT n place::(n.sinks.map (qcl place)++n.pads)
theorem qgs {cells:List Cel}(ha:cells.Pairwise fun a b=>a.net<b.net) (place:List Int) (v:Int) : ∀ n,n<=cells.length->
  (∃ j:Nat,j<n/\(cells.getD j ce0).net=v/\qcC cells place v n=[place.getD j 0]/\qc8 cells v n=(j:Int))∨((∀ j,j<n->(cells.getD j ce0).net≠v)/\qcC cells place v n=[]/\qc8 cells v n = -1)
 | 0,_=>.inr ⟨by omega,rfl,rfl⟩
 | n+1,hn=>by
  have hlt : ∀ j,j<n->(cells.getD j ce0).net<(cells.getD n ce0).net:=fun j hj=>by
   have:=List.pairwise_iff_getElem.1 ha j n (by omega) (by omega) hj;simpa [List.getD,show j<cells.length by omega,show n<cells.length by omega] using this
  rcases qgs ha place v n (by omega) with⟨j,h1,h2,h3,h4⟩|⟨h1,h2,h3⟩
  ·have:=hlt j h1;left;refine⟨j,by omega,h2,?_,?_⟩
   ·rw[qcC,h3,if_neg (by omega)];simp
   ·rw[qc8,if_neg (by omega),h4]
  ·by_cases e:(cells.getD n ce0).net=v
   ·left;refine⟨n,by omega,e,?_,?_⟩
    ·rw[qcC,h2,if_pos e];simp
    ·rw[qc8,if_pos e]
   ·right;refine⟨fun j hj=>?_,?_,?_⟩
    ·by_cases e2:j=n
     ·rw[e2];exact e
     ·exact h1 j (by omega)
    ·rw[qcC,h2,if_neg e];simp
    ·rw[qc8,if_neg e,h3]
theorem qcf (c:Circ) (i:Nat):(qaO c i).net=c.inputs+1+(i:Int):=by unfold qaO;split <;> rfl
theorem qg6 {c:Circ}(hc:c.Valid):(qad c).Pairwise fun a b=>a.net<b.net:=by
 have hok:=qew hc;have hfd:c.first=1+c.inputs+(c.next.length:Int):=rfl
 rw[qad,List.pairwise_append];refine⟨?_,?_,fun a ha b hb=>?_⟩
 ·rw[List.pairwise_map];refine(List.pairwise_lt_range).imp fun {i j} h=>?_
  rw[qcf,qcf];omega
 ·rw[List.pairwise_map];exact hok.asc
 ·obtain⟨i,hi,rfl⟩:=List.mem_map.1 ha;obtain⟨l,hl,rfl⟩:=List.mem_map.1 hb;obtain⟨j,-,rfl⟩:=hok.each l hl;have:=List.mem_range.1 hi;rw[qcf];show _<c.first+(j:Int)
  omega
theorem qjT {c:Circ}(hc:c.Valid) : ∀ x∈qad c,c.inputs<x.net/\x.net<c.vars:=by
 have hok:=qew hc;have hfd:c.first=1+c.inputs+(c.next.length:Int):=rfl
 have hvv:c.vars=c.first+(c.gates.length:Int):=rfl
 intro x hx;rcases List.mem_append.1 hx with h|h
 ·obtain⟨i,hi,rfl⟩:=List.mem_map.1 h;have:=List.mem_range.1 hi;rw[qcf];omega
 ·obtain⟨l,hl,rfl⟩:=List.mem_map.1 h;obtain⟨j,hj,rfl⟩:=hok.each l hl;show _<c.first+(j:Int)/\c.first+(j:Int)<_
  omega
theorem qcZ {c:Circ}(hc:c.Valid) : ∀ x∈qad c,x.inputs.length<=3/\x.inputs.Nodup/\∀ z∈x.inputs,1<=z/\z<c.vars:=by
 have hok:=qew hc;have hvv:c.vars=c.first+(c.gates.length:Int):=rfl
 intro x hx;rcases List.mem_append.1 hx with h|h
 ·obtain⟨i,hi,rfl⟩:=List.mem_map.1 h;have hi2:=List.mem_range.1 hi;have hno:=hc.n _ (qac hi2:c.next.getD i 0∈c.next);unfold qaK at hno;unfold qaO;split
  ·refine⟨by simp,by simp,fun z hz=>?_⟩;obtain rfl:z=c.next.getD i 0/2:=by simpa using hz
   omega
  ·exact⟨by simp,by simp,by simp⟩
 ·obtain⟨l,hl,rfl⟩:=List.mem_map.1 h;obtain⟨j,hj,rfl⟩:=hok.each l hl;obtain⟨b1,b2,b3⟩:=qet hc hj;refine⟨b2,?_,fun z hz=>?_⟩
  ·exact List.nodup_iff_pairwise_ne.2 (List.Pairwise.imp (fun {a b} h=>by omega) b1)
  ·have:=b3 z hz;omega
theorem cell_of {c:Circ}(hc:c.Valid) {v:Int}(h0:c.inputs<v) (h1:v<c.vars) (hu:v∈qcO c∨∃ x∈qad c,v∈x.inputs) : ∃ x∈qad c,x.net=v:=by
 have hfd:c.first=1+c.inputs+(c.next.length:Int):=rfl
 have hvv:c.vars=c.first+(c.gates.length:Int):=rfl
 by_cases hl:v<c.first
 ·obtain⟨i,rfl⟩ : ∃ i:Nat,v=c.inputs+1+(i:Int):=⟨(v-c.inputs-1).toNat,by omega⟩;exact⟨qaO c i,yaC _ (List.mem_map.2 ⟨i,List.mem_range.2 (by omega),rfl⟩),qcf c i⟩
 ·obtain⟨i,rfl⟩ : ∃ i:Nat,v=c.first+(i:Int):=⟨(v-c.first).toNat,by omega⟩
  have hin:qe4 c i∈qeu c:=by
   rw[qtf hc (by omega)];rcases hu with h|⟨x,hx,hxi⟩
   ·exact .inl h
   ·rcases List.mem_append.1 hx with h|h
    ·obtain⟨k,hk,rfl⟩:=List.mem_map.1 h;have hk2:=List.mem_range.1 hk;left;unfold qaO at hxi;split at hxi
     ·obtain h3:c.first+(i:Int)=c.next.getD k 0/2:=by simpa using hxi
      rw[h3];exact List.mem_map.2 ⟨_,List.mem_append_right _ (qac hk2),rfl⟩
     ·simp at hxi
    ·obtain⟨l,hl2,rfl⟩:=List.mem_map.1 h;exact .inr ⟨l,hl2,hxi⟩
  exact⟨qbE (qe4 c i),List.mem_append_right _ (List.mem_map.2 ⟨_,hin,rfl⟩),rfl⟩
theorem qq0 {c:Circ}(hc:c.Valid) (place:List Int) {v:Int}(h0:1<=v) (h1:v<c.vars) (hu:qaz c (qad c) place v≠[]) :
  qqT c v++qcC (qad c) place v (qad c).length=[srcT (ninC c (qad c) v) place]:=by
 have ha:=qg6 hc;have hn:=qjT hc;unfold qqT;have hT:srcT (ninC c (qad c) v) place=if 0<=qc8 (qad c) v (qad c).length then place.getD (qc8 (qad c) v (qad c).length).toNat 0 else(v-1)*5:=rfl
 rw[hT];rcases qgs ha place v (qad c).length (yad _) with⟨j,h2,h3,h4,h5⟩|⟨h2,h3,h4⟩
 ·have:=hn _ (qac h2:(qad c).getD j ce0∈qad c);rw[h4,h5,if_neg (by omega),if_pos (by omega)];simp
 ·rw[h3,h4,if_neg (show ¬ (0:Int)<=-1 by decide)];by_cases hi:v<=c.inputs
  ·rw[if_pos ⟨h0,hi⟩];simp
  ·exfalso;have:v∈qcO c∨∃ x∈qad c,v∈x.inputs:=by
    cases hs:qaz c (qad c) place v with
    | nil=>exact absurd hs hu
    | cons t r=>
     have ht:t∈qaz c (qad c) place v:=by rw[hs];simp
     rcases qcD.1 ht with⟨i,g1,g2,-⟩|⟨o,g1,g2,-⟩
     ·exact .inr ⟨_,qac g1,g2⟩
     ·left;rw[<-g2];exact List.mem_map.2 ⟨_,yaC _ (qac g1),rfl⟩
   obtain⟨x,hx,hxv⟩:=cell_of hc (by omega) h1 this;obtain⟨j,hj,rfl⟩:=qaE ce0 hx;exact h2 j hj hxv
theorem qgt {busy:List Bool} : ∀ (l:List Int),l.foldl (fun o t=>o.bind fun hops=>qa5 busy hops t) (none:Option (List (Int×Int)))=none
 | []=>rfl
 | _::l=>qgt l
theorem qm7 {busy:List Bool} : ∀ (l out:List Int) (hs:List (Int×Int)),(∀ t∈l,0<=t/\t<=24)->TreeOk busy hs->(∀ t∈out,t∈qak hs)->
  l.foldl (fun o t=>o.bind fun hops=>qa5 busy hops t) (some hs)=((l.foldl addU out).drop out.length).foldl (fun o t=>o.bind fun hops=>qa5 busy hops t) (some hs)
 | [],out,hs,_,_,_=>by simp
 | t::l,out,hs,hl,ht,ho=>by
  rw[yap,yap,ybl];by_cases hm:t∈out
  ·rw[show addU out t=out by unfold addU;rw[if_pos hm],show qa5 busy hs t=some hs by rw[qa5,if_pos (ho t hm)]];exact qm7 l out hs (fun z hz=>hl z (by simp[hz])) ht ho
  ·obtain⟨r,hr⟩:=qd6 (l:=l) (out:=out ++ [t]);have e0:addU out t=out ++ [t]:=by unfold addU;rw[if_neg hm]
   have e1:((l.foldl addU (addU out t)).drop out.length)=t::((l.foldl addU (addU out t)).drop (addU out t).length):=by
    rw[e0,hr,yaq];simp
   rw[e1,yap,ybl];cases he:qa5 busy hs t with
   | none=>rw[qgt,qgt]
   | some h2=>
    obtain⟨a1,a2,r1,a3⟩:=qiW ht (hl t (by simp)) he;refine qm7 l (addU out t) h2 (fun z hz=>hl z (by simp[hz])) a1 fun z hz=>?_
    rcases qnX.1 hz with h|rfl
    ·rw[a3];simp only[qak,yaE,yas];exact .inl (ho z h)
    ·exact a2
theorem qq1 {busy:List Bool}{s:Int}{l:List Int}(hs:0<=s/\s<=24) (hl : ∀ t∈l,0<=t/\t<=24):qgp busy (s::l)=qgp busy (l.foldl addU [s]):=by
 obtain⟨r,hr⟩:=qd6 (l:=l) (out:=[s]);have e0:(l.foldl addU [s]).getD 0 0=s:=by rw[hr];rfl
 unfold qgp;rw[e0,show(s::l).getD 0 0=s from rfl];by_cases hb:busy.getD s.toNat false=true
 ·rw[if_pos hb,if_pos hb]
 ·rw[if_neg hb,if_neg hb];refine qm7 l [s] [(s,-1)] hl ⟨fun x hx=>?_,by simp[qak],fun x hx=>?_,by simp,fun j hj=>?_⟩ (by simp[qak])
  ·obtain rfl:x=(s,-1):=by simpa using hx
   exact hs
  ·obtain rfl:x=(s,-1):=by simpa using hx
   simpa using hb
  ·obtain rfl:j=0:=by simpa using hj
   exact .inl ⟨rfl,rfl⟩
theorem qjU {p q:List Int}(h : ∀ busy,qgp busy p=qgp busy q) {busy:List (List Bool)} : ∀ f t,netB p busy f t=netB q busy f t
 | 0,t=>rfl
 | f+1,t=>by
  simp only[netB,h];split
  ·rfl
  ·exact qjU h f (t+1)
theorem qf1 (c:Circ) (cells:List Cel) (place:List Int) (v:Int):qaT (ninC c cells v) place=srcT (ninC c cells v) place::qaz c cells place v:=rfl
theorem qcE {c:Circ}{cells:List Cel}{place:List Int}{v:Int}:qaz c cells place v=[]↔¬ 0<(ninC c cells v).sinks.length+(ninC c cells v).pads.length:=by
 rw[qaz,List.append_eq_nil_iff,List.map_eq_nil_iff];show qgl cells v=[]/\qbL c v c.outs.length=[]↔¬ 0<(qgl cells v).length+(qbL c v c.outs.length).length
 rw[<-List.length_eq_zero_iff,<-List.length_eq_zero_iff];omega
theorem qgu {c:Circ}(hc:c.Valid) (place:List Int) {v:Int}(h0:1<=v) (h1:v<c.vars) (hu:qaz c (qad c) place v≠[]) :
  qfz c (qad c) place v=(qaz c (qad c) place v).foldl addU [srcT (ninC c (qad c) v) place]:=by
 rw[qfz,if_neg hu,qq0 hc place h0 h1 hu]
theorem qiX {c:Circ}(hc:c.Valid) (place:List Int) {v:Int}(h0:1<=v) (h1:v<c.vars):qfz c (qad c) place v=[]↔qaz c (qad c) place v=[]:=by
 constructor
 ·intro h;refine Decidable.byContradiction fun hu=>?_
  rw[qgu hc place h0 h1 hu] at h;obtain⟨r,hr⟩:=qd6 (l:=qaz c (qad c) place v) (out:=[srcT (ninC c (qad c) v) place]);rw[hr] at h;simp at h
 ·intro h;rw[qfz,if_pos h]
theorem qjV {c:Circ}(hc:c.Valid) {place:List Int}(hp:PlaceOk (qad c).length place) {v:Int}(h0:1<=v) (h1:v<c.vars) (hu:qaz c (qad c) place v≠[]) : ∀ t∈qaT (ninC c (qad c) v) place,0<=t/\t<=24:=by
 intro t ht;refine qnY hc hp (net:=v) t ?_;rw[qgu hc place h0 h1 hu,qgo];rw[qf1] at ht;rcases List.mem_cons.1 ht with h|h
 ·exact .inl (by simp[h])
 ·exact .inr h
theorem qtm {c:Circ}(hc:c.Valid) {place:List Int}(hp:PlaceOk (qad c).length place) {v:Int}(h0:1<=v) (h1:v<c.vars) (hu:qaz c (qad c) place v≠[]) (busy:List (List Bool)) (f t:Nat) :
  netB (qaT (ninC c (qad c) v) place) busy f t=netB (qfz c (qad c) place v) busy f t:=by
 have hb:=qjV hc hp h0 h1 hu;rw[qf1] at hb;rw[qf1,qgu hc place h0 h1 hu];exact qjU (fun b=>qq1 (hb _ (by simp)) fun t ht=>hb t (by simp[ht])) f t
def qiY (place:List Int) (o:Option (List (List Bool)×List Rt)) (n:Nin):Option (List (List Bool)×List Rt):=
 o.bind fun s=>match netB (qaT n place) s.1 8 0 with
  | none=>none
  | some (t,h)=>some (takeB s.1 t h,s.2 ++ [⟨n.net,(t:Int),h⟩])
theorem qiZ {place:List Int} : ∀ (l:List Nin),l.foldl (qiY place) none=none
 | []=>rfl
 | _::l=>qiZ l
theorem qjW {c:Circ}(hc:c.Valid) {place:List Int}(hp:PlaceOk (qad c).length place) (busy0:List (List Bool)) : ∀ k:Nat,(k:Int)<c.vars->(qds c (qad c) k).foldl (qiY place) (some (busy0,[]))=qfG c (qad c) place busy0 k
 | 0,_=>rfl
 | k+1,hk=>by
  have ih:=qjW hc hp busy0 k (by omega);have hp1:=qiX hc place (v:=(k:Int)+1) (by omega) (by omega);rw[qds,yaQ,ih,qfG];by_cases hu:qaz c (qad c) place ((k:Int)+1)=[]
  ·rw[if_neg (qcE.1 hu)];cases qfG c (qad c) place busy0 k with
   | none=>rfl
   | some s=>simp only[hp1.2 hu,if_true];rfl
  ·rw[if_pos (Decidable.byContradiction fun h=>hu (qcE.2 h))];cases qfG c (qad c) place busy0 k with
   | none=>rfl
   | some s=>
    simp only[if_neg (fun h=>hu (hp1.1 h))];show qiY place (some s) _=_
    rw[qiY,ybl,qtm hc hp (v:=(k:Int)+1) (by omega) (by omega) hu];rfl
theorem qo0 {c:Circ}(hc:c.Valid) {place:List Int}(hp:PlaceOk (qad c).length place) (busy0:List (List Bool)):qe5 c (qad c) place busy0=((qg5 c (qad c)).foldl (qiY place) (some (busy0,[]))).map (·.2):=by
 have:=hc.first_bd;have:=hc.vars_bd;rw[qe5,qg5,qjW hc hp busy0 _ (by omega)]
def qbZ (busy:List (List Bool)):List Bool:=(List.range 200).map fun k=>(busy.getD (k%8) []).getD (k/8) false
theorem qbg (busy:List (List Bool)):(qbZ busy).length=200:=by simp[qbZ]
theorem qlW {busy:List (List Bool)}{t u:Nat}(ht:t<25) (hu:u<8):(qbZ busy).getD (t*8+u) false=(busy.getD u []).getD t false:=by
 rw[List.getD_eq_getElem?_getD,List.getElem?_eq_getElem (by rw[qbg];omega)];simp only[qbZ,List.getElem_map,List.getElem_range,yaf];rw[show(t*8+u)%8=u by omega,show(t*8+u)/8=t by omega]
theorem qlX {busy:List (List Bool)}{t u:Nat}(ht:t<25) (hu:u<8) (hb:u<busy.length) (hl:t<(busy.getD u []).length):(qbZ busy).set (t*8+u) true=qbZ (busy.set u ((busy.getD u []).set t true)):=by
 refine List.ext_getElem (by simp[qbZ]) fun k h1 h2=>?_
 rw[List.getElem_set];simp only[qbZ,List.getElem_map,List.getElem_range];by_cases e:t*8+u=k
 ·subst e;rw[if_pos rfl,show(t*8+u)%8=u by omega,show(t*8+u)/8=t by omega];simp only[List.getD,List.getElem?_set,hb,if_true,yaf] at hl ⊢;simp[hl]
 ·rw[if_neg e];by_cases e2:u=k%8
  ·have e3:t≠k/8:=by omega
   subst e2;simp[List.getD,List.getElem?_set,hb,e3]
  ·simp[List.getD,List.getElem?_set,e2]
end Go.VL

set_option maxRecDepth 20000
set_option linter.unusedVariables false
set_option linter.unusedSimpArgs false
namespace Go.Proofs
open Go Go.VL Tryz
theorem qlY {x:Cel}(h:x.inputs.Nodup) (net:Int) (i:Nat):qlJ x net i=if net∈x.inputs then [(i:Int)] else []:=by
 unfold qlJ;have key : ∀ l:List Int,l.Nodup->(l.filter fun z=>decide (z=net)).length=if net∈l then 1 else 0:=by
  intro l;induction l with
  | nil=>exact fun _=>rfl
  | cons z l ih=>
   intro h;rw[List.nodup_cons] at h;have:=ih h.2;by_cases e:z=net
   ·subst e;rw[if_neg h.1] at this;simp only[List.filter_cons,decide_true,if_true,yau,this,yaA,true_or]
   ·rw[List.filter_cons,if_neg (by simpa using e),this];have:net∈z::l↔net∈l:=by simp[Ne.symm e]
    simp only[this]
 have hk:=key _ h;generalize hl:(x.inputs.filter fun z=>decide (z=net))=l at *
 split
 ·rename_i hm;rw[if_pos hm] at hk;obtain⟨z,rfl⟩:=List.length_eq_one_iff.1 hk;rfl
 ·rename_i hm;rw[if_neg hm] at hk;rw[List.length_eq_zero_iff.1 hk];rfl
theorem qdF {cells:List Cel}(h : ∀ x∈cells,x.inputs.Nodup) (net:Int) : ∀ i,i<=cells.length->(qcs cells net i).length<=i
 | 0,_=>by simp[qcs]
 | i+1,hi=>by
  have ih:=qdF h net i (by omega);rw[qcs,qlY (h _ (qac (by omega):cells.getD i ce0∈cells)),yae];split <;> simp <;> omega
abbrev dNi (n:Nin):D:=.agg [dI n.net,dI n.cell,dI n.tile,dIs n.sinks,dIs n.pads]
abbrev dNis (l:List Nin):D:=.lst 5 (l.map fun x=>dNi x)
theorem qaJ {l:List Nin}{i:Nat}{z:D}(h:i<l.length):(l.map fun x=>dNi x).getD i z=dNi (l.getD i nin0):=getD_lt _ _ _ _ _ h
theorem Tryz.c_padTile (o:Int) (h:0<=o/\o<=100):Pure prog 148 [dI o] (dI (o*5+4)):=by
 refine qav func148 rfl ntmps148 fun ok=>?_
 simp only[go_sem,seval] at ok
 repeat' first|assumption|(simp (disch:=first|assumption|omega|(simp;done)|(simp;omega)) only[go_sem,seval,yaa,qaw])|(with_reducible first|apply And.intro|intro _)|((try rw[qaa]);omega)
theorem Tryz.c_NetSinks (c:Circ) (hc:c.Valid) (net:Int):Pure prog 186 [dC c,dI net] (dIs (qgl (qad c) net)):=by
 have hce:=c_Cells c hc;have hcl:=qbV hc;have hin:=qcZ hc;refine qav func186 rfl ntmps186 fun ok=>?_
 simp only[go_sem,seval] at ok
 repeat' first|assumption|(simp (disch:=first|assumption|omega|(simp;done)|(simp;omega)) only[go_sem,seval,yaa,qaw])|(with_reducible first|apply And.intro|intro _)|(refine qcN hce ?_)|((try rw[qaa]);omega)
 have hsd:qgl (qad c) net=qcs (qad c) net (qad c).length:=rfl;rw[hsd];generalize qad c=cells at *
 refine qao (E:=env 0) tok (σ:=Nat) (fun i=>[(1,.d (dI net)),(5,.sl 1 (qcs cells net i).length 1 0 (qcs cells net i).length),(9,.d (dCes cells)),(10,.d (dI cells.length)),(11,.d (dI i))]) (fun i=>[.dead 0,.row (qcs cells net i).length 1 true ((qcs cells net i).map (D.int .i64))]) (fun i=>i<=cells.length) (fun i=>cells.length-i) [] [(5,1,true)] 1000 1000 ?_ ?_
 ·simp only[go_sem,seval];exact⟨0,by omega,by simp[qcs]⟩
 ·intro i hi;by_cases hlt:i<cells.length
  ·have hx:=hin _ (qac hlt:cells.getD i ce0∈cells);have hsn:qcs cells net (i+1)=qcs cells net i++qlJ (cells.getD i ce0) net i:=rfl;rw[qlY hx.2.1] at hsn;have hql:=qdF (fun x hx=>(hin x hx).2.1) net i (by omega);have hct:=c_ContainsJ (cells.getD i ce0).inputs net (by omega);generalize hx9:cells.getD i ce0=x at *
   generalize qcs cells net i=q at *
   repeat' first|assumption|(simp (disch:=first|assumption|omega|(simp;done)|(simp;omega)) only[go_sem,seval,hx9,yaa,qaw])|(with_reducible first|apply And.intro|intro _)|(refine qab hct ?_)|((try rw[qaa]);omega)
   ·rename_i h1;rw[if_pos h1] at hsn;refine⟨i+1,by omega,by omega,⟨?_,rfl⟩,?_,?_⟩ <;> rw[hsn] <;> simp
   ·rename_i h1;rw[if_neg h1,yaL] at hsn;refine⟨i+1,by omega,by omega,⟨?_,rfl⟩,?_,?_⟩ <;> rw[hsn]
  ·obtain rfl:i=cells.length:=by omega
   repeat' first|assumption|(simp (disch:=first|assumption|omega|(simp;done)|(simp;omega)) only[go_sem,seval,yaa,qaw])|(with_reducible first|apply And.intro|intro _)|((try rw[qaa]);omega)
theorem Tryz.c_tiles (n:Nin) (place:List Int) (hs : ∀ i∈n.sinks,0<=i/\i<place.length) (hk:n.cell<place.length) (hl:n.sinks.length<=1000) (hl2:n.pads.length<=1000) (hp:place.length<=1000):Pure prog 187 [dNi n,dIs place] (dIs (qaT n place)):=by
 refine qav func187 rfl ntmps187 fun ok=>?_
 simp only[go_sem,seval] at ok⊢;have hT:qaT n place=srcT n place::(n.sinks.map (qcl place)++n.pads):=rfl;rw[hT]
 repeat' first|assumption|(simp (disch:=first|assumption|omega|(simp;done)|(simp;omega)) only[go_sem,seval,yaa,qaw])|(with_reducible first|apply And.intro|intro _)|((try rw[qaa]);omega)
 ·rename_i h9;rw[show srcT n place=place.getD n.cell.toNat 0 from if_pos h9];generalize place.getD n.cell.toNat 0=s at *
  refine qao (E:=env 0) tok (σ:=Nat) (fun i=>[(1,.d (dIs place)),(2,.ptr 0 0),(5,.sl 1 i 1 0 (i+1)),(22,.d (dIs n.sinks)),(23,.d (dI n.sinks.length)),(24,.d (dI i))]) (fun i=>[.box [.d (dI n.net),.d (dI n.cell),.d (dI n.tile),.d (dIs n.sinks),.d (dIs n.pads)],.row i 1 true ((s::(n.sinks.take i).map (qcl place)).map (D.int .i64))]) (fun i=>i<=n.sinks.length) (fun i=>n.sinks.length-i) [] [] 1000 1000 ?_ ?_
  ·simp only[go_sem,seval];exact⟨0,by omega,by simp⟩
  ·intro i hi;by_cases hlt:i<n.sinks.length
   ·have hts:(n.sinks.take (i+1)).map (qcl place)=(n.sinks.take i).map (qcl place) ++ [qcl place (n.sinks.getD i 0)]:=qa9 0 hlt;have hb:=hs _ (qac hlt:n.sinks.getD i 0∈n.sinks);have hql:(s::(n.sinks.take i).map (qcl place)).length=i+1:=by simp;omega
    have htd:qcl place (n.sinks.getD i 0)=place.getD (n.sinks.getD i 0).toNat 0:=rfl;generalize hx9:n.sinks.getD i 0=x at *
    have hq2:s::(n.sinks.take (i+1)).map (qcl place)=(s::(n.sinks.take i).map (qcl place)) ++ [place.getD x.toNat 0]:=by rw[hts,htd];rfl
    generalize (s::(n.sinks.take i).map (qcl place))=q at *
    repeat' first|assumption|(simp (disch:=first|assumption|omega|(simp;done)|(simp;omega)) only[go_sem,seval,hx9,hql,yaa,qaw])|(with_reducible first|apply And.intro|intro _)|((try rw[qaa]);omega)
    refine⟨i+1,by omega,by omega,rfl,rfl,?_⟩;rw[<-hq2];rfl
   ·obtain rfl:i=n.sinks.length:=by omega
    rw[yav]
    repeat' first|assumption|(simp (disch:=first|assumption|omega|(simp;done)|(simp;omega)) only[go_sem,seval,yaa,qaw])|(with_reducible first|apply And.intro|intro _)|((try rw[qaa]);omega)
 ·rename_i h9;rw[show srcT n place=n.tile from if_neg h9];generalize n.tile=s at *
  refine qao (E:=env 0) tok (σ:=Nat) (fun i=>[(1,.d (dIs place)),(2,.ptr 0 0),(5,.sl 1 i 1 0 (i+1)),(22,.d (dIs n.sinks)),(23,.d (dI n.sinks.length)),(24,.d (dI i))]) (fun i=>[.box [.d (dI n.net),.d (dI n.cell),.d (dI s),.d (dIs n.sinks),.d (dIs n.pads)],.row i 1 true ((s::(n.sinks.take i).map (qcl place)).map (D.int .i64))]) (fun i=>i<=n.sinks.length) (fun i=>n.sinks.length-i) [] [] 1000 1000 ?_ ?_
  ·simp only[go_sem,seval];exact⟨0,by omega,by simp⟩
  ·intro i hi;by_cases hlt:i<n.sinks.length
   ·have hts:(n.sinks.take (i+1)).map (qcl place)=(n.sinks.take i).map (qcl place) ++ [qcl place (n.sinks.getD i 0)]:=qa9 0 hlt;have hb:=hs _ (qac hlt:n.sinks.getD i 0∈n.sinks);have hql:(s::(n.sinks.take i).map (qcl place)).length=i+1:=by simp;omega
    have htd:qcl place (n.sinks.getD i 0)=place.getD (n.sinks.getD i 0).toNat 0:=rfl;generalize hx9:n.sinks.getD i 0=x at *
    have hq2:s::(n.sinks.take (i+1)).map (qcl place)=(s::(n.sinks.take i).map (qcl place)) ++ [place.getD x.toNat 0]:=by rw[hts,htd];rfl
    generalize (s::(n.sinks.take i).map (qcl place))=q at *
    repeat' first|assumption|(simp (disch:=first|assumption|omega|(simp;done)|(simp;omega)) only[go_sem,seval,hx9,hql,yaa,qaw])|(with_reducible first|apply And.intro|intro _)|((try rw[qaa]);omega)
    refine⟨i+1,by omega,by omega,rfl,rfl,?_⟩;rw[<-hq2];rfl
   ·obtain rfl:i=n.sinks.length:=by omega
    rw[yav]
    repeat' first|assumption|(simp (disch:=first|assumption|omega|(simp;done)|(simp;omega)) only[go_sem,seval,yaa,qaw])|(with_reducible first|apply And.intro|intro _)|((try rw[qaa]);omega)
end Go.Proofs

set_option linter.unusedVariables false
set_option linter.unusedSimpArgs false
namespace Go.VL
theorem qq3 {hops:List (Int×Int)}(hn:(qak hops).Nodup) {i j:Nat}(hi:i<hops.length) (hj:j<hops.length) (h:(hops.getD i (0,0)).1=(hops.getD j (0,0)).1):i=j:=by
 refine qd7.1 hn i j (by simp[qak];omega) (by simp[qak];omega) ?_;have e : ∀ k,k<hops.length->(qak hops).getD k 0=(hops.getD k (0,0)).1:=fun k hk=>by simp[qak,List.getD,hk]
 rw[e i hi,e j hj,h]
theorem qi0 {c:Circ}{cells:List Cel}{place:List Int} : ∀ k:Nat,(qd8 c cells place k).Nodup/\(∀ n∈qd8 c cells place k,1<=n/\n<=k)/\(qd8 c cells place k).length<=k
 | 0=>by simp[qd8]
 | k+1=>by
  obtain⟨h1,h2,h3⟩:=qi0 (c:=c) (cells:=cells) (place:=place) k;rw[qf0];split
  ·rw[yaL];exact⟨h1,fun n hn=>by have:=h2 n hn;omega,by omega⟩
  ·refine⟨?_,fun n hn=>?_,by simp;omega⟩
   ·rw[ybg];refine⟨h1,by simp,fun a ha b hb e=>?_⟩;obtain rfl:b=(k:Int)+1:=by simpa using hb
    have:=h2 a ha;omega
   ·rcases List.mem_append.1 hn with h|h
    ·have:=h2 n h;omega
    ·obtain rfl:n=(k:Int)+1:=by simpa using h
     omega
structure RtsOk (routes:List Rt):Prop where
 nd:(routes.map (·.net)).Nodup
 net : ∀ r∈routes,1<=r.net
 tree : ∀ r∈routes,∃ busy,TreeOk busy r.hops
 len:routes.length<=100
theorem RtsOk.hops {routes:List Rt}(h:RtsOk routes) : ∀ r∈routes,r.hops.length<=25:=fun r hr=>by
 obtain⟨b,hb⟩:=h.tree r hr;exact qex hb
end Go.VL

set_option maxRecDepth 20000
set_option linter.unusedVariables false
set_option linter.unusedSimpArgs false
namespace Go.Proofs
open Go Go.VL
abbrev dRt (x:Rt):D:=.agg [dI x.net,dI x.track,dPs x.hops]
abbrev dRts (l:List Rt):D:=.lst 3 (l.map fun x=>dRt x)
theorem qa6 {l:List Rt}{i:Nat}{z:D}(h:i<l.length):(l.map fun x=>dRt x).getD i z=dRt (l.getD i rt0):=getD_lt _ _ _ _ _ h
end Go.Proofs
