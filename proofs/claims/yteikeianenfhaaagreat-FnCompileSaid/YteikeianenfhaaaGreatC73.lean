/- Contracts, plain definitions and lemmas. Conditions: none; lemmas. -/
import Derived.Test.YteikeianenfhaaaGreatD2
import Derived.Test.YteikeianenfhaaaGreatC98
import Derived.Test.YteikeianenfhaaaGreatC72
set_option linter.unusedVariables false
set_option linter.unusedSimpArgs false
set_option maxHeartbeats 2000000
set_option linter.defProp false
set_option maxRecDepth 20000
namespace Go.VL
variable {c:ac}{v:Int}{busy:List ZB}{place:ZA}{t u:Nat}
def jh (cells:List bW) (v:Int):Nat->Int
 | 0=>-1
 | i+1=>if(cells.getD i bP).net=v then(i:Int) else jh cells v i
structure mI where
 net:Int
 cell:Int
 tile:Int
 sinks:ZA
 pads:ZA
def mT:mI:=⟨0,0,0,[],[]⟩
def eU (c:ac) (cells:List bW) (v:Int):mI:=⟨v,jh cells v cells.length,(v-1)*5,m6 cells v,eG c v c.outs.length⟩
def jR (c:ac) (cells:List bW):Nat->List mI
 | 0=>[]
 | k+1=>jR c cells k++(if 0<(eU c cells ((k:Int)+1)).sinks.length+(eU c cells ((k:Int)+1)).pads.length then [eU c cells ((k:Int)+1)] else [])
def qc (c:ac) (cells:List bW):List mI:=jR c cells (c.vars.toNat-1)
def kL (n:mI) (place:ZA):Int:=if 0<=n.cell then place.getD n.cell.toNat 0 else n.tile
def g8 (n:mI) (place:ZA):ZA:=kL n place::(n.sinks.map (io place)++n.pads)
def Cs {cells:List bW}(ha:cells.Pairwise fun a b=>a.net<b.net) (place:ZA) (v:Int) : ∀ n,n<=cells.length->
  (∃ j:Nat,j<n/\(cells.getD j bP).net=v/\ld cells place v n=[place.getD j 0]/\jh cells v n=(j:Int))∨((∀ j,j<n->(cells.getD j bP).net≠v)/\ld cells place v n=[]/\jh cells v n = -1)
 | 0,_=>.inr ⟨by omega,rfl,rfl⟩
 | n+1,hn=>by
  have hlt : ∀ j,j<n->(cells.getD j bP).net<(cells.getD n bP).net:=fun j hj=>by
   have:=List.pairwise_iff_getElem.1 ha j n (by omega) (by omega) hj;simpa [List.getD,show j<cells.length by omega,show n<cells.length by omega] using this
  rcases Cs ha place v n (by omega) with⟨j,h1,h2,h3,h4⟩|⟨h1,h2,h3⟩
  ·have:=hlt j h1;left;refine⟨j,by omega,h2,?_,?_⟩
   ·rw[ld,h3,if_neg (by omega)];simp
   ·rw[jh,if_neg (by omega),h4]
  ·by_cases e:(cells.getD n bP).net=v
   ·left;refine⟨n,by omega,e,?_,?_⟩
    ·rw[ld,h2,if_pos e];simp
    ·rw[jh,if_pos e]
   ·right;refine⟨fun j hj=>?_,?_,?_⟩
    ·by_cases e2:j=n
     ·rw[e2];exact e
     ·exact h1 j (by omega)
    ·rw[ld,h2,if_neg e];simp
    ·rw[jh,if_neg e,h3]
def zb (c:ac) (i:Nat):(jB c i).net=c.inputs+1+(i:Int):=by unfold jB;split <;> rfl
def EG (hc:c.Valid):(aw c).Pairwise fun a b=>a.net<b.net:=by
 have hok:=sB hc;have hfd:c.first=1+c.inputs+(c.next.length:Int):=rfl
 rw[aw,List.pairwise_append];refine⟨?_,?_,fun a ha b hb=>?_⟩
 ·rw[List.pairwise_map];refine(List.pairwise_lt_range).imp fun {i j} h=>?_
  rw[zb,zb];omega
 ·rw[List.pairwise_map];exact hok.iq
 ·obtain⟨i,hi,rfl⟩:=List.mem_map.1 ha;obtain⟨l,hl,rfl⟩:=List.mem_map.1 hb;obtain⟨j,-,rfl⟩:=hok.each l hl;have:=List.mem_range.1 hi;rw[zb];show _<c.first+(j:Int)
  omega
def Np (hc:c.Valid) : ∀ x∈aw c,c.inputs<x.net/\x.net<c.vars:=by
 have hok:=sB hc;have hfd:c.first=1+c.inputs+(c.next.length:Int):=rfl
 have hvv:c.vars=c.first+(c.gates.length:Int):=rfl
 intro x hx;rcases List.mem_append.1 hx with h|h
 ·obtain⟨i,hi,rfl⟩:=List.mem_map.1 h;have:=List.mem_range.1 hi;rw[zb];omega
 ·obtain⟨l,hl,rfl⟩:=List.mem_map.1 h;obtain⟨j,hj,rfl⟩:=hok.each l hl;show _<c.first+(j:Int)/\c.first+(j:Int)<_
  omega
def wv (hc:c.Valid) : ∀ x∈aw c,x.inputs.length<=3/\x.inputs.Nodup/\∀ z∈x.inputs,1<=z/\z<c.vars:=by
 have hok:=sB hc;have hvv:c.vars=c.first+(c.gates.length:Int):=rfl
 intro x hx;rcases List.mem_append.1 hx with h|h
 ·obtain⟨i,hi,rfl⟩:=List.mem_map.1 h;have bJ:=List.mem_range.1 hi;have hno:=hc.n _ (aO bJ:c.next.getD i 0∈c.next);unfold bm at hno;unfold jB;split
  ·refine⟨by simp,by simp,fun z hz=>?_⟩;obtain rfl:z=c.next.getD i 0/2:=by simpa using hz
   omega
  ·exact⟨by simp,by simp,by simp⟩
 ·obtain⟨l,hl,rfl⟩:=List.mem_map.1 h;obtain⟨j,hj,rfl⟩:=hok.each l hl;obtain⟨b1,b2,b3⟩:=ri hc hj;refine⟨b2,?_,fun z hz=>?_⟩
  ·exact List.nodup_iff_pairwise_ne.2 (List.Pairwise.imp (fun {a b} h=>by omega) b1)
  ·have:=b3 z hz;omega
def cell_of (hc:c.Valid) (h0:c.inputs<v) (h1:v<c.vars) (hu:v∈k7 c∨∃ x∈aw c,v∈x.inputs) : ∃ x∈aw c,x.net=v:=by
 have hfd:c.first=1+c.inputs+(c.next.length:Int):=rfl
 have hvv:c.vars=c.first+(c.gates.length:Int):=rfl
 by_cases hl:v<c.first
 ·obtain⟨i,rfl⟩ : ∃ i:Nat,v=c.inputs+1+(i:Int):=⟨(v-c.inputs-1).toNat,by omega⟩;exact⟨jB c i,np _ (List.mem_map.2 ⟨i,List.mem_range.2 (by omega),rfl⟩),zb c i⟩
 ·obtain⟨i,rfl⟩ : ∃ i:Nat,v=c.first+(i:Int):=⟨(v-c.first).toNat,by omega⟩
  have hin:mm c i∈jE c:=by
   rw[OR hc (by omega)];rcases hu with h|⟨x,hx,hxi⟩
   ·exact .inl h
   ·rcases List.mem_append.1 hx with h|h
    ·obtain⟨k,hk,rfl⟩:=List.mem_map.1 h;have hk2:=List.mem_range.1 hk;left;unfold jB at hxi;split at hxi
     ·obtain h3:c.first+(i:Int)=c.next.getD k 0/2:=by simpa using hxi
      rw[h3];exact List.mem_map.2 ⟨_,List.mem_append_right _ (aO hk2),rfl⟩
     ·simp at hxi
    ·obtain⟨l,hl2,rfl⟩:=List.mem_map.1 h;exact .inr ⟨l,hl2,hxi⟩
  exact⟨g9 (mm c i),List.mem_append_right _ (List.mem_map.2 ⟨_,hin,rfl⟩),rfl⟩
def Jk (hc:c.Valid) (place:ZA) (h0:1<=v) (h1:v<c.vars) (hu:fU c (aw c) place v≠[]) :
  pP c v++ld (aw c) place v (aw c).length=[kL (eU c (aw c) v) place]:=by
 have ha:=EG hc;have hn:=Np hc;unfold pP;have hT:kL (eU c (aw c) v) place=if 0<=jh (aw c) v (aw c).length then place.getD (jh (aw c) v (aw c).length).toNat 0 else(v-1)*5:=rfl
 rw[hT];rcases Cs ha place v (aw c).length (aD _) with⟨j,h2,h3,h4,h5⟩|⟨h2,h3,h4⟩
 ·have:=hn _ (aO h2:(aw c).getD j bP∈aw c);rw[h4,h5,if_neg (by omega),if_pos (by omega)];simp
 ·rw[h3,h4,if_neg (show ¬ (0:Int)<=-1 by decide)];by_cases hi:v<=c.inputs
  ·rw[if_pos ⟨h0,hi⟩];simp
  ·exfalso;have:v∈k7 c∨∃ x∈aw c,v∈x.inputs:=by
    cases hs:fU c (aw c) place v with
    | nil=>exact absurd hs hu
    | cons t r=>
     have ht:t∈fU c (aw c) place v:=by rw[hs];simp
     rcases AW.1 ht with⟨i,g1,g2,-⟩|⟨o,g1,g2,-⟩
     ·exact .inr ⟨_,aO g1,g2⟩
     ·left;rw[<-g2];exact List.mem_map.2 ⟨_,np _ (aO g1),rfl⟩
   obtain⟨x,hx,hxv⟩:=cell_of hc (by omega) h1 this;obtain⟨j,hj,rfl⟩:=gm bP hx;exact h2 j hj hxv
def CT {busy:ZB} : ∀ (l:ZA),l.foldl (fun o t=>o.bind fun ab=>eI busy ab t) (none:Option (List (Int×Int)))=none
 | []=>rfl
 | _::l=>CT l
def GB {busy:ZB} : ∀ (l out:ZA) (hs:List (Int×Int)),(∀ t∈l,0<=t/\t<=24)->bO busy hs->(∀ t∈out,t∈a9 hs)->
  l.foldl (fun o t=>o.bind fun ab=>eI busy ab t) (some hs)=((l.foldl bj out).drop out.length).foldl (fun o t=>o.bind fun ab=>eI busy ab t) (some hs)
 | [],out,hs,_,_,_=>by simp
 | t::l,out,hs,hl,ht,ho=>by
  rw[e6,e6,sZ];by_cases hm:t∈out
  ·rw[show bj out t=out by unfold bj;rw[if_pos hm],show eI busy hs t=some hs by rw[eI,if_pos (ho t hm)]];exact GB l out hs (fun z hz=>hl z (by simp[hz])) ht ho
  ·obtain⟨r,hr⟩:=ze (l:=l) (out:=out ++ [t]);have e0:bj out t=out ++ [t]:=by unfold bj;rw[if_neg hm]
   have e1:((l.foldl bj (bj out t)).drop out.length)=t::((l.foldl bj (bj out t)).drop (bj out t).length):=by
    rw[e0,hr,fA];simp
   rw[e1,e6,sZ];cases he:eI busy hs t with
   | none=>rw[CT,CT]
   | some h2=>
    obtain⟨a1,a2,r1,a3⟩:=Dx ht (hl t (by simp)) he;refine GB l (bj out t) h2 (fun z hz=>hl z (by simp[hz])) a1 fun z hz=>?_
    rcases Jx.1 hz with h|rfl
    ·rw[a3];simp only[a9,gw,gM];exact .inl (ho z h)
    ·exact a2
def Pk {busy:ZB}{s:Int}{l:ZA}(hs:0<=s/\s<=24) (hl : ∀ t∈l,0<=t/\t<=24):ly busy (s::l)=ly busy (l.foldl bj [s]):=by
 obtain⟨r,hr⟩:=ze (l:=l) (out:=[s]);have e0:(l.foldl bj [s]).getD 0 0=s:=by rw[hr];rfl
 unfold ly;rw[e0,show(s::l).getD 0 0=s from rfl];by_cases hb:busy.getD s.toNat false=true
 ·rw[if_pos hb,if_pos hb]
 ·rw[if_neg hb,if_neg hb];refine GB l [s] [(s,-1)] hl ⟨fun x hx=>?_,by simp[a9],fun x hx=>?_,by simp,fun j hj=>?_⟩ (by simp[a9])
  ·obtain rfl:x=(s,-1):=by simpa using hx
   exact hs
  ·obtain rfl:x=(s,-1):=by simpa using hx
   simpa using hb
  ·obtain rfl:j=0:=by simpa using hj
   exact .inl ⟨rfl,rfl⟩
def LC {p q:ZA}(h : ∀ busy,ly busy p=ly busy q) {busy:List ZB} : ∀ f t,cJ p busy f t=cJ q busy f t
 | 0,t=>rfl
 | f+1,t=>by
  simp only[cJ,h];split
  ·rfl
  ·exact LC h f (t+1)
def F6 (c:ac) (cells:List bW) (place:ZA) (v:Int):g8 (eU c cells v) place=kL (eU c cells v) place::fU c cells place v:=rfl
def Bf {cells:List bW}:fU c cells place v=[]↔¬ 0<(eU c cells v).sinks.length+(eU c cells v).pads.length:=by
 rw[fU,List.append_eq_nil_iff,List.map_eq_nil_iff];show m6 cells v=[]/\eG c v c.outs.length=[]↔¬ 0<(m6 cells v).length+(eG c v c.outs.length).length
 rw[<-List.length_eq_zero_iff,<-List.length_eq_zero_iff];omega
def BO (hc:c.Valid) (place:ZA) (h0:1<=v) (h1:v<c.vars) (hu:fU c (aw c) place v≠[]) :
  jG c (aw c) place v=(fU c (aw c) place v).foldl bj [kL (eU c (aw c) v) place]:=by
 rw[jG,if_neg hu,Jk hc place h0 h1 hu]
def AP (hc:c.Valid) (place:ZA) (h0:1<=v) (h1:v<c.vars):jG c (aw c) place v=[]↔fU c (aw c) place v=[]:=by
 constructor
 ·intro h;refine Decidable.byContradiction fun hu=>?_
  rw[BO hc place h0 h1 hu] at h;obtain⟨r,hr⟩:=ze (l:=fU c (aw c) place v) (out:=[kL (eU c (aw c) v) place]);rw[hr] at h;simp at h
 ·intro h;rw[jG,if_pos h]
def KV (hc:c.Valid) (hp:ay (aw c).length place) (h0:1<=v) (h1:v<c.vars) (hu:fU c (aw c) place v≠[]) : ∀ t∈g8 (eU c (aw c) v) place,0<=t/\t<=24:=by
 intro t ht;refine Ak hc hp (net:=v) t ?_;rw[BO hc place h0 h1 hu,B4];rw[F6] at ht;rcases List.mem_cons.1 ht with h|h
 ·exact .inl (by simp[h])
 ·exact .inr h
def Sf (hc:c.Valid) (hp:ay (aw c).length place) (h0:1<=v) (h1:v<c.vars) (hu:fU c (aw c) place v≠[]) (busy:List ZB) (f t:Nat) :
  cJ (g8 (eU c (aw c) v) place) busy f t=cJ (jG c (aw c) place v) busy f t:=by
 have hb:=KV hc hp h0 h1 hu;rw[F6] at hb;rw[F6,BO hc place h0 h1 hu];exact LC (fun b=>Pk (hb _ (by simp)) fun t ht=>hb t (by simp[ht])) f t
def qE (place:ZA) (o:Option (List ZB×List Rt)) (n:mI):Option (List ZB×List Rt):=
 o.bind fun s=>match cJ (g8 n place) s.1 8 0 with
  | none=>none
  | some (t,h)=>some (bG s.1 t h,s.2 ++ [⟨n.net,(t:Int),h⟩])
def KQ {place:ZA} : ∀ (l:List mI),l.foldl (qE place) none=none
 | []=>rfl
 | _::l=>KQ l
def Ie {c:ac}(hc:c.Valid) {place:ZA}(hp:ay (aw c).length place) (busy0:List ZB) : ∀ k:Nat,(k:Int)<c.vars->(jR c (aw c) k).foldl (qE place) (some (busy0,[]))=lY c (aw c) place busy0 k
 | 0,_=>rfl
 | k+1,hk=>by
  have ih:=Ie hc hp busy0 k (by omega);have hp1:=AP hc place (v:=(k:Int)+1) (by omega) (by omega);rw[jR,ng,ih,lY];by_cases hu:fU c (aw c) place ((k:Int)+1)=[]
  ·rw[if_neg (Bf.1 hu)];cases lY c (aw c) place busy0 k with
   | none=>rfl
   | some s=>simp only[hp1.2 hu,if_true];rfl
  ·rw[if_pos (Decidable.byContradiction fun h=>hu (Bf.2 h))];cases lY c (aw c) place busy0 k with
   | none=>rfl
   | some s=>
    simp only[if_neg (fun h=>hu (hp1.1 h))];show qE place (some s) _=_
    rw[qE,sZ,Sf hc hp (v:=(k:Int)+1) (by omega) (by omega) hu];rfl
def OI (hc:c.Valid) (hp:ay (aw c).length place) (busy0:List ZB):lp c (aw c) place busy0=((qc c (aw c)).foldl (qE place) (some (busy0,[]))).map (·.2):=by
 have:=hc.al;have:=hc.aN;rw[lp,qc,Ie hc hp busy0 _ (by omega)]
def fq (busy:List ZB):ZB:=(List.range 200).map fun k=>(busy.getD (k%8) []).getD (k/8) false
def ol (busy:List ZB):(fq busy).length=200:=by simp[fq]
def J7 (ht:t<25) (hu:u<8):(fq busy).getD (t*8+u) false=(busy.getD u []).getD t false:=by
 rw[List.getD_eq_getElem?_getD,List.getElem?_eq_getElem (by rw[ol];omega)];simp only[fq,List.getElem_map,List.getElem_range,cP];rw[show(t*8+u)%8=u by omega,show(t*8+u)/8=t by omega]
def Ma (ht:t<25) (hu:u<8) (hb:u<busy.length) (hl:t<(busy.getD u []).length):(fq busy).set (t*8+u) true=fq (busy.set u ((busy.getD u []).set t true)):=by
 refine List.ext_getElem (by simp[fq]) fun k h1 h2=>?_
 rw[List.getElem_set];simp only[fq,List.getElem_map,List.getElem_range];by_cases e:t*8+u=k
 ·subst e;rw[if_pos rfl,show(t*8+u)%8=u by omega,show(t*8+u)/8=t by omega];simp only[List.getD,List.getElem?_set,hb,if_true,cP] at hl ⊢;simp[hl]
 ·rw[if_neg e];by_cases e2:u=k%8
  ·have e3:t≠k/8:=by omega
   subst e2;simp[List.getD,List.getElem?_set,hb,e3]
  ·simp[List.getD,List.getElem?_set,e2]
end Go.VL

namespace Go.Proofs
open Go Go.VL Tryz
def Ho {x:bW}(h:x.inputs.Nodup) (net:Int) (i:Nat):rA x net i=if net∈x.inputs then [(i:Int)] else []:=by
 unfold rA;have key : ∀ l:ZA,l.Nodup->(l.filter fun z=>decide (z=net)).length=if net∈l then 1 else 0:=by
  intro l;induction l with
  | nil=>exact fun _=>rfl
  | cons z l ih=>
   intro h;rw[List.nodup_cons] at h;have:=ih h.2;by_cases e:z=net
   ·subst e;rw[if_neg h.1] at this;simp only[List.filter_cons,decide_true,if_true,eD,this,jY,true_or]
   ·rw[List.filter_cons,if_neg (by simpa using e),this];have:net∈z::l↔net∈l:=by simp[Ne.symm e]
    simp only[this]
 have hk:=key _ h;generalize hl:(x.inputs.filter fun z=>decide (z=net))=l at *
 split
 ·rename_i hm;rw[if_pos hm] at hk;obtain⟨z,rfl⟩:=List.length_eq_one_iff.1 hk;rfl
 ·rename_i hm;rw[if_neg hm] at hk;rw[List.length_eq_zero_iff.1 hk];rfl
def C8 {cells:List bW}(h : ∀ x∈cells,x.inputs.Nodup) (net:Int) : ∀ i,i<=cells.length->(e7 cells net i).length<=i
 | 0,_=>by simp[e7]
 | i+1,hi=>by
  have ih:=C8 h net i (by omega);rw[e7,Ho (h _ (aO (by omega):cells.getD i bP∈cells)),b8];split <;> simp <;> omega
abbrev tp (n:mI):D:=.agg [dI n.net,dI n.cell,dI n.tile,aj n.sinks,aj n.pads]
abbrev mX (l:List mI):D:=.lst 5 (l.map fun x=>tp x)
def fZ {l:List mI}{i:Nat}{z:D}(h:i<l.length):(l.map fun x=>tp x).getD i z=tp (l.getD i mT):=cn _ _ _ _ _ h
def Tryz.lm (o:Int) (h:0<=o/\o<=100):Pure prog 148 [dI o] (dI (o*5+4)):=by
 refine bz func148 rfl ntmps148 fun ok=>?_
 simp only[go_sem,seval] at ok
 repeat' first|simp (disch:=omega) only[go_sem,seval,ag,bB]|(with_reducible first|apply aa|intro)|(try rw[ae]);omega
def Tryz.nN (c:ac) (hc:c.Valid) (net:Int):Pure prog 186 [dC c,dI net] (aj (m6 (aw c) net)):=by
 have hce:=hM c hc;have hcl:=qX hc;have hin:=wv hc;refine bz func186 rfl ntmps186 fun ok=>?_
 simp only[go_sem,seval] at ok
 repeat' first|simp (disch:=omega) only[go_sem,seval,ag,bB]|(with_reducible first|apply aa|intro)|(refine kN hce ?_)|(try rw[ae]);omega
 have hsd:m6 (aw c) net=e7 (aw c) net (aw c).length:=rfl;rw[hsd];generalize aw c=cells at *
 refine cD (σ:=Nat) (fun i=>[(1,.d (dI net)),(5,.sl 1 (e7 cells net i).length 1 0 (e7 cells net i).length),(9,.d (cm cells)),(10,.d (dI cells.length)),(11,.d (dI i))]) (fun i=>[.dead 0,.row (e7 cells net i).length 1 true ((e7 cells net i).map (D.int .i64))]) (fun i=>i<=cells.length) (fun i=>cells.length-i) [] [(5,1,true)] 1000 1000 ?_ ?_
 ·simp only[go_sem,seval];exact⟨0,by omega,by simp[e7]⟩
 ·intro i hi;by_cases hlt:i<cells.length
  ·have hx:=hin _ (aO hlt:cells.getD i bP∈cells);have hsn:e7 cells net (i+1)=e7 cells net i++rA (cells.getD i bP) net i:=rfl;rw[Ho hx.2.1] at hsn;have hql:=C8 (fun x hx=>(hin x hx).2.1) net i (by omega);have hct:=ms (cells.getD i bP).inputs net (by omega);generalize hx9:cells.getD i bP=x at *
   generalize e7 cells net i=q at *
   repeat' first|simp (disch:=omega) only[go_sem,seval,hx9,ag,bB]|(with_reducible first|apply aa|intro)|(refine az hct ?_)|(try rw[ae]);omega
   ·rename_i h1;rw[if_pos h1] at hsn;refine⟨i+1,by omega,by omega,⟨?_,rfl⟩,?_,?_⟩ <;> rw[hsn] <;> simp
   ·rename_i h1;rw[if_neg h1,jq] at hsn;refine⟨i+1,by omega,by omega,⟨?_,rfl⟩,?_,?_⟩ <;> rw[hsn]
  ·obtain rfl:i=cells.length:=by omega
   repeat' first|simp (disch:=omega) only[go_sem,seval,ag,bB]|(with_reducible first|apply aa|intro)|(try rw[ae]);omega
def Tryz.oC (n:mI) (place:ZA) (hs : ∀ i∈n.sinks,0<=i/\i<place.length) (hk:n.cell<place.length) (hl:n.sinks.length<=1000) (hl2:n.pads.length<=1000) (hp:place.length<=1000):Pure prog 187 [tp n,aj place] (aj (g8 n place)):=by
 refine bz func187 rfl ntmps187 fun ok=>?_
 simp only[go_sem,seval] at ok⊢;have hT:g8 n place=kL n place::(n.sinks.map (io place)++n.pads):=rfl;rw[hT]
 repeat' first|simp (disch:=omega) only[go_sem,seval,ag,bB]|(with_reducible first|apply aa|intro)|(try rw[ae]);omega
 ·rename_i h9;rw[show kL n place=place.getD n.cell.toNat 0 from if_pos h9];generalize place.getD n.cell.toNat 0=s at *
  refine cD (σ:=Nat) (fun i=>[(1,.d (aj place)),(2,.ptr 0 0),(5,.sl 1 i 1 0 (i+1)),(22,.d (aj n.sinks)),(23,.d (dI n.sinks.length)),(24,.d (dI i))]) (fun i=>[.box [.d (dI n.net),.d (dI n.cell),.d (dI n.tile),.d (aj n.sinks),.d (aj n.pads)],.row i 1 true ((s::(n.sinks.take i).map (io place)).map (D.int .i64))]) (fun i=>i<=n.sinks.length) (fun i=>n.sinks.length-i) [] [] 1000 1000 ?_ ?_
  ·simp only[go_sem,seval];exact⟨0,by omega,by simp⟩
  ·intro i hi;by_cases hlt:i<n.sinks.length
   ·have hts:(n.sinks.take (i+1)).map (io place)=(n.sinks.take i).map (io place) ++ [io place (n.sinks.getD i 0)]:=nm 0 hlt;have hb:=hs _ (aO hlt:n.sinks.getD i 0∈n.sinks);have hql:(s::(n.sinks.take i).map (io place)).length=i+1:=by simp;omega
    have htd:io place (n.sinks.getD i 0)=place.getD (n.sinks.getD i 0).toNat 0:=rfl;generalize hx9:n.sinks.getD i 0=x at *
    have hq2:s::(n.sinks.take (i+1)).map (io place)=(s::(n.sinks.take i).map (io place)) ++ [place.getD x.toNat 0]:=by rw[hts,htd];rfl
    generalize (s::(n.sinks.take i).map (io place))=q at *
    repeat' first|simp (disch:=omega) only[go_sem,seval,hx9,hql,ag,bB]|(with_reducible first|apply aa|intro)|(try rw[ae]);omega
    refine⟨i+1,by omega,by omega,rfl,rfl,?_⟩;rw[<-hq2];rfl
   ·obtain rfl:i=n.sinks.length:=by omega
    rw[ig]
    repeat' first|simp (disch:=omega) only[go_sem,seval,ag,bB]|(with_reducible first|apply aa|intro)|(try rw[ae]);omega
 ·rename_i h9;rw[show kL n place=n.tile from if_neg h9];generalize n.tile=s at *
  refine cD (σ:=Nat) (fun i=>[(1,.d (aj place)),(2,.ptr 0 0),(5,.sl 1 i 1 0 (i+1)),(22,.d (aj n.sinks)),(23,.d (dI n.sinks.length)),(24,.d (dI i))]) (fun i=>[.box [.d (dI n.net),.d (dI n.cell),.d (dI s),.d (aj n.sinks),.d (aj n.pads)],.row i 1 true ((s::(n.sinks.take i).map (io place)).map (D.int .i64))]) (fun i=>i<=n.sinks.length) (fun i=>n.sinks.length-i) [] [] 1000 1000 ?_ ?_
  ·simp only[go_sem,seval];exact⟨0,by omega,by simp⟩
  ·intro i hi;by_cases hlt:i<n.sinks.length
   ·have hts:(n.sinks.take (i+1)).map (io place)=(n.sinks.take i).map (io place) ++ [io place (n.sinks.getD i 0)]:=nm 0 hlt;have hb:=hs _ (aO hlt:n.sinks.getD i 0∈n.sinks);have hql:(s::(n.sinks.take i).map (io place)).length=i+1:=by simp;omega
    have htd:io place (n.sinks.getD i 0)=place.getD (n.sinks.getD i 0).toNat 0:=rfl;generalize hx9:n.sinks.getD i 0=x at *
    have hq2:s::(n.sinks.take (i+1)).map (io place)=(s::(n.sinks.take i).map (io place)) ++ [place.getD x.toNat 0]:=by rw[hts,htd];rfl
    generalize (s::(n.sinks.take i).map (io place))=q at *
    repeat' first|simp (disch:=omega) only[go_sem,seval,hx9,hql,ag,bB]|(with_reducible first|apply aa|intro)|(try rw[ae]);omega
    refine⟨i+1,by omega,by omega,rfl,rfl,?_⟩;rw[<-hq2];rfl
   ·obtain rfl:i=n.sinks.length:=by omega
    rw[ig]
    repeat' first|simp (disch:=omega) only[go_sem,seval,ag,bB]|(with_reducible first|apply aa|intro)|(try rw[ae]);omega
end Go.Proofs

namespace Go.VL
def Pf {ab:List (Int×Int)}(hn:(a9 ab).Nodup) {i j:Nat}(hi:i<ab.length) (hj:j<ab.length) (h:(ab.getD i (0,0)).1=(ab.getD j (0,0)).1):i=j:=by
 refine z8.1 hn i j (by simp[a9];omega) (by simp[a9];omega) ?_;have e : ∀ k,k<ab.length->(a9 ab).getD k 0=(ab.getD k (0,0)).1:=fun k hk=>by simp[a9,List.getD,hk]
 rw[e i hi,e j hj,h]
def EF {c:ac}{cells:List bW}{place:ZA} : ∀ k:Nat,(pe c cells place k).Nodup/\(∀ n∈pe c cells place k,1<=n/\n<=k)/\(pe c cells place k).length<=k
 | 0=>by simp[pe]
 | k+1=>by
  obtain⟨h1,h2,h3⟩:=EF (c:=c) (cells:=cells) (place:=place) k;rw[Ef];split
  ·rw[jq];exact⟨h1,fun n hn=>by have:=h2 n hn;omega,by omega⟩
  ·refine⟨?_,fun n hn=>?_,by simp;omega⟩
   ·rw[vF];refine⟨h1,by simp,fun a ha b hb e=>?_⟩;obtain rfl:b=(k:Int)+1:=by simpa using hb
    have:=h2 a ha;omega
   ·rcases List.mem_append.1 hn with h|h
    ·have:=h2 n h;omega
    ·obtain rfl:n=(k:Int)+1:=by simpa using h
     omega
structure wu (routes:List Rt):Prop where
 nd:(routes.map (·.net)).Nodup
 net : ∀ r∈routes,1<=r.net
 tree : ∀ r∈routes,∃ busy,bO busy r.ab
 len:routes.length<=100
def wu.ab {routes:List Rt}(h:wu routes) : ∀ r∈routes,r.ab.length<=25:=fun r hr=>by
 obtain⟨b,hb⟩:=h.tree r hr;exact sG hb
end Go.VL

namespace Go.Proofs
open Go Go.VL
def Pd {c:ac}(hc:c.Valid) : ∀ x∈aw c,x.inputs.length<=3:=by
 intro x hx;rcases List.mem_append.1 hx with h|h
 ·obtain⟨i,hi,rfl⟩:=List.mem_map.1 h;unfold jB;split <;> simp
 ·obtain⟨l,hl,rfl⟩:=List.mem_map.1 h;obtain⟨m,hm,rfl⟩:=(sB hc).each l hl;exact(ri hc hm).2.1
def Tryz.rq (c:ac) (hc:c.Valid) (cells:List bW) (hcl:cells.length<=25) (hci : ∀ x∈cells,x.inputs.length<=3) (place:ZA) (hp:ay cells.length place) :
  Pure prog 138 [dC c,cm cells,aj place] (dI (jK c cells place)):=by
 have hf:=hc.al;have hv:=hc.aN;have hi0:=hc.i0;have hi1:=hc.i1;have hvv:c.vars=c.first+(c.gates.length:Int):=rfl
 have hfst:=br c (by omega);have k3:eW (dI c.first):=by show cp .i64 _;rw[ae];omega
 have hcb:=Ny hc hp;have hpb:=fun net=>Ak hc hp (net:=net)
 refine bz func138 rfl ntmps138 fun ok=>?_
 simp only[go_sem,seval] at ok
 repeat' first|simp (disch:=omega) only[go_sem,seval,ag]|(with_reducible first|apply aa|intro)|exact ah|(try rw[ae]);omega
 refine cQ (σ:=Nat) (fun k=>[(0,.d (dC c)),(1,.d (cm cells)),(2,.d (aj place)),(3,.ptr 0 0),(7,.d (dI (pc c cells place k))),(8,.d (dI ((k:Int)+1)))]) (fun _=>[.box [.d (dI c.inputs),.d (aj c.next),.d (aY c.gates),.d (aj c.outs)]]) (fun k=>(k:Int)<=c.vars-1) (fun k=>c.vars.toNat-k) [] 1000 1000 ?_ ?_ ?_
 ·simp only[go_sem,seval]
 ·simp only[go_sem,seval];exact⟨0,by omega,rfl,rfl⟩
 ·intro k hk;have hck:=hcb k;have ek:(k:Int)+1=((k+1:Nat):Int):=by omega
  have hcs:pc c cells place (k+1)=pc c cells place k+lu (jG c cells place ((k+1:Nat):Int)):=by rw[<-ek];rfl
  have hdb:=Eo (hpb ((k+1:Nat):Int));by_cases hlt:(k:Int)<c.vars-1
  ·have h1:=mW c hc cells hcl hci place hp ((k+1:Nat):Int) (by omega);have h2:=ru _ (hpb ((k+1:Nat):Int))
   repeat' first|simp (disch:=omega) only[go_sem,seval,ag]|(with_reducible first|apply aa|intro)|(refine qD (fun _=>⟨hfst,k3⟩) ?_)|(refine az h1 ?_)|(refine az h2 ?_)|exact ah|(try rw[ae]);omega
   exact⟨k+1,by omega,by omega,hcs.symm,rfl⟩
  ·repeat' first|simp (disch:=omega) only[go_sem,seval,ag]|(with_reducible first|apply aa|intro)|(refine qD (fun _=>⟨hfst,k3⟩) ?_)|exact ah|(try rw[ae]);omega
   rw[jK,show k=c.vars.toNat-1 by omega]
def Tryz.uW (place:ZA) (i:Nat) (tile:Int) (hi:i<place.length) (hl:place.length<=25):Pure prog 139 [aj place,dI i,dI tile] (aj (ey place i tile)):=by
 refine bz func139 rfl ntmps139 fun ok=>?_
 simp only[go_sem,seval] at ok
 repeat' first|simp (disch:=omega) only[go_sem,seval,ag]|(with_reducible first|apply aa|intro)|exact ah|(try rw[ae]);omega
 refine cQ (σ:=Nat×ZA) (fun s=>[(0,.d (aj place)),(1,.d (dI i)),(2,.d (dI tile)),(7,.sl 0 1 1 0 place.length),(8,.d (dI s.1))]) (fun s=>[.row 1 1 true (s.2.map (D.int .i64))])
  (fun s=>s.1<=place.length/\s.2.length=place.length/\∀ j,j<place.length->s.2.getD j 0=if j<s.1/\place.getD j 0=tile then place.getD i 0 else place.getD j 0) (fun s=>place.length-s.1) [] 1000 1000 ?_ ?_ ?_
 ·simp only[go_sem,seval]
 ·simp only[go_sem,seval];exact⟨(0,place),⟨by simp,rfl,fun j hj=>by simp⟩,rfl,rfl⟩
 ·rintro⟨k,q⟩ ⟨hk,hql,hq⟩;simp only at hk hql hq;by_cases hkt:k<place.length
  ·have hqk:=hq k hkt;rw[if_neg (by omega)] at hqk
   repeat' first|simp (disch:=omega) only[go_sem,seval,ag]|(with_reducible first|apply aa|intro)|exact ah|(try rw[ae]);omega
   ·rename_i h9;rw[hqk] at h9;refine⟨(k+1,q.set k (place.getD i 0)),⟨by simp only;omega,by simp only[gh];exact hql,fun j hj=>?_⟩,by simp only;omega,rfl,rfl⟩;simp only;rw[sL (by omega),hq j hj];by_cases hjk:k=j
    ·subst hjk;rw[if_pos rfl,if_pos ⟨by omega,h9⟩]
    ·rw[if_neg hjk];by_cases h2:j<k/\place.getD j 0=tile
     ·rw[if_pos h2,if_pos ⟨by omega,h2.2⟩]
     ·rw[if_neg h2,if_neg (fun h=>h2 ⟨by omega,h.2⟩)]
   ·rename_i h9;rw[hqk] at h9;refine⟨(k+1,q),⟨by simp only;omega,hql,fun j hj=>?_⟩,by simp only;omega,rfl,rfl⟩;simp only;rw[hq j hj];by_cases h2:j<k/\place.getD j 0=tile
    ·rw[if_pos h2,if_pos ⟨by omega,h2.2⟩]
    ·rw[if_neg h2,if_neg (fun h=>by
      by_cases hjk:j=k
      ·subst hjk;exact h9 h.2
      ·exact h2 ⟨by omega,h.2⟩)]
  ·have e:q.set i tile=ey place i tile:=by
    refine wq 0 (by rw[gh,Bi,hql]) fun j hj=>?_
    rw[gh,hql] at hj;rw[z5 hj,sL (by omega),hq j hj];by_cases hji:j=i
    ·rw[if_pos hji.symm,if_pos hji]
    ·rw[if_neg (Ne.symm hji),if_neg hji];by_cases h2:place.getD j 0=tile
     ·rw[if_pos ⟨by omega,h2⟩,if_pos h2]
     ·rw[if_neg (fun h=>h2 h.2),if_neg h2]
   repeat' first|simp (disch:=omega) only[go_sem,seval,ag]|(with_reducible first|apply aa|intro)|exact ah|(try rw[ae]);omega
def Tryz.pD (c:ac) (hc:c.Valid) (cells:List bW) (hcl:cells.length<=25) (hci : ∀ x∈cells,x.inputs.length<=3):bk prog 75 [dC c,cm cells] (aj (kX c cells)):=by
 refine wD rfl 1000 func75 rfl rfl ntmps75 (by simp) fun ok=>?_
 simp only[go_sem,seval] at ok
 repeat' first|simp (disch:=omega) only[go_sem,seval,ag]|(with_reducible first|apply aa|intro)|exact ah|(try rw[ae]);omega
 refine cD (σ:=Nat) (fun i=>[(0,.d (dC c)),(1,.d (cm cells)),(2,.ptr 0 0),(5,.sl 1 i 1 0 i),(6,.d (dI i))]) (fun i=>[.box [.d (dI c.inputs),.d (aj c.next),.d (aY c.gates),.d (aj c.outs)],.row i 1 true ((ii i).map (D.int .i64))]) (fun i=>i<=cells.length) (fun i=>cells.length-i) [] [] 1000 1000 ?_ ?_
 ·simp only[go_sem,seval];exact⟨0,by omega,by simp[ii]⟩
 ·intro i hi;have hil:(ii i).length=i:=by simp[ii]
  have his:ii (i+1)=ii i ++ [(i:Int)]:=by rw[ii,kO,gw];rfl
  by_cases hlt:i<cells.length
  ·generalize ii i=q at *
   simp only[go_sem,seval]
   repeat' first|simp (disch:=omega) only[go_sem,seval,hil,ag]|(with_reducible first|apply aa|intro)|exact ah|(try rw[ae]);omega
   refine⟨i+1,by omega,by omega,?_⟩;rw[his]
   repeat' apply And.intro
   all_goals rfl
  ·obtain rfl:i=cells.length:=by omega
   have hpo:=Ep (n:=cells.length) (by omega);have hcost:=fun p (h:ay cells.length p)=>rq c hc cells hcl hci p h
   have hpd:kX c cells=((List.range 3).foldl (l5 c cells) (ii cells.length,jK c cells (ii cells.length))).1:=rfl;have hsw:=Cy (c:=c) (cells:=cells) hcl;generalize ii cells.length=P0 at *
   simp only[go_sem,seval]
   repeat' first|simp (disch:=omega) only[go_sem,seval,hil,ag]|(with_reducible first|apply aa|intro)|(refine az (hcost _ hpo) ?_)|exact ah|(try rw[ae]);omega
   refine cD (σ:=Nat) (fun s=>[(0,.d (dC c)),(1,.d (cm cells)),(2,.ptr 0 0),(5,.d (aj ((List.range s).foldl (l5 c cells) (P0,jK c cells P0)).1)),(7,.d (dI ((List.range s).foldl (l5 c cells) (P0,jK c cells P0)).2)),(8,.d (dI s))]) (fun s=>[.box [.d (dI c.inputs),.d (aj c.next),.d (aY c.gates),.d (aj c.outs)]]) (fun s=>s<=3) (fun s=>3-s) [] [] 1000 1000 ?_ ?_
   ·simp only[go_sem,seval];refine⟨0,by omega,?_⟩;simp[hil];exact ag (by omega)
   ·intro s hs;have hS:=hsw s;have hS1:(List.range (s+1)).foldl (l5 c cells) (P0,jK c cells P0)=l5 c cells ((List.range s).foldl (l5 c cells) (P0,jK c cells P0)) s:=uP;generalize hS9:(List.range s).foldl (l5 c cells) (P0,jK c cells P0)=S at *
    have hmid:=CJ (c:=c) hS;have hSd:l5 c cells S s=(List.range cells.length).foldl (fj c cells) S:=rfl;by_cases hst:s<3
    ·repeat' first|simp (disch:=omega) only[go_sem,seval,ag]|(with_reducible first|apply aa|intro)|exact ah|(try rw[ae]);omega
     refine cD (σ:=Nat) (fun i=>[(0,.d (dC c)),(1,.d (cm cells)),(2,.ptr 0 0),(5,.d (aj ((List.range i).foldl (fj c cells) S).1)),(7,.d (dI ((List.range i).foldl (fj c cells) S).2)),(8,.d (dI s)),(9,.d (dI i))]) (fun i=>[.box [.d (dI c.inputs),.d (aj c.next),.d (aY c.gates),.d (aj c.outs)]]) (fun i=>i<=cells.length) (fun i=>cells.length-i) [] [] 1000 1000 ?_ ?_
     ·simp only[go_sem,seval];exact⟨0,by omega,by simp⟩
     ·intro i hi;have hI:=hmid i hi;have hI1:(List.range (i+1)).foldl (fj c cells) S=fj c cells ((List.range i).foldl (fj c cells) S) i:=uP;by_cases hit:i<cells.length
      ·generalize (List.range i).foldl (fj c cells) S=M at *
       have hin:=BX (c:=c) hit hI;have hId:fj c cells M i=(List.range 25).foldl (lf c cells i) M:=rfl
       repeat' first|simp (disch:=omega) only[go_sem,seval,ag]|(with_reducible first|apply aa|intro)|exact ah|(try rw[ae]);omega
       refine cD (σ:=Nat) (fun t=>[(0,.d (dC c)),(1,.d (cm cells)),(2,.ptr 0 0),(5,.d (aj ((List.range t).foldl (lf c cells i) M).1)),(7,.d (dI ((List.range t).foldl (lf c cells i) M).2)),(8,.d (dI s)),(9,.d (dI i)),(10,.d (dI t))]) (fun t=>[.box [.d (dI c.inputs),.d (aj c.next),.d (aY c.gates),.d (aj c.outs)]]) (fun t=>t<=25) (fun t=>25-t) [] [] 1000 1000 ?_ ?_
       ·simp only[go_sem,seval];exact⟨0,by omega,by simp⟩
       ·intro t ht;have hT:=hin t ht;have hT1:(List.range (t+1)).foldl (lf c cells i) M=lf c cells i ((List.range t).foldl (lf c cells i) M) t:=uP;by_cases htt:t<25
        ·generalize (List.range t).foldl (lf c cells i) M=N at *
         obtain⟨p,k⟩:=N;simp only at hT;have hpl:=hT.len;have htr:=uW p i (t:Int) (by omega) (by omega);have hok:=hT.wX hit (tile:=(t:Int)) (by omega);have hco:=hcost _ hok;have hsd:lf c cells i (p,k) t=if jK c cells (ey p i (t:Int))<k then(ey p i (t:Int),jK c cells (ey p i (t:Int))) else(p,k):=rfl
         generalize ey p i (t:Int)=nx at *
         repeat' first|simp (disch:=omega) only[go_sem,seval,ag]|(with_reducible first|apply aa|intro)|(refine az htr ?_)|(refine az hco ?_)|exact ah|(try rw[ae]);omega
         ·rename_i h9;refine⟨t+1,by omega,by omega,?_⟩;rw[hT1,hsd,if_pos h9];exact⟨rfl,rfl,rfl⟩
         ·rename_i h9;refine⟨t+1,by omega,by omega,?_⟩;rw[hT1,hsd,if_neg h9];exact⟨rfl,rfl,rfl⟩
        ·obtain rfl:t=25:=by omega
         rw[<-hId,<-hI1]
         repeat' first|simp (disch:=omega) only[go_sem,seval,ag]|(with_reducible first|apply aa|intro)|exact ah|(try rw[ae]);omega
         refine⟨i+1,by omega,by omega,?_⟩;rw[kO];exact⟨rfl,rfl,rfl⟩
      ·obtain rfl:i=cells.length:=by omega
       rw[<-hSd,<-hS1]
       repeat' first|simp (disch:=omega) only[go_sem,seval,ag]|(with_reducible first|apply aa|intro)|exact ah|(try rw[ae]);omega
       refine⟨s+1,by omega,by omega,?_⟩;rw[kO];exact⟨rfl,rfl,rfl⟩
    ·obtain rfl:s=3:=by omega
     repeat' first|simp (disch:=omega) only[go_sem,seval,ag]|(with_reducible first|apply aa|intro)|exact ah|(try rw[ae]);omega
     all_goals rw[hpd,<-hS9]
end Go.Proofs
