/- Contracts, plain definitions and lemmas. Conditions: none; lemmas. -/
import Derived.Test.YteikeianenfhaaaGreatO5
import Derived.Test.YteikeianenfhaaaGreatC32
import Derived.Test.YteikeianenfhaaaGreatVM8
set_option maxRecDepth 20000
set_option linter.unusedVariables false
set_option linter.unusedSimpArgs false
set_option maxHeartbeats 2000000
namespace Go.Proofs
set_option linter.defProp false
open Go Go.VL Tryz
def bv (c:ac):Nat->dm×List Int
 | 0=>(dm.new (1+c.inputs.toNat+c.next.length),(List.range (aj c)).map fun(v:Nat)=>2*(v:Int))
 | i+1=>if(jG c c.gates.length).getD (aj c+i) false=true then
   (((bv c i).1.and (lmap (bv c i).2 (c.gates.getD i (0,0)).1) (lmap (bv c i).2 (c.gates.getD i (0,0)).2)).1,(bv c i).2 ++ [((bv c i).1.and (lmap (bv c i).2 (c.gates.getD i (0,0)).1) (lmap (bv c i).2 (c.gates.getD i (0,0)).2)).2])
  else((bv c i).1,(bv c i).2 ++ [0])
def KO {m:List Int}{l:Int}(h:0<=l) (hx:0<=m.getD (l/2).toNat 0):(((m.getD (l/2).toNat 0).toNat ^^^ l.toNat &&& 1:Nat):Int)=lmap m l:=by
 have k:=xe h;rcases Int.emod_two_eq l with e|e
 ·rw[e] at k;have k2:l.toNat &&& 1=0:=by omega
  rw[k2,Nat.xor_zero,lmap,if_neg (by omega)];omega
 ·rw[e] at k;have k2:l.toNat &&& 1=1:=by omega
  rw[k2,lmap,if_pos e];exact pZ hx
structure En (c:ac) (i:Nat) (s:dm×List Int):Prop where
 ok:s.1.Ok
 fst:s.1.first=aj c
 len:s.1.gates.length<=i
 ml:s.2.length=aj c+i
 mb : ∀ x∈s.2,0<=x/\x<2*((s.1.first+s.1.gates.length:Nat):Int)
def Do {c:ac}(hv:c.Valid) : ∀ i,i<=c.gates.length->En c i (bv c i)
 | 0,_=>by
  have hfb:=hv.am;have hi0:=hv.i0;have hcf:=lf hv;have e:1+c.inputs.toNat+c.next.length=aj c:=by unfold aj;omega
  refine⟨dm.vu (by omega),by simp only[bv,dm.new];exact e,by simp[bv,dm.new],by simp[bv],fun x hx=>?_⟩;simp only[bv,List.mem_map,List.mem_range] at hx;obtain⟨v,h1,rfl⟩:=hx;simp only[bv,dm.new,fm];omega
 | i+1,hi=>by
  obtain⟨h1,h2,h3,h4,h5⟩:=Do hv i (by omega);have hfb:=hv.am;have hlg:=hv.lg;have hcf:=lf hv;have hg:=hv.g i (by omega);unfold bj at hg;rw[bv];generalize bv c i=s at *
  split
  ·have hx:=lI h5 (l:=(c.gates.getD i (0,0)).1) (by omega);have hy:=lI h5 (l:=(c.gates.getD i (0,0)).2) (by omega);obtain⟨k1,k2,k3,k4⟩:=dm.u5 h1 (lmap s.2 (c.gates.getD i (0,0)).1) (lmap s.2 (c.gates.getD i (0,0)).2) (by omega);have k5:=dm.sN h1 hx hy;refine⟨k1,by simp only;omega,by simp only;omega,by simp;omega,fun x hx=>?_⟩;simp only at hx ⊢;rcases List.mem_append.1 hx with h|h
   ·have:=h5 x h;omega
   ·simp only[mv] at h;subst h;exact k5
  ·refine⟨h1,h2,by simp only;omega,by simp;omega,fun x hx=>?_⟩;simp only at hx ⊢;rcases List.mem_append.1 hx with h|h
   ·exact h5 x h
   ·simp only[mv] at h;subst h;have:=h1.fst;omega
def ss (c:ac):ac:=⟨c.inputs,c.next.map (lmap (bv c c.gates.length).2),(bv c c.gates.length).1.gates,c.outs.map (lmap (bv c c.gates.length).2)⟩
set_option maxHeartbeats 4000000 in
def Tryz.m8 (c:ac) (hv:c.Valid) (hd:(ss c).Valid):Pure prog 95 [pC c] (dC (w7 (ss c))):=by
 refine bw func95 rfl ntmps95 fun ok=>?_
 simp only[go_sem,seval] at ok;have hfb:=hv.am;have hvb:=hv.aM;have hln:=hv.ln;have hlg:=hv.lg;have hlo:=hv.lo;have hi0:=hv.i0;have hi1:=hv.i1;have hcf:=lf hv;have hva:c.vars=c.first+c.gates.length:=rfl
 have hfg:=bq c (by omega);have hre:=kj c hv;have hol:=oz c hv;have c0:=kM c.inputs.toNat c.next.length (by omega);rw[show((c.inputs.toNat:Nat):Int)=c.inputs by omega] at c0;simp only[go_sem,seval]
 repeat' first|assumption|simp (disch:=first|assumption|omega|simp;try omega) only[];try simp only[go_sem,seval]|(with_reducible first|apply aa|intro)|(refine aA hre ?_;simp only[go_sem,seval])|(try rw[ae]);omega
 refine cg (n:=0) [9] (aw [0,1,2,4,5,6,3,7,8] (.one 9 (.fst 10 .done))) ?_;simp only[go_sem,seval]
 repeat' first|assumption|simp (disch:=first|assumption|omega|simp;try omega) only[];try simp only[go_sem,seval]|(with_reducible first|apply aa|intro)|(try rw[ae]);omega
 refine uM c0 [] (by simp only[go_sem,seval]) ?_;simp only[go_sem,seval,bN]
 repeat' first|assumption|simp (disch:=first|assumption|omega|simp;try omega) only[];try simp only[go_sem,seval]|(with_reducible first|apply aa|intro)|(refine lu hol ?_;simp only[go_sem,seval])|(try rw[ae]);omega
 refine ce (E:=env 0) tok (σ:=Nat) (fun i=>[(0,.d (pC c)),(2,.ptr 0 0),(3,.d (eZ (jG c c.gates.length))),(4,.ptr 3 0),(5,.sl 5 i 1 0 (aj c+i)),(27,.d (aO c.gates)),(28,.d (dI c.gates.length)),(29,.d (dI i))])
  (fun i=>.box [.d (dI 0),.d .nil,.d .nil,.d .nil]::(rq (bv c i).1 ++ [.row i 1 true ((bv c i).2.map (D.int .i64))])) (fun i=>i<=c.gates.length) (fun i=>c.gates.length-i) [] 1000 1000 ?_ ?_ ?_
 ·simp only[go_sem,seval]
 ·simp only[go_sem,seval,rq];refine⟨0,by omega,?_⟩;simp only[go_sem,seval,rq,bv,ms];simp
 ·intro i hi;have hrl:=zY (c:=c) c.gates.length;have hfi:(c.first+(i:Int)).toNat=aj c+i:=by omega
  have hos:=Do hv i hi;have hml:=hos.ml;simp only[go_sem,seval,rq];by_cases hlt:i<c.gates.length
  ·have hg:=hv.g i hlt;unfold bj at hg;have hx:=lI hos.mb (l:=(c.gates.getD i (0,0)).1) (by omega);have hy:=lI hos.mb (l:=(c.gates.getD i (0,0)).2) (by omega);have hand:=zK (bv c i).1 hos.ok _ _ hx hy;have hst:bv c (i+1)=if(jG c c.gates.length).getD (aj c+i) false=true then
    (((bv c i).1.and (lmap (bv c i).2 (c.gates.getD i (0,0)).1) (lmap (bv c i).2 (c.gates.getD i (0,0)).2)).1,(bv c i).2 ++ [((bv c i).1.and (lmap (bv c i).2 (c.gates.getD i (0,0)).1) (lmap (bv c i).2 (c.gates.getD i (0,0)).2)).2])
    else((bv c i).1,(bv c i).2 ++ [0]):=rfl
   have hm1:0<=(bv c i).2.getD ((c.gates.getD i (0,0)).1/2).toNat 0:=(hos.mb _ (aP (by omega))).1;have hm2:0<=(bv c i).2.getD ((c.gates.getD i (0,0)).2/2).toNat 0:=(hos.mb _ (aP (by omega))).1;have hl1:=KO hg.1.1 hm1;have hl2:=KO hg.2.1 hm2
   repeat' first|assumption|simp (disch:=first|assumption|omega|simp;try omega) only[];try simp only[go_sem,seval,rq,hfi]|(with_reducible first|apply aa|intro)|(refine aA hfg ?_;simp only[go_sem,seval,rq,hfi])|(try rw[ae]);omega
   ·rename_i hk;rw[if_pos hk] at hst;refine cg (n:=0) [21] (aw [0,1,2,7,11,12,17,3,4,5,6,8,9,10,13,14,15,16,18,19,20] (.one 21 (.fst 22 .done))) ?_;simp only[go_sem,seval,rq]
    repeat' first|assumption|simp (disch:=first|assumption|omega|simp;try omega) only[];try simp only[go_sem,seval,rq,hfi]|(with_reducible first|apply aa|intro)|(try rw[ae]);omega
    all_goals (
     rw[hl1,hl2];refine uM hand [3,4,1,2] (by simp only[bH];simp only[go_sem,seval]) ?_;simp only[go_sem,seval,bH]
     repeat' first|assumption|simp (disch:=first|assumption|omega|simp;try omega) only[];try simp only[go_sem,seval,bH]|(with_reducible first|apply aa|intro)|(try rw[ae]);omega)
    all_goals exact⟨i+1,by omega,by omega,⟨⟨rfl,by omega⟩,rfl⟩,by rw[hst];simp⟩
   ·rename_i hk;rw[if_neg (by rw[hk];decide)] at hst;exact⟨i+1,by omega,by omega,⟨⟨rfl,by omega⟩,rfl⟩,by rw[hst];simp⟩
  ·obtain rfl:i=c.gates.length:=by omega
   have hcir:=nc c.gates.length (bv c c.gates.length).1 hos.ok c (bv c c.gates.length).2 ⟨by omega,by omega⟩ (fun x hx=>(hos.mb x hx).1)
    (fun l hl=>by have:=hv.n l hl;unfold bj at this;rw[hml];omega) (fun l hl=>by have:=hv.o l hl;unfold bj at this;rw[hml];omega)
   rw[hml] at hcir
   repeat' first|assumption|simp (disch:=first|assumption|omega|simp;try omega) only[];try simp only[go_sem,seval,rq,hfi]|(with_reducible first|apply aa|intro)|(refine aA hfg ?_;simp only[go_sem,seval,rq,hfi])|(try rw[ae]);omega
   refine uM hcir [3,4,1,2,5] (by simp only[bH];simp only[go_sem,seval]) ?_;simp only[go_sem,seval,bH];have hpr:=qt (ss c) hd
   repeat' first|assumption|simp (disch:=first|assumption|omega|simp;try omega) only[];try simp only[go_sem,seval,bH]|(with_reducible first|apply aa|intro)|(refine lu hpr ?_;simp only[go_sem,seval,bH])|(try rw[ae]);omega
   trace_state
end Go.Proofs

set_option maxRecDepth 20000
set_option linter.unusedVariables false
set_option linter.unusedSimpArgs false
namespace Go.Proofs
set_option linter.defProp false
open Go Go.VL
def Tryz.nk (c:ac) (hd:c.Valid->(ss c).Valid):Pure prog 33 [dC c] (dC (if c.Valid then w7 (ss c) else ac.zero)):=by
 refine bw func33 rfl ntmps33 fun ok=>?_
 simp only[go_sem,seval] at ok;have hcv:=a8 c;simp only[go_sem,seval];by_cases hv:c.Valid
 ·rw[decide_eq_true hv] at hcv;rw[if_pos hv];have ho:=m8 c hv (hd hv)
  repeat' first|assumption|simp (disch:=first|assumption|omega|simp;try omega) only[];try simp only[go_sem,seval]|(with_reducible first|apply aa|intro)|(refine aA hcv ?_;simp only[go_sem,seval])|(refine lu ho ?_;simp only[go_sem,seval])|(try rw[ae]);omega
 ·rw[decide_eq_false hv] at hcv;rw[if_neg hv]
  repeat' first|assumption|simp (disch:=first|assumption|omega|simp;try omega) only[];try simp only[go_sem,seval]|(with_reducible first|apply aa|intro)|(refine aA hcv ?_;simp only[go_sem,seval])|(try rw[ae]);omega
  all_goals (simp[ac.zero])
end Go.Proofs

set_option maxRecDepth 20000
set_option linter.unusedVariables false
set_option linter.unusedSimpArgs false
namespace Go.Proofs
set_option linter.defProp false
open Go Go.VL
variable {c:ac}
def Ju {c:ac}(hv:c.Valid) (hu : ∀ j,j<c.gates.length->((jG c c.gates.length).getD (aj c+j) false=true↔(aV c c.gates.length).getD j false=true)) :
  ∀ i,i<=c.gates.length->(bv c i).1.gates=(ak c (aV c c.gates.length) true i).gates/\(bv c i).2=(ak c (aV c c.gates.length) true i).m
 | 0,_=>by
  constructor
  ·simp[bv,dm.new,ak]
  ·simp only[bv,ak]
 | i+1,hi=>by
  obtain⟨h1,h2⟩:=Ju hv hu i (by omega);have hf:=(Do hv i (by omega)).fst;rw[bv,ak];by_cases hk:(aV c c.gates.length).getD i false=true
  ·rw[if_pos ((hu i (by omega)).2 hk),I1 hk];simp only[dm.and];rw[hf,h1,h2];exact⟨rfl,rfl⟩
  ·rw[if_neg (fun h=>hk ((hu i (by omega)).1 h)),yZ (by simpa using hk)];exact⟨h1,by rw[h2]⟩
def LQ (hv:c.Valid) (hu : ∀ j,j<c.gates.length->((jG c c.gates.length).getD (aj c+j) false=true↔(aV c c.gates.length).getD j false=true)):ss c=built c true:=by
 obtain⟨h1,h2⟩:=Ju hv hu c.gates.length (aC _);unfold ss built uj;rw[h1,h2]
def F3 {l:List Int}{p:Int->Prop}:(∃ i,i<l.length/\p (l.getD i 0))↔∃ x∈l,p x:=by
 constructor
 ·rintro⟨i,h1,h2⟩;exact⟨_,aP h1,h2⟩
 ·rintro⟨x,hx,h⟩;obtain⟨i,hi,rfl⟩:=fO 0 hx;exact⟨i,hi,h⟩
def Bq {c:ac}(hv:c.Valid) : ∀ k,k<=c.gates.length->∀ j,j<c.gates.length->((jG c k).getD (aj c+j) false=true↔(aV c k).getD j false=true)
 | 0,_,j,hj=>by
  have hfb:=hv.am;have hcf:=lf hv;have hnn : ∀ x∈c.outs++c.next,0<=x:=fun x hx=>by
   rcases List.mem_append.1 hx with h|h
   ·exact(hv.o x h).1
   ·exact(hv.n x h).1
  have hro : ∀ x,x∈c.roots↔x∈c.outs++c.next:=fun x=>by unfold ac.roots;simp[or_comm]
  rw[jG,E9 (by simp;omega),aV,Cs (by simp;omega)];have e1:(List.replicate (aj c+c.gates.length) false).getD (aj c+j) false=false:=by rw[List.getD_eq_getElem?_getD,List.getElem?_replicate];split <;> rfl
  have e2:(List.replicate c.gates.length false).getD j false=false:=by rw[List.getD_eq_getElem?_getD,List.getElem?_replicate];split <;> rfl
  rw[e1,e2,F3 (p:=fun x=>(x/2).toNat=aj c+j),F3 (p:=fun x=>x/2=c.first+(j:Int))];simp only[eV,false_or];constructor
  ·rintro⟨x,hx,h⟩;have:=hnn x ((hro x).1 hx);exact⟨x,(hro x).1 hx,by omega⟩
  ·rintro⟨x,hx,h⟩;have:=hnn x hx;exact⟨x,(hro x).2 hx,by omega⟩
 | k+1,hk,j,hj=>by
  have ih:=Bq hv k (by omega);have hcf:=lf hv;have hfb:=hv.am;have hl:=zY (c:=c) k;have hl2:=sU (c:=c) k;have hg:=hv.g (c.gates.length-1-k) (by omega);unfold bj at hg;rw[jG,aV,ze (by omega),wn];have ihk:=ih (c.gates.length-1-k) (by omega);by_cases hm:(aV c k).getD (c.gates.length-1-k) false=true
  ·rw[if_pos (ihk.2 hm)];by_cases e2:((c.gates.getD (c.gates.length-1-k) (0,0)).2/2).toNat=aj c+j
   ·rw[e2,dY (by rw[fB];omega)];exact⟨fun _=>.inr ⟨hm,.inr (by omega)⟩,fun _=>rfl⟩
   ·rw[oA e2];by_cases e1:((c.gates.getD (c.gates.length-1-k) (0,0)).1/2).toNat=aj c+j
    ·rw[e1,dY (by omega)];exact⟨fun _=>.inr ⟨hm,.inl (by omega)⟩,fun _=>rfl⟩
    ·rw[oA e1,ih j hj];constructor
     ·exact fun h=>.inl h
     ·rintro(h|⟨_,h|h⟩)
      ·exact h
      ·omega
      ·omega
  ·rw[if_neg (fun h=>hm (ihk.1 h)),ih j hj];constructor
   ·exact fun h=>.inl h
   ·rintro(h|⟨h,_⟩)
    ·exact h
    ·exact absurd h hm
def Cj (hv:c.Valid):ss c=built c true:=LQ hv (Bq hv c.gates.length (aC _))
end Go.Proofs

set_option maxRecDepth 20000
set_option linter.unusedVariables false
set_option linter.unusedSimpArgs false
namespace Go.Proofs
set_option linter.defProp false
open Go Go.VL
variable {c:ac}{k:Nat}
def Jg {c:ac}(hf:c.first=(aj c:Int)) : ∀ i,i<=aj c->(dT c i).2=c.first/\∀ v,v<i->(dT c i).1.getD v 0=(v:Int)
 | 0,_=>⟨rfl,fun v h=>by omega⟩
 | i+1,hi=>by
  obtain⟨h1,h2⟩:=Jg hf i (by omega);have hl:=wI (c:=c) i;rw[dT,if_pos (by omega)];refine⟨h1,fun v h=>?_⟩;simp only;by_cases e:i=v
  ·subst e;rw[dY (by omega)]
  ·rw[oA e];exact h2 v (by omega)
def Hs {c:ac}{j v:Nat}(h:v<j) : ∀ e,(dT c (j+e)).1.getD v 0=(dT c j).1.getD v 0
 | 0=>rfl
 | e+1=>by
  have ih:=Hs (c:=c) h e;rw[<-jy,dT];split
  ·simp only;rw[oA (by omega)];exact ih
  ·split
   ·simp only;rw[oA (by omega)];exact ih
   ·exact ih
def JP {c:ac}(hv:c.Valid) : ∀ k,k<=c.gates.length->(dT c (aj c+k)).2=c.first+((ak c (aV c c.gates.length) false k).gates.length:Int)/\∀ v,v<aj c+k->jj c (aV c c.gates.length) v->(ak c (aV c c.gates.length) false k).m.getD v 0=2*(dT c (aj c+k)).1.getD v 0
 | 0,_=>by
  have hf:=lf hv;obtain⟨h1,h2⟩:=Jg hf (aj c) (aC _);refine⟨by rw[ms,h1];simp[ak],fun v h _=>?_⟩;rw[ms,h2 v h];exact(JW hv (u:=aV c c.gates.length) 0 (by omega)).pre v h
 | k+1,hk=>by
  obtain⟨h1,h2⟩:=JP hv k (by omega);have hf:=lf hv;have hl:=wI (c:=c) (aj c+k);have hrc:=Bq hv c.gates.length (aC _) k (by omega);have hml:=(n6 hv (aV c c.gates.length) false k (by omega)).ml;rw[<-jy,dT,if_neg (by omega),ak];generalize hs:ak c (aV c c.gates.length) false k=s at *
  cases hu:(aV c c.gates.length).getD k false with
  | false=>
   rw[if_neg (fun h=>by have:=hrc.1 h;rw[hu] at this;cases this),yZ hu];refine⟨h1,fun v h hg=>?_⟩;have hne:v≠aj c+k:=by
    rintro rfl;rcases hg with h3|h3
    ·omega
    ·rw[Nat.add_sub_cancel_left,hu] at h3;cases h3
   simp only;rw[cZ (by omega)];exact h2 v (by omega) hg
  | true=>
   rw[if_pos (hrc.2 hu),Am hu];refine⟨by simp only[cr,mr];omega,fun v h hg=>?_⟩;simp only;by_cases e:v=aj c+k
   ·subst e;rw[dY (by omega),h1];have e:=pq (l:=s.m) (x:=2*((aj c:Int)+(s.gates.length:Int))) (z:=0);rw[hml] at e;rw[e];omega
   ·rw[cZ (by omega),oA (by omega)];exact h2 v (by omega) hg
def vT (hv:c.Valid) {v:Nat}(hk:k<=c.gates.length) (h:v<aj c+k) (hg:jj c (aV c c.gates.length) v):(ak c (aV c c.gates.length) false k).m.getD v 0=2*(sH c).getD v 0:=by
 rw[(JP hv k hk).2 v h hg,sH,show aj c+c.gates.length=aj c+k+(c.gates.length-k) by omega,Hs h]
def Cp (hv:c.Valid) {l:Int}(hk:k<=c.gates.length) (h:(l/2).toNat<aj c+k) (hg:jj c (aV c c.gates.length) (l/2).toNat):ig c l=lmap (ak c (aV c c.gates.length) false k).m l:=by
 have e:=vT hv hk h hg;rw[Pr (by rw[e];omega),e,ig]
def Gj {c:ac}(hv:c.Valid) : ∀ k,k<=c.gates.length->kv c k=(ak c (aV c c.gates.length) false k).gates
 | 0,_=>rfl
 | k+1,hk=>by
  have ih:=Gj hv k (by omega);have hrc:=Bq hv c.gates.length (aC _) k (by omega);have hf:=lf hv;have hg:=hv.g k (by omega);unfold bj at hg;rw[kv,ak];cases hu:(aV c c.gates.length).getD k false with
  | false=>
   rw[if_neg (fun h=>by have:=hrc.1 h;rw[hu] at this;cases this),yZ hu];exact ih
  | true=>
   obtain⟨c1,c2⟩:=Hk hv k (by omega) hu;rw[if_pos (hrc.2 hu),Am hu,ih,Cp hv (k:=k) (by omega) (by omega) c1,Cp hv (k:=k) (by omega) (by omega) c2]
def vG (hv:c.Valid):w7 c=built c false:=by
 have key : ∀ l,l∈c.outs++c.next->ig c l=lmap (uj c false).m l:=fun l hl=>by
  obtain⟨h1,h2⟩:=MW hv hl;have hf:=lf hv;unfold ac.vars at h1;exact Cp hv (aC _) (by omega) h2
 unfold w7 built;rw[Gj hv _ (aC _),List.map_congr_left (fun l hl=>key l (List.mem_append_right _ hl)),List.map_congr_left (fun l hl=>key l (nz _ hl))];rfl
def wx (hv:c.Valid):w7 (ss c)=cB c:=by
 rw[vG (by rw[Cj hv];exact Cx hv),Cj hv];rfl
def Tryz.zV (c:ac):Pure prog 33 [dC c] (dC (if c.Valid then cB c else ac.zero)):=by
 have h:=nk c (fun hv=>by rw[Cj hv];exact Cx hv);by_cases hv:c.Valid
 ·rw[if_pos hv,<-wx hv];rwa [if_pos hv] at h
 ·rw[if_neg hv];rwa [if_neg hv] at h
end Go.Proofs

set_option linter.unusedVariables false
set_option linter.unusedSimpArgs false
namespace Go.VL
set_option linter.defProp false
variable {i:Nat}{x:Int}{a b cut:List Int}{l p q:List (List Int)}{P:List Int->Prop}{c:ac}
def gI {α β : Type}{f : β->α->β}{b : β}{l:List α}(z : α) (h:i<l.length):(l.take (i+1)).foldl f b=f ((l.take i).foldl f b) (l.getD i z):=by
 rw[m6 h,mM];simp[List.getD,h]
def cy:List Int->List Int->List Int
 | [],b=>b
 | x::a,[]=>x::a
 | x::a,y::b=>if x<y then x::cy a (y::b) else if y<x then y::cy (x::a) b else x::cy a b
termination_by a b=>a.length+b.length
def xM (b:List Int):cy [] b=b:=by rw[cy]
def yM (a:List Int):cy a []=a:=by cases a <;> rw[cy]
def Aw {y:Int}(h:x<y):cy (x::a) (y::b)=x::cy a (y::b):=by rw[cy,if_pos h]
def BA {y:Int}(h:y<x):cy (x::a) (y::b)=y::cy (x::a) b:=by rw[cy,if_neg (by omega),if_pos h]
def Ax:cy (x::a) (x::b)=x::cy a b:=by rw[cy,if_neg (by omega),if_neg (by omega)]
def ow {z:Int} : ∀ (a b:List Int),z∈cy a b↔z∈a∨z∈b
 | [],b=>by rw[xM];simp
 | x::a,[]=>by rw[yM];simp
 | x::a,y::b=>by
  have i1:=ow (z:=z) a (y::b);have i2:=ow (z:=z) (x::a) b;have i3:=ow (z:=z) a b;rcases Int.lt_trichotomy x y with h|h|h
  ·rw[Aw h,jP,i1];simp only[jP,or_assoc]
  ·subst h;rw[Ax,jP,i3];simp only[jP];constructor
   ·rintro(h|h|h) <;> simp[h]
   ·rintro((h|h)|h|h) <;> simp[h]
  ·rw[BA h,jP,i2];simp only[jP];constructor
   ·rintro(h|(h|h)|h) <;> simp[h]
   ·rintro((h|h)|h|h) <;> simp[h]
termination_by a b=>a.length+b.length
def gJ (l:List Int):Prop:=l.Pairwise (· < ·)
def w8 : ∀ {a b:List Int},gJ a->gJ b->gJ (cy a b)
 | [],b,_,hb=>by rw[xM];exact hb
 | x::a,[],ha,_=>by rw[yM];exact ha
 | x::a,y::b,ha,hb=>by
  obtain⟨ha1,ha2⟩:=List.pairwise_cons.1 ha;obtain⟨hb1,hb2⟩:=List.pairwise_cons.1 hb;rcases Int.lt_trichotomy x y with h|h|h
  ·rw[Aw h];refine List.pairwise_cons.2 ⟨fun z hz=>?_,w8 ha2 hb⟩;rcases(ow _ _).1 hz with h1|h1
   ·exact ha1 z h1
   ·rcases List.mem_cons.1 h1 with rfl|h2
    ·exact h
    ·have:=hb1 z h2;omega
  ·subst h;rw[Ax];refine List.pairwise_cons.2 ⟨fun z hz=>?_,w8 ha2 hb2⟩;rcases(ow _ _).1 hz with h1|h1
   ·exact ha1 z h1
   ·exact hb1 z h1
  ·rw[BA h];refine List.pairwise_cons.2 ⟨fun z hz=>?_,w8 ha hb2⟩;rcases(ow _ _).1 hz with h1|h1
   ·rcases List.mem_cons.1 h1 with rfl|h2
    ·exact h
    ·have:=ha1 z h2;omega
   ·exact hb1 z h1
termination_by a b=>a.length+b.length
def KZ : ∀ {a b:List Int},gJ a->gJ b->(∀ z,z∈a↔z∈b)->a=b
 | [],[],_,_,_=>rfl
 | [],y::b,_,_,h=>by have:=(h y).2 (by simp);simp at this
 | x::a,[],_,_,h=>by have:=(h x).1 (by simp);simp at this
 | x::a,y::b,ha,hb,h=>by
  obtain⟨ha1,ha2⟩:=List.pairwise_cons.1 ha;obtain⟨hb1,hb2⟩:=List.pairwise_cons.1 hb;have hxy:x=y:=by
   rcases List.mem_cons.1 ((h x).1 (by simp)) with h1|h1
   ·exact h1
   ·rcases List.mem_cons.1 ((h y).2 (by simp)) with h2|h2
    ·exact h2.symm
    ·have:=hb1 x h1;have:=ha1 y h2;omega
  subst hxy;congr 1;refine KZ ha2 hb2 fun z=>⟨fun hz=>?_,fun hz=>?_⟩
  ·have hlt:=ha1 z hz;rcases List.mem_cons.1 ((h z).1 (by simp[hz])) with h1|h1
   ·omega
   ·exact h1
  ·have hlt:=hb1 z hz;rcases List.mem_cons.1 ((h z).2 (by simp[hz])) with h1|h1
   ·omega
   ·exact h1
def yV : ∀ (a b:List Int),(cy a b).length<=a.length+b.length
 | [],b=>by rw[xM];simp
 | x::a,[]=>by rw[yM];simp
 | x::a,y::b=>by
  have i1:=yV a (y::b);have i2:=yV (x::a) b;have i3:=yV a b;rcases Int.lt_trichotomy x y with h|h|h
  ·rw[Aw h];simp only[cU] at *;omega
  ·subst h;rw[Ax];simp only[cU] at *;omega
  ·rw[BA h];simp only[cU] at *;omega
termination_by a b=>a.length+b.length
def fR (l:List (List Int)) (cut:List Int):List (List Int):=if cut.length<=3/\l.length<8/\cut∉l then l ++ [cut] else l
def bn (x:List Int) (q:List (List Int)) (l:List (List Int)):List (List Int):=q.foldl (fun l y=>fR l (cy x y)) l
def mI (p q:List (List Int)):List (List Int):=p.foldl (fun l x=>bn x q l) []
def cL (c:ac) (i:Nat):Int:=(c.gates.getD i (0,0)).1
def cN (c:ac) (i:Nat):Int:=(c.gates.getD i (0,0)).2
def bz (c:ac):Nat->List (List (List Int))
 | 0=>[[]]::(List.range (c.first.toNat-1)).map fun(v:Nat)=>[[(v:Int)+1]]
 | i+1=>bz c i ++ [mI ((bz c i).getD (cL c i/2).toNat []) ((bz c i).getD (cN c i/2).toNat []) ++ [[c.first+(i:Int)]]]
def gO (c:ac):List (List (List Int)):=bz c c.gates.length
def kI {c:ac}(h:1<=c.first) : ∀ i,(bz c i).length=c.first.toNat+i
 | 0=>by simp[bz];omega
 | i+1=>by rw[bz,cr,kI h i];simp;omega
def sM (h:l.length<=8):(fR l cut).length<=8:=by
 unfold fR;split
 ·rename_i h2;simp;omega
 ·exact h
def x4 {x:List Int} : ∀ {q l:List (List Int)},l.length<=8->(bn x q l).length<=8
 | [],l,h=>h
 | y::q,l,h=>x4 (q:=q) (sM h)
def Ck (p q:List (List Int)):(mI p q).length<=8:=by
 have : ∀ (p l:List (List Int)),l.length<=8->(p.foldl (fun l x=>bn x q l) l).length<=8:=by
  intro p;induction p with
  | nil=>exact fun l h=>h
  | cons x p ih=>exact fun l h=>ih _ (x4 h)
 exact this p [] (by simp)
def LZ (h : ∀ x∈l,P x) (hc:cut.length<=3->P cut) : ∀ x∈fR l cut,P x:=by
 unfold fR;split
 ·rename_i h2;intro x hx;rcases List.mem_append.1 hx with h1|h1
  ·exact h x h1
  ·obtain rfl:x=cut:=by simpa using h1
   exact hc h2.1
 ·exact h
def F1 {P:List Int->Prop}{x:List Int} : ∀ {q l:List (List Int)},(∀ z∈l,P z)->(∀ y∈q,(cy x y).length<=3->P (cy x y))->∀ z∈bn x q l,P z
 | [],l,h,_=>h
 | y::q,l,h,hq=>F1 (q:=q) (LZ h (hq y (by simp))) fun z hz=>hq z (by simp[hz])
def zg (h : ∀ x∈p,∀ y∈q,(cy x y).length<=3->P (cy x y)) : ∀ z∈mI p q,P z:=by
 have : ∀ (p l:List (List Int)),(∀ z∈l,P z)->(∀ x∈p,∀ y∈q,(cy x y).length<=3->P (cy x y))->∀ z∈p.foldl (fun l x=>bn x q l) l,P z:=by
  intro p;induction p with
  | nil=>exact fun l h _=>h
  | cons x p ih=>exact fun l h hp=>ih _ (F1 h (hp x (by simp))) fun z hz=>hp z (by simp[hz])
 exact this p [] (by simp) h
def OS:l.length<=(fR l cut).length:=by
 unfold fR;split <;> simp
def Ex {x:List Int} : ∀ {q l:List (List Int)},l.length<=(bn x q l).length
 | [],l=>aC _
 | y::q,l=>hM OS (Ex (q:=q))
def ML (h:cut.length<=3):0<(fR l cut).length:=by
 unfold fR;split
 ·simp
 ·rename_i h2;cases l with
  | nil=>exact absurd ⟨h,by simp,by simp⟩ h2
  | cons x r=>simp
def Jb {x y:List Int}(h:(cy x y).length<=3) : ∀ {q l:List (List Int)},y∈q->0<(bn x q l).length
 | [],l,hy=>by simp at hy
 | z::q,l,hy=>by
  rcases List.mem_cons.1 hy with rfl|h1
  ·exact hC (ML (l:=l) h) (Ex (q:=q))
  ·exact Jb h (q:=q) h1
def NJ {x y:List Int}(hx:x∈p) (hy:y∈q) (h:(cy x y).length<=3):0<(mI p q).length:=by
 have mono : ∀ (p l:List (List Int)),l.length<=(p.foldl (fun l x=>bn x q l) l).length:=by
  intro p;induction p with
  | nil=>exact fun l=>aC _
  | cons x p ih=>exact fun l=>hM (Ex (q:=q)) (ih _)
 have : ∀ (p l:List (List Int)),x∈p->0<(p.foldl (fun l x=>bn x q l) l).length:=by
  intro p;induction p with
  | nil=>exact fun l h=>by simp at h
  | cons z p ih=>
   intro l hz;rcases List.mem_cons.1 hz with rfl|h1
   ·exact hC (Jb h (l:=l) hy) (mono p _)
   ·exact ih _ h1
 exact this p [] hx
structure uQ (c:ac) (v:Int) (cut:List Int):Prop where
 gJ:gJ cut
 len:cut.length<=3
 rng : ∀ z∈cut,1<=z/\z<=v
def pm (hc:c.Valid) : ∀ i,i<=c.gates.length->∀ v,v<(bz c i).length->(∀ cut∈(bz c i).getD v [],uQ c (v:Int) cut)/\(bz c i).getD v []≠[]/\(∃ s∈(bz c i).getD v [],s.length<=1)/\((bz c i).getD v []).length<=9:=by
 have hf:=hc.am;intro i;induction i with
 | zero=>
  intro _ v hv;rw[kI hf.1] at hv;cases v with
  | zero=>
   have e:(bz c 0).getD 0 []=[[]]:=rfl;rw[e];refine⟨fun cut h=>?_,by simp,⟨[],by simp,by simp⟩,by simp⟩;obtain rfl:cut=[]:=by simpa using h
   exact⟨List.Pairwise.nil,by simp,by simp⟩
  | succ v=>
   have e:(bz c 0).getD (v+1) []=[[(v:Int)+1]]:=by
    simp[bz,List.getD,show v<c.first.toNat-1 by omega]
   rw[e];refine⟨fun cut h=>?_,by simp,⟨[(v:Int)+1],by simp,by simp⟩,by simp⟩;obtain rfl:cut=[(v:Int)+1]:=by simpa using h
   exact⟨by simp[gJ],by simp,fun z hz=>by
    obtain rfl:z=(v:Int)+1:=by simpa using hz
    omega⟩
 | succ i ih=>
  intro hi v hv;have hl:=kI (c:=c) hf.1 i;rw[kI hf.1] at hv;by_cases h:v<c.first.toNat+i
  ·have e:(bz c (i+1)).getD v []=(bz c i).getD v []:=by rw[bz];exact cZ (by omega)
   rw[e];exact ih (by omega) v (by omega)
  ·have hv2:v=(bz c i).length:=by omega
   have e:(bz c (i+1)).getD v []=mI ((bz c i).getD (cL c i/2).toNat []) ((bz c i).getD (cN c i/2).toNat []) ++ [[c.first+(i:Int)]]:=by
    rw[bz,hv2];simp[List.getD]
   obtain⟨g1,g2⟩:=hc.g i (by omega);have ha:(cL c i/2).toNat<c.first.toNat+i:=by unfold cL;unfold bj at g1;omega
   have hb:(cN c i/2).toNat<c.first.toNat+i:=by unfold cN;unfold bj at g2;omega
   obtain⟨a1,a2,⟨sa,a3,a4⟩,a5⟩:=ih (by omega) _ (by rw[hl];exact ha);obtain⟨b1,b2,⟨sb,b3,b4⟩,b5⟩:=ih (by omega) _ (by rw[hl];exact hb);rw[e];have hj:=Ck ((bz c i).getD (cL c i/2).toNat []) ((bz c i).getD (cN c i/2).toNat []);refine⟨fun cut h=>?_,by simp,⟨[c.first+(i:Int)],by simp,by simp⟩,by rw[cr,mr];omega⟩;rcases List.mem_append.1 h with h1|h1
   ·refine zg (P:=fun cut=>uQ c (v:Int) cut) (fun x hx y hy hle=>?_) cut h1;have hx':=a1 x hx;have hy':=b1 y hy;refine⟨w8 hx'.gJ hy'.gJ,hle,fun z hz=>?_⟩;rcases(ow _ _).1 hz with h2|h2
    ·have:=hx'.rng z h2;omega
    ·have:=hy'.rng z h2;omega
   ·obtain rfl:cut=[c.first+(i:Int)]:=by simpa using h1
    exact⟨by simp[gJ],by simp,fun z hz=>by
     obtain rfl:z=c.first+(i:Int):=by simpa using hz
     omega⟩
def v6 (hf:1<=c.first) {n:Nat}(h:i<n):(bz c n).getD (c.first.toNat+i) []=mI ((bz c i).getD (cL c i/2).toNat []) ((bz c i).getD (cN c i/2).toNat []) ++ [[c.first+(i:Int)]]:=by
 induction n with
 | zero=>omega
 | succ n ih=>
  have hl:=kI (c:=c) hf n;by_cases hin:i<n
  ·rw[bz,cZ (by omega)];exact ih hin
  ·obtain rfl:i=n:=by omega
   rw[bz,<-hl];simp[List.getD]
def Ey (hc:c.Valid) (h:i<c.gates.length):0<(mI ((bz c i).getD (cL c i/2).toNat []) ((bz c i).getD (cN c i/2).toNat [])).length:=by
 have hf:=hc.am;have hl:=kI (c:=c) hf.1 i;obtain⟨g1,g2⟩:=hc.g i h;have ha:(cL c i/2).toNat<c.first.toNat+i:=by unfold cL;unfold bj at g1;omega
 have hb:(cN c i/2).toNat<c.first.toNat+i:=by unfold cN;unfold bj at g2;omega
 obtain⟨a1,a2,⟨sa,a3,a4⟩,a5⟩:=pm hc i (by omega) _ (by rw[hl];exact ha);obtain⟨b1,b2,⟨sb,b3,b4⟩,b5⟩:=pm hc i (by omega) _ (by rw[hl];exact hb);exact NJ a3 b3 (by have:=yV sa sb;omega)
end Go.VL

set_option linter.unusedVariables false
set_option linter.unusedSimpArgs false
namespace Go.VL
set_option linter.defProp false
variable {arr leaves:List Int}{l:List (List Int)}{c:ac}{cuts:List (List (List Int))}{i n v x:Nat}
def lm (arr:List Int) (cut:List Int):Int:=cut.foldl (fun t v=>max t (arr.getD v.toNat 0)) 0
def j9 (arr:List Int) (x b:List Int):Prop:=lm arr x<lm arr b∨(lm arr x=lm arr b/\x.length<b.length)
instance (arr:List Int) (x b:List Int):Decidable (j9 arr x b):=by unfold j9;infer_instance
def gj (arr:List Int):List (List Int)->List Int
 | []=>[]
 | x::r=>r.foldl (fun b y=>if j9 arr y b then y else b) x
def H5 {y:List Int}(h:0<l.length):gj arr (l ++ [y])=if j9 arr y (gj arr l) then y else gj arr l:=by
 cases l with
 | nil=>simp at h
 | cons x r=>
  have e : ∀ s,gj arr (x::s)=s.foldl (fun b y=>if j9 arr y b then y else b) x:=fun s=>rfl
  show gj arr (x::(r ++ [y]))=_
  rw[e (r ++ [y]),mM];rfl
def DH (h:0<l.length):gj arr l∈l:=by
 cases l with
 | nil=>simp at h
 | cons x r=>
  have : ∀ (r:List (List Int)) (b:List Int),r.foldl (fun b y=>if j9 arr y b then y else b) b=b∨r.foldl (fun b y=>if j9 arr y b then y else b) b∈r:=by
   intro r;induction r with
   | nil=>exact fun b=>.inl rfl
   | cons y r ih=>
    intro b;simp only[eO];rcases ih (if j9 arr y b then y else b) with h1|h1
    ·rw[h1];split
     ·exact .inr (by simp)
     ·exact .inl rfl
    ·exact .inr (by simp[h1])
  rcases this r x with h1|h1
  ·rw[gj,h1];simp
  ·rw[gj];simp[h1]
def bZ (c:ac) (cuts:List (List (List Int))):Nat->List (List Int)×List Int
 | 0=>(List.replicate c.first.toNat [],List.replicate c.first.toNat 0)
 | i+1=>
  (
   (bZ c cuts i).1 ++ [gj (bZ c cuts i).2 (cuts.getD (c.first.toNat+i) []).dropLast],
   (bZ c cuts i).2 ++ [1+lm (bZ c cuts i).2 (gj (bZ c cuts i).2 (cuts.getD (c.first.toNat+i) []).dropLast)])
def vA (c:ac) (cuts:List (List (List Int))) : ∀ i,(bZ c cuts i).1.length=c.first.toNat+i/\(bZ c cuts i).2.length=c.first.toNat+i
 | 0=>by simp[bZ]
 | i+1=>by
  have:=vA c cuts i;simp only[bZ,cr,mr];omega
def zv {cut:List Int}{m:Int}(h : ∀ z∈cut,arr.getD z.toNat 0<=m) (hm:0<=m):0<=lm arr cut/\lm arr cut<=m:=by
 have : ∀ (cut:List Int) (t:Int),(∀ z∈cut,arr.getD z.toNat 0<=m)->0<=t->t<=m->0<=cut.foldl (fun t v=>max t (arr.getD v.toNat 0)) t/\cut.foldl (fun t v=>max t (arr.getD v.toNat 0)) t<=m:=by
  intro cut;induction cut with
  | nil=>exact fun t _ h1 h2=>⟨h1,h2⟩
  | cons x r ih=>
   intro t h h1 h2;have hx:=h x (by simp);exact ih (max t (arr.getD x.toNat 0)) (fun z hz=>h z (by simp[hz])) (by omega) (by omega)
 exact this cut 0 h (Int.le_refl 0) hm
def Cm (c:ac) (cuts:List (List (List Int))) : ∀ i j,0<=(bZ c cuts i).2.getD j 0/\(bZ c cuts i).2.getD j 0<=i
 | 0,j=>by
  by_cases h:j<c.first.toNat
  ·simp[bZ,List.getD,h]
  ·simp[bZ,List.getD,h]
 | i+1,j=>by
  have ih:=Cm c cuts i;have hl:=(vA c cuts i).2;by_cases h:j<(bZ c cuts i).2.length
  ·have e:(bZ c cuts (i+1)).2.getD j 0=(bZ c cuts i).2.getD j 0:=by simp only[bZ];exact cZ h
   have:=ih j;rw[e];omega
  ·have ha:=zv (arr:=(bZ c cuts i).2) (cut:=gj (bZ c cuts i).2 (cuts.getD (c.first.toNat+i) []).dropLast) (m:=i) (fun z _=>(ih z.toNat).2) (by omega);by_cases h2:j=(bZ c cuts i).2.length
   ·have e:(bZ c cuts (i+1)).2.getD j 0=1+lm (bZ c cuts i).2 (gj (bZ c cuts i).2 (cuts.getD (c.first.toNat+i) []).dropLast):=by
     simp only[bZ,h2];simp[List.getD]
    rw[e];omega
   ·have e:(bZ c cuts (i+1)).2.getD j 0=0:=by
     rw[List.getD_eq_getElem?_getD,List.getElem?_eq_none (by simp only[bZ,cr,mr];omega)];rfl
    rw[e];omega
noncomputable def cS (c:ac):List (List Int):=(bZ c (gO c) c.gates.length).1
noncomputable def tF (c:ac):List Int:=(bZ c (gO c) c.gates.length).2
def LI (h:i<=n) (hv:v<c.first.toNat+i) :
  (bZ c cuts n).1.getD v []=(bZ c cuts i).1.getD v []/\(bZ c cuts n).2.getD v 0=(bZ c cuts i).2.getD v 0:=by
 induction n with
 | zero=>
      obtain rfl:i=0:=by omega
      exact⟨rfl,rfl⟩
 | succ n ih=>
  have hl:=vA c cuts n;by_cases hin:i<=n
  ·have:=ih hin;simp only[bZ];rw[cZ (by omega),cZ (by omega)];exact this
  ·obtain rfl:i=n+1:=by omega
   exact⟨rfl,rfl⟩
def Lf (h:i<n) :
  (bZ c cuts n).1.getD (c.first.toNat+i) []=gj (bZ c cuts i).2 (cuts.getD (c.first.toNat+i) []).dropLast/\
  (bZ c cuts n).2.getD (c.first.toNat+i) 0=1+lm (bZ c cuts i).2 (gj (bZ c cuts i).2 (cuts.getD (c.first.toNat+i) []).dropLast):=by
 have hl:=vA c cuts i;have:=LI (c:=c) (cuts:=cuts) (i:=i+1) (n:=n) (by omega) (v:=c.first.toNat+i) (by omega);rw[this.1,this.2];simp only[bZ];constructor
 ·have e:c.first.toNat+i=(bZ c cuts i).1.length:=by omega
  rw[e];simp[List.getD]
 ·have e:c.first.toNat+i=(bZ c cuts i).2.length:=by omega
  rw[e];simp[List.getD]
def IH (hc:c.Valid) (h:i<c.gates.length):(cS c).getD (c.first.toNat+i) []∈mI ((bz c i).getD (cL c i/2).toNat []) ((bz c i).getD (cN c i/2).toNat []):=by
 have hf:=hc.am;have e:((gO c).getD (c.first.toNat+i) []).dropLast=mI ((bz c i).getD (cL c i/2).toNat []) ((bz c i).getD (cN c i/2).toNat []):=by
  rw[gO,v6 hf.1 h,List.dropLast_concat]
 rw[cS,(Lf h).1,e];exact DH (Ey hc h)
def p6 (hc:c.Valid) (h:i<c.gates.length):gJ ((cS c).getD (c.first.toNat+i) [])/\((cS c).getD (c.first.toNat+i) []).length<=3/\∀ z∈(cS c).getD (c.first.toNat+i) [],1<=z/\z<c.first+i:=by
 have hf:=hc.am;have hl:=kI (c:=c) hf.1 i;obtain⟨g1,g2⟩:=hc.g i h;have ha:(cL c i/2).toNat<c.first.toNat+i:=by unfold cL;unfold bj at g1;omega
 have hb:(cN c i/2).toNat<c.first.toNat+i:=by unfold cN;unfold bj at g2;omega
 obtain⟨a1,-⟩:=pm hc i (by omega) _ (by rw[hl];exact ha);obtain⟨b1,-⟩:=pm hc i (by omega) _ (by rw[hl];exact hb);have:=zg (P:=fun cut=>gJ cut/\cut.length<=3/\∀ z∈cut,1<=z/\z<c.first+i) (fun x hx y hy hle=>by
  have hx':=a1 x hx;have hy':=b1 y hy;refine⟨w8 hx'.gJ hy'.gJ,hle,fun z hz=>?_⟩;rcases(ow _ _).1 hz with h2|h2
  ·have:=hx'.rng z h2;omega
  ·have:=hy'.rng z h2;omega) _ (IH hc h)
 exact this
def IR (c:ac):(cS c).length=c.first.toNat+c.gates.length:=(vA c _ _).1
def ng (leaves:List Int) (x:Nat) (v:Int) (d:Bool):Bool:=if v∈leaves then x.testBit (leaves.idxOf v) else d
def mw (c:ac) (leaves:List Int) (x:Nat):Nat->List Bool
 | 0=>(List.range c.first.toNat).map fun(v:Nat)=>ng leaves x (v:Int) false
 | i+1=>mw c leaves x i ++ [ng leaves x (c.first+(i:Int)) (aY (mw c leaves x i) (cL c i)&&aY (mw c leaves x i) (cN c i))]
def Dp (c:ac) (leaves:List Int) (x:Nat) : ∀ i,(mw c leaves x i).length=c.first.toNat+i
 | 0=>by simp[mw]
 | i+1=>by rw[mw,cr,Dp c leaves x i];simp;omega
def fF (c:ac) (leaves:List Int) (x:Nat) (v:Int):Bool:=(mw c leaves x c.gates.length).getD v.toNat false
def Ej (h:i<=n) (hv:v<c.first.toNat+i):(mw c leaves x n).getD v false=(mw c leaves x i).getD v false:=by
 induction n with
 | zero=>
      obtain rfl:i=0:=by omega
      rfl
 | succ n ih=>
  have hl:=Dp c leaves x n;by_cases hin:i<=n
  ·rw[mw,cZ (by omega)];exact ih hin
  ·obtain rfl:i=n+1:=by omega
   rfl
def zd {v:Int}(h0:0<=v) (h:v<c.first):fF c leaves x v=ng leaves x v false:=by
 rw[fF,Ej (i:=0) (by omega) (by omega),mw];simp[List.getD,show v.toNat<c.first.toNat by omega,Int.toNat_of_nonneg h0]
def ER {l:Int}(h:bj l (c.first+(i:Int))) (hi:i<=c.gates.length) (hf:1<=c.first):aY (mw c leaves x i) l=(fF c leaves x (l/2) != decide (l%2=1)):=by
 unfold bj at h;rw[aY,fF,Ej hi (by omega)]
def Ak (hc:c.Valid) (h:i<c.gates.length) :
  fF c leaves x (c.first+(i:Int))=ng leaves x (c.first+(i:Int)) ((fF c leaves x (cL c i/2) != decide (cL c i%2=1))&&(fF c leaves x (cN c i/2) != decide (cN c i%2=1))):=by
 have hf:=hc.am;obtain⟨g1,g2⟩:=hc.g i h;have q1:aY (mw c leaves x i) (cL c i)=(fF c leaves x (cL c i/2) != decide (cL c i%2=1)):=ER (i:=i) g1 (by omega) hf.1;have q2:aY (mw c leaves x i) (cN c i)=(fF c leaves x (cN c i/2) != decide (cN c i%2=1)):=ER (i:=i) g2 (by omega) hf.1;rw[<-q1,<-q2];rw[fF,Ej (i:=i+1) (by omega) (by omega),mw];have e:(c.first+(i:Int)).toNat=(mw c leaves x i).length:=by rw[Dp];omega
 rw[e];simp[List.getD]
def lV (c:ac) (v:Int) (leaves:List Int):Nat->Nat
 | 0=>0
 | x+1=>lV c v leaves x+(if fF c leaves x v then 2 ^ x else 0)
def yF (c:ac) (v:Int) (leaves:List Int) : ∀ n,lV c v leaves n<2 ^ n
 | 0=>by simp[lV]
 | n+1=>by
  have:=yF c v leaves n;rw[lV,Nat.pow_succ];split <;> omega
def Kj (c:ac) (v:Int) (leaves:List Int) : ∀ n x,x<n->(lV c v leaves n).testBit x=fF c leaves x v
 | 0,x,h=>by omega
 | n+1,x,h=>by
  have hlt:=yF c v leaves n;have ih:=Kj c v leaves n;rw[lV];by_cases hx:x=n
  ·subst hx;split
   ·rename_i h1;rw[Nat.add_comm,Nat.testBit_two_pow_add_eq,Nat.testBit_lt_two_pow hlt,h1];rfl
   ·rename_i h1;rw[ms,Nat.testBit_lt_two_pow hlt];simpa using h1
  ·have hxn:x<n:=by omega
   split
   ·rw[Nat.add_comm,Nat.testBit_two_pow_add_gt hxn];exact ih x hxn
   ·exact ih x hxn
def s8 (c:ac) (v:Int) (leaves:List Int):Int:=(lV c v leaves (2 ^ leaves.length):Nat)
structure kQ where
 var:Int
 leaves:List Int
 table:Int
def fg (need:List Bool) (vs:List Int):List Bool:=vs.foldl (fun n v=>n.set v.toNat true) need
def s6 : ∀ (vs:List Int) (need:List Bool),(fg need vs).length=need.length
 | [],need=>rfl
 | v::vs,need=>by
  show(fg (need.set v.toNat true) vs).length=_
  rw[s6 vs,fB]
def yP : ∀ (vs:List Int) (need:List Bool) (j:Nat),(∀ v∈vs,0<=v)->(fg need vs).getD j false=(need.getD j false || decide (j<need.length/\(j:Int)∈vs))
 | [],need,j,_=>by simp[fg]
 | v::vs,need,j,h=>by
  show(fg (need.set v.toNat true) vs).getD j false=_
  rw[yP vs _ j fun z hz=>h z (by simp[hz])];have hv:=h v (by simp);by_cases e:v.toNat=j
  ·subst e;by_cases hl:v.toNat<need.length
   ·simp[List.getD,hl,Int.toNat_of_nonneg hv]
   ·simp[List.getD,hl]
  ·have : ¬ (j:Int)=v:=by omega
   simp[List.getD,List.getElem?_set,e,this]
def ku (c:ac):List Int:=(c.outs++c.next).map (· / 2)
def lT (c:ac):List Bool:=fg (List.replicate c.vars.toNat false) (ku c)
noncomputable def fC (c:ac):Nat->List Bool->List kQ->List kQ
 | 0,_,out=>out
 | j+1,need,out=>
  if need.getD (c.first.toNat+j) false=true then
   fC c j (fg need ((cS c).getD (c.first.toNat+j) [])) (⟨c.first+(j:Int),(cS c).getD (c.first.toNat+j) [],s8 c (c.first+(j:Int)) ((cS c).getD (c.first.toNat+j) [])⟩::out)
  else fC c j need out
noncomputable def iQ (c:ac):List kQ:=fC c c.gates.length (lT c) []
structure bR where
 net:Int
 inputs:List Int
 table:Int
 ge:Bool
def iU (c:ac) (i:Nat):bR:=
 if(c.next.getD i 0)/2 > 0 then⟨c.inputs+1+i,[(c.next.getD i 0)/2],2-(c.next.getD i 0)%2,true⟩ else⟨c.inputs+1+i,[],(c.next.getD i 0)%2,true⟩
def gD (l:kQ):bR:=⟨l.var,l.leaves,l.table,false⟩
noncomputable def ax (c:ac):List bR:=(List.range c.next.length).map (iU c)++(iQ c).map gD
def bI:bR:=⟨0,[],0,false⟩
def pJ (x:bR) (net:Int) (i:Nat):List Int:=(x.inputs.filter fun z=>decide (z=net)).map fun _=>(i:Int)
def eA (cells:List bR) (net:Int):Nat->List Int
 | 0=>[]
 | i+1=>eA cells net i++pJ (cells.getD i bI) net i
def mH (cells:List bR) (net:Int):List Int:=eA cells net cells.length
def z8 {cells:List bR}{net:Int}{z:Int} : ∀ {n:Nat},z∈eA cells net n↔∃ i:Nat,i<n/\net∈(cells.getD i bI).inputs/\z=(i:Int)
 | 0=>by simp[eA]
 | n+1=>by
  rw[eA,fV,z8];constructor
  ·rintro(⟨i,h1,h2,h3⟩|h)
   ·exact⟨i,by omega,h2,h3⟩
   ·simp only[pJ,List.mem_map,List.mem_filter,decide_eq_true_eq] at h;obtain⟨w,⟨h1,rfl⟩,rfl⟩:=h;exact⟨n,by omega,h1,rfl⟩
  ·rintro⟨i,h1,h2,rfl⟩;by_cases hi:i<n
   ·exact .inl ⟨i,hi,h2,rfl⟩
   ·obtain rfl:i=n:=by omega
    exact .inr (List.mem_map.2 ⟨net,List.mem_filter.2 ⟨h2,by simp⟩,rfl⟩)
end Go.VL

set_option maxRecDepth 20000
set_option linter.unusedVariables false
set_option linter.unusedSimpArgs false
namespace Go.Proofs
set_option linter.defProp false
open Go Go.VL
variable {c:ac}{leaves:List Int}{x:Nat}
abbrev Kn:=List (Int×Bool)
variable {m:Kn}
def kn (m:Kn) (k:Int):Option Bool:=(m.find? fun e=>decide (e.1=k)).map fun e=>e.2
def gY:Kn->Int->Bool->Kn
 | [],k,b=>[(k,b)]
 | e::r,k,b=>if e.1=k then(k,b)::r else e::gY r k b
def wS (k:Int) (b:Bool) (j:Int) : ∀ m,kn (gY m k b) j=if j=k then some b else kn m j
 | []=>by by_cases h:j=k <;> simp[kn,gY,h,eq_comm]
 | e::r=>by
  have ih:=wS k b j r;unfold gY;by_cases h:e.1=k
  ·rw[if_pos h];by_cases h2:j=k
   ·simp[kn,h2]
   ·have h3 : ¬ e.1=j:=fun h4=>h2 (by rw[<-h4,h])
    have h4 : ¬ k=j:=fun h5=>h2 h5.symm
    simp[kn,h2,h3,h4]
  ·rw[if_neg h];by_cases h3:e.1=j
   ·have h2 : ¬ j=k:=fun h4=>h (by rw[h3,h4])
    simp[kn,h2,h3]
   ·unfold kn at ih ⊢;simp only[List.find?_cons,decide_eq_false h3,ih]
def ka (m:Kn):List (D×D):=m.map fun e=>(dI e.1,D.bool e.2)
def Du (k:Int) : ∀ m,fX (ka m) (dI k)=(kn m k).map D.bool
 | []=>rfl
 | e::r=>by
  have ih:=Du k r;show fX ((dI e.1,D.bool e.2)::ka r) _=_
  rw[Ch,x3];by_cases h:e.1=k
  ·subst h;simp[kn]
  ·rw[decide_eq_false (fun h2=>h h2.symm)];simp only[eV,if_false,ih];simp[kn,h]
def Al (k:Int) (b:Bool) : ∀ m,cw (ka m) (dI k) (D.bool b)=ka (gY m k b)
 | []=>rfl
 | e::r=>by
  have ih:=Al k b r;show cw ((dI e.1,D.bool e.2)::ka r) _ _=_
  rw[cw,x3];by_cases h:e.1=k
  ·subst h;simp[gY,ka]
  ·rw[decide_eq_false (fun h2=>h h2.symm)];simp only[eV,if_false,ih];simp[gY,ka,h]
def Ad (m:Kn):jL (.int .i64) (ka m):=by
 rw[Bc];intro e he;obtain⟨x,_,rfl⟩:=List.mem_map.1 he;exact rfl
structure iG (c:ac) (leaves:List Int) (x:Nat) (m:Kn):Prop where
 val : ∀ k b,kn m k=some b->b=fF c leaves x k
 leaf : ∀ z∈leaves,kn m z≠none
def iG.up (h:iG c leaves x m) (k:Int):iG c leaves x (gY m k (fF c leaves x k)):=by
 refine⟨fun j b hj=>?_,fun z hz=>?_⟩
 ·rw[wS] at hj;split at hj
  ·rename_i e;subst e;simpa using hj.symm
  ·exact h.val j b hj
 ·rw[wS];split
  ·simp
  ·exact h.leaf z hz
def GQ {v:Int}{X:Bool}{T:List R}(hm:iG c leaves x m) (hX:X=fF c leaves x v) :
  gP 1 (fun r H'=>∃ m',iG c leaves x m'/\r=I.d (dB (fF c leaves x v))/\H'=[R.map (ka m')]) (I.d (D.bool X)) (.map (cw (ka m) (dI v) (D.bool X))::T):=by
 subst hX;rw[Al];refine pr (r0:=.d (dB (fF c leaves x v))) (H1:=[.map (ka (gY m v (fF c leaves x v)))]) ?_ ⟨_,hm.up v,rfl,rfl⟩;simp only[go_sem,seval]
set_option maxHeartbeats 4000000 in
def Tryz.lN (c:ac) (hc:c.Valid) (leaves:List Int) (x:Nat) : ∀ (n:Nat) (v:Int) (m:Kn),v.toNat<n->0<=v->v<c.vars->iG c leaves x m->
  aQ prog 208 [.d (pC c),.d (dI v),.map 0] [.map (ka m)] (fun r H'=>∃ m',iG c leaves x m'/\r=.d (dB (fF c leaves x v))/\H'=[.map (ka m')]):=by
 have hf:=hc.am;have hi0:=hc.i0;have hi1:=hc.i1;have hvv:=hc.aM;have hfst:=bq c (by omega);intro n;induction n with
 | zero=>intro v m h;omega
 | succ n ih=>
  intro v m hvn hv0 hv hm;have ek:=Du v m;have hks:=Ad m;have hnl:kn m v=none->v∉leaves:=fun h hv=>hm.leaf v hv h
  cases hkn:kn m v with
  | some b=>
   rw[hkn] at ek;refine jp (E:=env 1) tok rfl 1000 func208 rfl rfl ntmps208 (by simp) ?_;simp only[go_sem,seval,ek,k6]
   repeat' first|assumption|simp (disch:=first|assumption|omega|simp;try omega) only[];try simp only[go_sem,seval,ek,k6]|(with_reducible first|apply aa|intro)|(refine aA hfst ?_;simp only[go_sem,seval,ek,k6])|(refine io (fun _=>hfst) ?_;simp only[go_sem,seval,ek,k6])|(try rw[ae]);omega
   refine pr (r0:=.d (dB (fF c leaves x v))) (H1:=[.map (ka m)]) ?_ ⟨m,hm,rfl,rfl⟩;rw[<-hm.val v b hkn];simp only[go_sem,seval]
  | none=>
   rw[hkn] at ek;have hvl:=hnl hkn;by_cases hlow:v<c.first
   ·have hval:fF c leaves x v=false:=by rw[zd hv0 hlow,ng,if_neg hvl]
    refine jp (E:=env 1) tok rfl 1000 func208 rfl rfl ntmps208 (by simp) ?_;simp only[go_sem,seval,ek,j6]
    repeat' first|assumption|simp (disch:=first|assumption|omega|simp;try omega) only[];try simp only[go_sem,seval,ek,j6]|(with_reducible first|apply aa|intro)|(refine aA hfst ?_;simp only[go_sem,seval,ek,j6])|(refine io (fun _=>hfst) ?_;simp only[go_sem,seval,ek,j6])|(try rw[ae]);omega
    refine pr (r0:=.d (dB (fF c leaves x v))) (H1:=[.map (ka m)]) ?_ ⟨m,hm,rfl,rfl⟩;rw[hval];simp only[go_sem,seval]
   ·obtain⟨i,rfl⟩ : ∃ i:Nat,v=c.first+(i:Int):=⟨(v-c.first).toNat,by omega⟩
    have hi:i<c.gates.length:=by unfold ac.vars at hv;omega
    obtain⟨g1,g2⟩:=hc.g i hi;have hval:=Ak hc (leaves:=leaves) (x:=x) hi;rw[ng,if_neg hvl] at hval;have ei:(c.first+(i:Int)-c.first).toNat=i:=by omega
    have ea:cL c i=(c.gates.getD i (0,0)).1:=rfl;have eb:cN c i=(c.gates.getD i (0,0)).2:=rfl;rw[ea,eb] at hval;unfold bj at g1 g2;have iha:=fun m hm=>ih ((c.gates.getD i (0,0)).1/2) m (by omega) (by omega) (by unfold ac.vars;omega) hm
    have ihb:=fun m hm=>ih ((c.gates.getD i (0,0)).2/2) m (by omega) (by omega) (by unfold ac.vars;omega) hm
    have hg : ∀ z,(c.gates.map fun x=>dP x).getD i z=dP (c.gates.getD i (0,0)):=fun z=>ck _ _ _ _ _ hi
    generalize c.gates.getD i (0,0)=gg at *
    obtain⟨ga,gb⟩:=gg;simp only at hval g1 g2 iha ihb;have ha2:((ga.toNat &&& 1:Nat):Int)=ga%2:=by rw[Nat.and_one_is_mod];omega
    have hb2:((gb.toNat &&& 1:Nat):Int)=gb%2:=by rw[Nat.and_one_is_mod];omega
    have cva : ∀ {m:Kn}{T:List R}{K:I->List R->Prop},iG c leaves x m->(∀ m',iG c leaves x m'->K (.d (dB (fF c leaves x (ga/2)))) (.map (ka m')::T))->
      aQ prog 208 [.d (pC c),.d (dI (ga/2)),.map 0] (.map (ka m)::T) K:=fun {m T K} hm hk=>by
     refine iu (iha m hm) [0] (by simp only[go_sem,seval]) ?_;rintro r0 H1 ⟨m',hm',rfl,rfl⟩;have:=hk m' hm';simp only[go_sem,seval];simpa using this
    have cvb : ∀ {m:Kn}{T:List R}{K:I->List R->Prop},iG c leaves x m->(∀ m',iG c leaves x m'->K (.d (dB (fF c leaves x (gb/2)))) (.map (ka m')::T))->
      aQ prog 208 [.d (pC c),.d (dI (gb/2)),.map 0] (.map (ka m)::T) K:=fun {m T K} hm hk=>by
     refine iu (ihb m hm) [0] (by simp only[go_sem,seval]) ?_;rintro r0 H1 ⟨m',hm',rfl,rfl⟩;have:=hk m' hm';simp only[go_sem,seval];simpa using this
    refine jp (E:=env 1) tok rfl 1000 func208 rfl rfl ntmps208 (by simp) ?_;simp only[go_sem,seval,ek,j6,ei,hg]
    repeat' first|assumption|simp (disch:=first|assumption|omega|simp;try omega) only[];try simp only[go_sem,seval,ek,j6,ei,hg]|(with_reducible first|apply aa|intro)|(refine aA hfst ?_;simp only[go_sem,seval,ek,j6,ei,hg])|(refine io (fun _=>hfst) ?_;simp only[go_sem,seval,ek,j6,ei,hg])|(try rw[ae]);omega
    refine cg (n:=1) [11] (aw [0,1,2,4,5,3] (.two 6 (aw [7,8] (.two 9 (.one 10 (.one 11 .done)) 10 (.one 9 (.one 11 .done)))) 10 (.one 6 (aw [7,8] (.one 9 (.one 11 .done)))))) ?_;simp only[go_sem,seval,ek,j6,ei,hg]
    repeat' first|assumption|simp (disch:=first|assumption|omega|simp;try omega) only[];try simp only[go_sem,seval,ek,j6,ei,hg]|(with_reducible first|apply aa|intro)|(refine aA hfst ?_;simp only[go_sem,seval,ek,j6,ei,hg])|(refine io (fun _=>hfst) ?_;simp only[go_sem,seval,ek,j6,ei,hg])|(try rw[ae]);omega
    all_goals (
     refine cg (n:=1) [5,17] (aw [0,1,4,6,2,3] (.two 5 (.one 7 (aw [8,9,10,11,12,13,16,18] (.two 14 (.fst 15 (.two 17 (.one 19 (aw [20,21,22,23,24] .done)) 19 (aw [20,21] (.one 17 (aw [22,23,24] .done))))) 19 (aw [20,21] (.one 14 (.fst 15 (.one 17 (aw [22,23,24] .done)))))))) 7 (aw [8,9] (.one 5 (aw [10,11,12,13,16,18] (.two 14 (.fst 15 (.two 17 (.one 19 (aw [20,21,22,23,24] .done)) 19 (aw [20,21] (.one 17 (aw [22,23,24] .done))))) 19 (aw [20,21] (.one 14 (.fst 15 (.one 17 (aw [22,23,24] .done))))))))))) ?_;simp only[go_sem,seval,ha2,hb2]
     repeat' first|assumption|simp (disch:=first|assumption|omega|simp;try omega) only[];try simp only[go_sem,seval,ha2,hb2]|(with_reducible first|apply aa|intro)|(refine cva (by assumption) ?_;simp only[go_sem,seval,ha2,hb2])|(refine cvb (by assumption) ?_;simp only[go_sem,seval,ha2,hb2])|(refine @Exists.intro I _ (I.d (D.bool false)) ?_;simp only[go_sem,seval,ha2,hb2])|(try rw[ae]);omega)
    all_goals first
     | exact Ad _
     | exact GQ (by assumption) hval.symm
     | exact GQ (by assumption) (by rw[hval];simp_all)
end Go.Proofs
