/- Contracts, plain definitions and lemmas. Conditions: none; lemmas. -/
import Derived.Test.YteikeianenfhaaaGreatO5
import Derived.Test.YteikeianenfhaaaGreatC12
import Derived.Test.YteikeianenfhaaaGreatVM8
set_option maxRecDepth 20000
set_option linter.unusedVariables false
set_option linter.unusedSimpArgs false
set_option maxHeartbeats 2000000
set_option linter.defProp false
namespace Go.Proofs
open Go Go.VL Tryz
def bA (c:ac):Nat->du×ZA
 | 0=>(du.new (1+c.inputs.toNat+c.next.length),(List.range (ai c)).map fun(v:Nat)=>2*(v:Int))
 | i+1=>if(kA c c.gates.length).getD (ai c+i) false=true then
   (((bA c i).1.and (lmap (bA c i).2 (c.gates.getD i (0,0)).1) (lmap (bA c i).2 (c.gates.getD i (0,0)).2)).1,(bA c i).2 ++ [((bA c i).1.and (lmap (bA c i).2 (c.gates.getD i (0,0)).1) (lmap (bA c i).2 (c.gates.getD i (0,0)).2)).2])
  else((bA c i).1,(bA c i).2 ++ [0])
def HS {m:ZA}{l:Int}(h:0<=l) (hx:0<=m.getD (l/2).toNat 0):(((m.getD (l/2).toNat 0).toNat ^^^ l.toNat &&& 1:Nat):Int)=lmap m l:=by
 have k:=zm h;rcases Int.emod_two_eq l with e|e
 ·rw[e] at k;have k2:l.toNat &&& 1=0:=by omega
  rw[k2,Nat.xor_zero,lmap,if_neg (by omega)];omega
 ·rw[e] at k;have k2:l.toNat &&& 1=1:=by omega
  rw[k2,lmap,if_pos e];exact rk hx
structure Ea (c:ac) (i:Nat) (s:du×ZA):Prop where
 ok:s.1.Ok
 fst:s.1.first=ai c
 len:s.1.gates.length<=i
 ml:s.2.length=ai c+i
 mb : ∀ x∈s.2,0<=x/\x<2*((s.1.first+s.1.gates.length:Nat):Int)
def El {c:ac}(hv:c.Valid) : ∀ i,i<=c.gates.length->Ea c i (bA c i)
 | 0,_=>by
  have hfb:=hv.al;have hi0:=hv.i0;have hcf:=kw hv;have e:1+c.inputs.toNat+c.next.length=ai c:=by unfold ai;omega
  refine⟨du.yQ (by omega),by simp only[bA,du.new];exact e,by simp[bA,du.new],by simp[bA],fun x hx=>?_⟩;simp only[bA,List.mem_map,List.mem_range] at hx;obtain⟨v,h1,rfl⟩:=hx;simp only[bA,du.new,kr];omega
 | i+1,hi=>by
  obtain⟨h1,h2,h3,h4,h5⟩:=El hv i (by omega);have hfb:=hv.al;have hlg:=hv.lg;have hcf:=kw hv;have hg:=hv.g i (by omega);unfold bm at hg;rw[bA];generalize bA c i=s at *
  split
  ·have hx:=pY h5 (l:=(c.gates.getD i (0,0)).1) (by omega);have hy:=pY h5 (l:=(c.gates.getD i (0,0)).2) (by omega);obtain⟨k1,k2,k3,k4⟩:=du.yM h1 (lmap s.2 (c.gates.getD i (0,0)).1) (lmap s.2 (c.gates.getD i (0,0)).2) (by omega);have k5:=du.tO h1 hx hy;refine⟨k1,by simp only;omega,by simp only;omega,by simp;omega,fun x hx=>?_⟩;simp only at hx ⊢;rcases List.mem_append.1 hx with h|h
   ·have:=h5 x h;omega
   ·simp only[m5] at h;subst h;exact k5
  ·refine⟨h1,h2,by simp only;omega,by simp;omega,fun x hx=>?_⟩;simp only at hx ⊢;rcases List.mem_append.1 hx with h|h
   ·exact h5 x h
   ·simp only[m5] at h;subst h;have:=h1.fst;omega
def uy (c:ac):ac:=⟨c.inputs,c.next.map (lmap (bA c c.gates.length).2),(bA c c.gates.length).1.gates,c.outs.map (lmap (bA c c.gates.length).2)⟩
set_option maxHeartbeats 4000000 in
def Tryz.nY (c:ac) (hv:c.Valid) (hd:(uy c).Valid):Pure prog 95 [pC c] (dC (zJ (uy c))):=by
 refine bz func95 rfl ntmps95 fun ok=>?_
 simp only[go_sem,seval] at ok;have hfb:=hv.al;have hvb:=hv.aN;have hln:=hv.ln;have hlg:=hv.lg;have hlo:=hv.lo;have hi0:=hv.i0;have hi1:=hv.i1;have hcf:=kw hv;have hva:c.vars=c.first+c.gates.length:=rfl
 have hfg:=bi c (by omega);have hre:=lh c hv;have hol:=pr c hv;have c0:=lx c.inputs.toNat c.next.length (by omega);rw[show((c.inputs.toNat:Nat):Int)=c.inputs by omega] at c0;simp only[go_sem,seval]
 repeat' first|simp (disch:=omega) only[];try simp only[go_sem,seval]|(with_reducible first|apply aa|intro)|(refine az hre ?_;simp only[go_sem,seval])|(try rw[ae]);omega
 refine co (n:=0) [9] (ax [0,1,2,4,5,6,3,7,8] (.one 9 (.fst 10 .done))) ?_;simp only[go_sem,seval]
 repeat' first|simp (disch:=omega) only[];try simp only[go_sem,seval]|(with_reducible first|apply aa|intro)|(try rw[ae]);omega
 refine CR c0 [] (by simp only[go_sem,seval]) ?_;simp only[go_sem,seval,bN]
 repeat' first|simp (disch:=omega) only[];try simp only[go_sem,seval]|(with_reducible first|apply aa|intro)|(refine me hol ?_;simp only[go_sem,seval])|(try rw[ae]);omega
 refine cQ (σ:=Nat) (fun i=>[(0,.d (pC c)),(2,.ptr 0 0),(3,.d (cf (kA c c.gates.length))),(4,.ptr 3 0),(5,.sl 5 i 1 0 (ai c+i)),(27,.d (aY c.gates)),(28,.d (dI c.gates.length)),(29,.d (dI i))])
  (fun i=>.box [.d (dI 0),.d .nil,.d .nil,.d .nil]::(sn (bA c i).1 ++ [.row i 1 true ((bA c i).2.map (D.int .i64))])) (fun i=>i<=c.gates.length) (fun i=>c.gates.length-i) [] 1000 1000 ?_ ?_ ?_
 ·simp only[go_sem,seval]
 ·simp only[go_sem,seval,sn];refine⟨0,by omega,?_⟩;simp only[go_sem,seval,sn,bA,lL];simp
 ·intro i hi;have hrl:=Bx (c:=c) c.gates.length;have hfi:(c.first+(i:Int)).toNat=ai c+i:=by omega
  have hos:=El hv i hi;have hml:=hos.ml;simp only[go_sem,seval,sn];by_cases hlt:i<c.gates.length
  ·have hg:=hv.g i hlt;unfold bm at hg;have hx:=pY hos.mb (l:=(c.gates.getD i (0,0)).1) (by omega);have hy:=pY hos.mb (l:=(c.gates.getD i (0,0)).2) (by omega);have hand:=By (bA c i).1 hos.ok _ _ hx hy;have hst:bA c (i+1)=if(kA c c.gates.length).getD (ai c+i) false=true then
    (((bA c i).1.and (lmap (bA c i).2 (c.gates.getD i (0,0)).1) (lmap (bA c i).2 (c.gates.getD i (0,0)).2)).1,(bA c i).2 ++ [((bA c i).1.and (lmap (bA c i).2 (c.gates.getD i (0,0)).1) (lmap (bA c i).2 (c.gates.getD i (0,0)).2)).2])
    else((bA c i).1,(bA c i).2 ++ [0]):=rfl
   have hm1:0<=(bA c i).2.getD ((c.gates.getD i (0,0)).1/2).toNat 0:=(hos.mb _ (aO (by omega))).1;have hm2:0<=(bA c i).2.getD ((c.gates.getD i (0,0)).2/2).toNat 0:=(hos.mb _ (aO (by omega))).1;have hl1:=HS hg.1.1 hm1;have hl2:=HS hg.2.1 hm2
   repeat' first|simp (disch:=omega) only[];try simp only[go_sem,seval,sn,hfi]|(with_reducible first|apply aa|intro)|(refine az hfg ?_;simp only[go_sem,seval,sn,hfi])|(try rw[ae]);omega
   ·rename_i hk;rw[if_pos hk] at hst;refine co (n:=0) [21] (ax [0,1,2,7,11,12,17,3,4,5,6,8,9,10,13,14,15,16,18,19,20] (.one 21 (.fst 22 .done))) ?_;simp only[go_sem,seval,sn]
    repeat' first|simp (disch:=omega) only[];try simp only[go_sem,seval,sn,hfi]|(with_reducible first|apply aa|intro)|(try rw[ae]);omega
    all_goals (
     rw[hl1,hl2];refine CR hand [3,4,1,2] (by simp only[bH];simp only[go_sem,seval]) ?_;simp only[go_sem,seval,bH]
     repeat' first|simp (disch:=omega) only[];try simp only[go_sem,seval,bH]|(with_reducible first|apply aa|intro)|(try rw[ae]);omega)
    all_goals exact⟨i+1,by omega,by omega,⟨⟨rfl,by omega⟩,rfl⟩,by rw[hst];simp⟩
   ·rename_i hk;rw[if_neg (by rw[hk];decide)] at hst;exact⟨i+1,by omega,by omega,⟨⟨rfl,by omega⟩,rfl⟩,by rw[hst];simp⟩
  ·obtain rfl:i=c.gates.length:=by omega
   have hcir:=nI c.gates.length (bA c c.gates.length).1 hos.ok c (bA c c.gates.length).2 ⟨by omega,by omega⟩ (fun x hx=>(hos.mb x hx).1)
    (fun l hl=>by have:=hv.n l hl;unfold bm at this;rw[hml];omega) (fun l hl=>by have:=hv.o l hl;unfold bm at this;rw[hml];omega)
   rw[hml] at hcir
   repeat' first|simp (disch:=omega) only[];try simp only[go_sem,seval,sn,hfi]|(with_reducible first|apply aa|intro)|(refine az hfg ?_;simp only[go_sem,seval,sn,hfi])|(try rw[ae]);omega
   refine CR hcir [3,4,1,2,5] (by simp only[bH];simp only[go_sem,seval]) ?_;simp only[go_sem,seval,bH];have hpr:=rb (uy c) hd
   repeat' first|simp (disch:=omega) only[];try simp only[go_sem,seval,bH]|(with_reducible first|apply aa|intro)|(refine me hpr ?_;simp only[go_sem,seval,bH])|(try rw[ae]);omega
   trace_state
end Go.Proofs

namespace Go.Proofs
open Go Go.VL
def Tryz.ot (c:ac) (hd:c.Valid->(uy c).Valid):Pure prog 33 [dC c] (dC (if c.Valid then zJ (uy c) else ac.zero)):=by
 refine bz func33 rfl ntmps33 fun ok=>?_
 simp only[go_sem,seval] at ok;have hcv:=aR c;simp only[go_sem,seval];by_cases hv:c.Valid
 ·rw[decide_eq_true hv] at hcv;rw[if_pos hv];have ho:=nY c hv (hd hv)
  repeat' first|simp (disch:=omega) only[];try simp only[go_sem,seval]|(with_reducible first|apply aa|intro)|(refine az hcv ?_;simp only[go_sem,seval])|(refine me ho ?_;simp only[go_sem,seval])|(try rw[ae]);omega
 ·rw[decide_eq_false hv] at hcv;rw[if_neg hv]
  repeat' first|simp (disch:=omega) only[];try simp only[go_sem,seval]|(with_reducible first|apply aa|intro)|(refine az hcv ?_;simp only[go_sem,seval])|(try rw[ae]);omega
  all_goals (simp[ac.zero])
end Go.Proofs

namespace Go.Proofs
open Go Go.VL
variable {c:ac}
def Ku {c:ac}(hv:c.Valid) (hu : ∀ j,j<c.gates.length->((kA c c.gates.length).getD (ai c+j) false=true↔(aL c c.gates.length).getD j false=true)) :
  ∀ i,i<=c.gates.length->(bA c i).1.gates=(aB c (aL c c.gates.length) true i).gates/\(bA c i).2=(aB c (aL c c.gates.length) true i).m
 | 0,_=>by
  constructor
  ·simp[bA,du.new,aB]
  ·simp only[bA,aB]
 | i+1,hi=>by
  obtain⟨h1,h2⟩:=Ku hv hu i (by omega);have hf:=(El hv i (by omega)).fst;rw[bA,aB];by_cases hk:(aL c c.gates.length).getD i false=true
  ·rw[if_pos ((hu i (by omega)).2 hk),EM hk];simp only[du.and];rw[hf,h1,h2];exact⟨rfl,rfl⟩
  ·rw[if_neg (fun h=>hk ((hu i (by omega)).1 h)),AR (by simpa using hk)];exact⟨h1,by rw[h2]⟩
def SH (hv:c.Valid) (hu : ∀ j,j<c.gates.length->((kA c c.gates.length).getD (ai c+j) false=true↔(aL c c.gates.length).getD j false=true)):uy c=built c true:=by
 obtain⟨h1,h2⟩:=Ku hv hu c.gates.length (aD _);unfold uy built g0;rw[h1,h2]
def Ic {l:ZA}{p:Int->Prop}:(∃ i,i<l.length/\p (l.getD i 0))↔∃ x∈l,p x:=by
 constructor
 ·rintro⟨i,h1,h2⟩;exact⟨_,aO h1,h2⟩
 ·rintro⟨x,hx,h⟩;obtain⟨i,hi,rfl⟩:=gm 0 hx;exact⟨i,hi,h⟩
def Cw {c:ac}(hv:c.Valid) : ∀ k,k<=c.gates.length->∀ j,j<c.gates.length->((kA c k).getD (ai c+j) false=true↔(aL c k).getD j false=true)
 | 0,_,j,hj=>by
  have hfb:=hv.al;have hcf:=kw hv;have hnn : ∀ x∈c.outs++c.next,0<=x:=fun x hx=>by
   rcases List.mem_append.1 hx with h|h
   ·exact(hv.o x h).1
   ·exact(hv.n x h).1
  have hro : ∀ x,x∈c.roots↔x∈c.outs++c.next:=fun x=>by unfold ac.roots;simp[or_comm]
  rw[kA,JN (by simp;omega),aL,FS (by simp;omega)];have e1:(List.replicate (ai c+c.gates.length) false).getD (ai c+j) false=false:=by rw[List.getD_eq_getElem?_getD,List.getElem?_replicate];split <;> rfl
  have e2:(List.replicate c.gates.length false).getD j false=false:=by rw[List.getD_eq_getElem?_getD,List.getElem?_replicate];split <;> rfl
  rw[e1,e2,Ic (p:=fun x=>(x/2).toNat=ai c+j),Ic (p:=fun x=>x/2=c.first+(j:Int))];simp only[eE,false_or];constructor
  ·rintro⟨x,hx,h⟩;have:=hnn x ((hro x).1 hx);exact⟨x,(hro x).1 hx,by omega⟩
  ·rintro⟨x,hx,h⟩;have:=hnn x hx;exact⟨x,(hro x).2 hx,by omega⟩
 | k+1,hk,j,hj=>by
  have ih:=Cw hv k (by omega);have hcf:=kw hv;have hfb:=hv.al;have hl:=Bx (c:=c) k;have hl2:=wj (c:=c) k;have hg:=hv.g (c.gates.length-1-k) (by omega);unfold bm at hg;rw[kA,aL,Bp (by omega),xe];have ihk:=ih (c.gates.length-1-k) (by omega);by_cases hm:(aL c k).getD (c.gates.length-1-k) false=true
  ·rw[if_pos (ihk.2 hm)];by_cases e2:((c.gates.getD (c.gates.length-1-k) (0,0)).2/2).toNat=ai c+j
   ·rw[e2,eO (by rw[gh];omega)];exact⟨fun _=>.inr ⟨hm,.inr (by omega)⟩,fun _=>rfl⟩
   ·rw[po e2];by_cases e1:((c.gates.getD (c.gates.length-1-k) (0,0)).1/2).toNat=ai c+j
    ·rw[e1,eO (by omega)];exact⟨fun _=>.inr ⟨hm,.inl (by omega)⟩,fun _=>rfl⟩
    ·rw[po e1,ih j hj];constructor
     ·exact fun h=>.inl h
     ·rintro(h|⟨_,h|h⟩)
      ·exact h
      ·omega
      ·omega
  ·rw[if_neg (fun h=>hm (ihk.1 h)),ih j hj];constructor
   ·exact fun h=>.inl h
   ·rintro(h|⟨h,_⟩)
    ·exact h
    ·exact absurd h hm
def F9 (hv:c.Valid):uy c=built c true:=SH hv (Cw hv c.gates.length (aD _))
end Go.Proofs

namespace Go.Proofs
open Go Go.VL
variable {c:ac}{k:Nat}
def MB {c:ac}(hf:c.first=(ai c:Int)) : ∀ i,i<=ai c->(eH c i).2=c.first/\∀ v,v<i->(eH c i).1.getD v 0=(v:Int)
 | 0,_=>⟨rfl,fun v h=>by omega⟩
 | i+1,hi=>by
  obtain⟨h1,h2⟩:=MB hf i (by omega);have hl:=ym (c:=c) i;rw[eH,if_pos (by omega)];refine⟨h1,fun v h=>?_⟩;simp only;by_cases e:i=v
  ·subst e;rw[eO (by omega)]
  ·rw[po e];exact h2 v (by omega)
def H4 {c:ac}{j v:Nat}(h:v<j) : ∀ e,(eH c (j+e)).1.getD v 0=(eH c j).1.getD v 0
 | 0=>rfl
 | e+1=>by
  have ih:=H4 (c:=c) h e;rw[<-ja,eH];split
  ·simp only;rw[po (by omega)];exact ih
  ·split
   ·simp only;rw[po (by omega)];exact ih
   ·exact ih
def HB {c:ac}(hv:c.Valid) : ∀ k,k<=c.gates.length->(eH c (ai c+k)).2=c.first+((aB c (aL c c.gates.length) false k).gates.length:Int)/\∀ v,v<ai c+k->fJ c (aL c c.gates.length) v->(aB c (aL c c.gates.length) false k).m.getD v 0=2*(eH c (ai c+k)).1.getD v 0
 | 0,_=>by
  have hf:=kw hv;obtain⟨h1,h2⟩:=MB hf (ai c) (aD _);refine⟨by rw[lL,h1];simp[aB],fun v h _=>?_⟩;rw[lL,h2 v h];exact(zw hv (u:=aL c c.gates.length) 0 (by omega)).pre v h
 | k+1,hk=>by
  obtain⟨h1,h2⟩:=HB hv k (by omega);have hf:=kw hv;have hl:=ym (c:=c) (ai c+k);have hrc:=Cw hv c.gates.length (aD _) k (by omega);have hml:=(sN hv (aL c c.gates.length) false k (by omega)).ml;rw[<-ja,eH,if_neg (by omega),aB];generalize hs:aB c (aL c c.gates.length) false k=s at *
  cases hu:(aL c c.gates.length).getD k false with
  | false=>
   rw[if_neg (fun h=>by have:=hrc.1 h;rw[hu] at this;cases this),AR hu];refine⟨h1,fun v h hg=>?_⟩;have hne:v≠ai c+k:=by
    rintro rfl;rcases hg with h3|h3
    ·omega
    ·rw[wg,hu] at h3;cases h3
   simp only;rw[cW (by omega)];exact h2 v (by omega) hg
  | true=>
   rw[if_pos (hrc.2 hu),Aw hu];refine⟨by simp only[b8,nn];omega,fun v h hg=>?_⟩;simp only;by_cases e:v=ai c+k
   ·subst e;rw[eO (by omega),h1];have e:=qA (l:=s.m) (x:=2*((ai c:Int)+(s.gates.length:Int))) (z:=0);rw[hml] at e;rw[e];omega
   ·rw[cW (by omega),po (by omega)];exact h2 v (by omega) hg
def xz (hv:c.Valid) {v:Nat}(hk:k<=c.gates.length) (h:v<ai c+k) (hg:fJ c (aL c c.gates.length) v):(aB c (aL c c.gates.length) false k).m.getD v 0=2*(tx c).getD v 0:=by
 rw[(HB hv k hk).2 v h hg,tx,show ai c+c.gates.length=ai c+k+(c.gates.length-k) by omega,H4 h]
def Eu (hv:c.Valid) {l:Int}(hk:k<=c.gates.length) (h:(l/2).toNat<ai c+k) (hg:fJ c (aL c c.gates.length) (l/2).toNat):iV c l=lmap (aB c (aL c c.gates.length) false k).m l:=by
 have e:=xz hv hk h hg;rw[wx (by rw[e];omega),e,iV]
def H7 {c:ac}(hv:c.Valid) : ∀ k,k<=c.gates.length->k6 c k=(aB c (aL c c.gates.length) false k).gates
 | 0,_=>rfl
 | k+1,hk=>by
  have ih:=H7 hv k (by omega);have hrc:=Cw hv c.gates.length (aD _) k (by omega);have hf:=kw hv;have hg:=hv.g k (by omega);unfold bm at hg;rw[k6,aB];cases hu:(aL c c.gates.length).getD k false with
  | false=>
   rw[if_neg (fun h=>by have:=hrc.1 h;rw[hu] at this;cases this),AR hu];exact ih
  | true=>
   obtain⟨c1,c2⟩:=Da hv k (by omega) hu;rw[if_pos (hrc.2 hu),Aw hu,ih,Eu hv (k:=k) (by omega) (by omega) c1,Eu hv (k:=k) (by omega) (by omega) c2]
def xk (hv:c.Valid):zJ c=built c false:=by
 have key : ∀ l,l∈c.outs++c.next->iV c l=lmap (g0 c false).m l:=fun l hl=>by
  obtain⟨h1,h2⟩:=IH hv hl;have hf:=kw hv;unfold ac.vars at h1;exact Eu hv (aD _) (by omega) h2
 unfold zJ built;rw[H7 hv _ (aD _),sH (fun l hl=>key l (List.mem_append_right _ hl)),sH (fun l hl=>key l (np _ hl))];rfl
def xy (hv:c.Valid):zJ (uy c)=bL c:=by
 rw[xk (by rw[F9 hv];exact sx hv),F9 hv];rfl
def Tryz.vD (c:ac):Pure prog 33 [dC c] (dC (if c.Valid then bL c else ac.zero)):=by
 have h:=ot c (fun hv=>by rw[F9 hv];exact sx hv);by_cases hv:c.Valid
 ·rw[if_pos hv,<-xy hv];rwa [if_pos hv] at h
 ·rw[if_neg hv];rwa [if_neg hv] at h
end Go.Proofs

namespace Go.VL
variable {i:Nat}{x:Int}{a b cut:ZA}{l p q:List ZA}{P:ZA->Prop}{c:ac}
def iH {α β : Type}{f : β->α->β}{b : β}{l:List α}(z : α) (h:i<l.length):(l.take (i+1)).foldl f b=f ((l.take i).foldl f b) (l.getD i z):=by
 rw[la h,ng];simp[List.getD,h]
def cG:ZA->ZA->ZA
 | [],b=>b
 | x::a,[]=>x::a
 | x::a,y::b=>if x<y then x::cG a (y::b) else if y<x then y::cG (x::a) b else x::cG a b
termination_by a b=>a.length+b.length
def yV (b:ZA):cG [] b=b:=by rw[cG]
def AO (a:ZA):cG a []=a:=by cases a <;> rw[cG]
def C2 {y:Int}(h:x<y):cG (x::a) (y::b)=x::cG a (y::b):=by rw[cG,if_pos h]
def Di {y:Int}(h:y<x):cG (x::a) (y::b)=y::cG (x::a) b:=by rw[cG,if_neg (by omega),if_pos h]
def Cq:cG (x::a) (x::b)=x::cG a b:=by rw[cG,if_neg (by omega),if_neg (by omega)]
def pQ {z:Int} : ∀ (a b:ZA),z∈cG a b↔z∈a∨z∈b
 | [],b=>by rw[yV];simp
 | x::a,[]=>by rw[AO];simp
 | x::a,y::b=>by
  have i1:=pQ (z:=z) a (y::b);have i2:=pQ (z:=z) (x::a) b;have i3:=pQ (z:=z) a b;rcases Int.lt_trichotomy x y with h|h|h
  ·rw[C2 h,jY,i1];simp only[jY,or_assoc]
  ·subst h;rw[Cq,jY,i3];simp only[jY];constructor
   ·rintro(h|h|h) <;> simp[h]
   ·rintro((h|h)|h|h) <;> simp[h]
  ·rw[Di h,jY,i2];simp only[jY];constructor
   ·rintro(h|(h|h)|h) <;> simp[h]
   ·rintro((h|h)|h|h) <;> simp[h]
termination_by a b=>a.length+b.length
def iq (l:ZA):Prop:=l.Pairwise (· < ·)
def zX : ∀ {a b:ZA},iq a->iq b->iq (cG a b)
 | [],b,_,hb=>by rw[yV];exact hb
 | x::a,[],ha,_=>by rw[AO];exact ha
 | x::a,y::b,ha,hb=>by
  obtain⟨ha1,ha2⟩:=List.pairwise_cons.1 ha;obtain⟨hb1,hb2⟩:=List.pairwise_cons.1 hb;rcases Int.lt_trichotomy x y with h|h|h
  ·rw[C2 h];refine List.pairwise_cons.2 ⟨fun z hz=>?_,zX ha2 hb⟩;rcases(pQ _ _).1 hz with h1|h1
   ·exact ha1 z h1
   ·rcases List.mem_cons.1 h1 with rfl|h2
    ·exact h
    ·have:=hb1 z h2;omega
  ·subst h;rw[Cq];refine List.pairwise_cons.2 ⟨fun z hz=>?_,zX ha2 hb2⟩;rcases(pQ _ _).1 hz with h1|h1
   ·exact ha1 z h1
   ·exact hb1 z h1
  ·rw[Di h];refine List.pairwise_cons.2 ⟨fun z hz=>?_,zX ha hb2⟩;rcases(pQ _ _).1 hz with h1|h1
   ·rcases List.mem_cons.1 h1 with rfl|h2
    ·exact h
    ·have:=ha1 z h2;omega
   ·exact hb1 z h1
termination_by a b=>a.length+b.length
def KY : ∀ {a b:ZA},iq a->iq b->(∀ z,z∈a↔z∈b)->a=b
 | [],[],_,_,_=>rfl
 | [],y::b,_,_,h=>by have:=(h y).2 (by simp);simp at this
 | x::a,[],_,_,h=>by have:=(h x).1 (by simp);simp at this
 | x::a,y::b,ha,hb,h=>by
  obtain⟨ha1,ha2⟩:=List.pairwise_cons.1 ha;obtain⟨hb1,hb2⟩:=List.pairwise_cons.1 hb;have hxy:x=y:=by
   rcases List.mem_cons.1 ((h x).1 (by simp)) with h1|h1
   ·exact h1
   ·rcases List.mem_cons.1 ((h y).2 (by simp)) with h2|h2
    ·exact h2.symm
    ·have:=hb1 x h1;have:=ha1 y h2;omega
  subst hxy;congr 1;refine KY ha2 hb2 fun z=>⟨fun hz=>?_,fun hz=>?_⟩
  ·have hlt:=ha1 z hz;rcases List.mem_cons.1 ((h z).1 (by simp[hz])) with h1|h1
   ·omega
   ·exact h1
  ·have hlt:=hb1 z hz;rcases List.mem_cons.1 ((h z).2 (by simp[hz])) with h1|h1
   ·omega
   ·exact h1
def Be : ∀ (a b:ZA),(cG a b).length<=a.length+b.length
 | [],b=>by rw[yV];simp
 | x::a,[]=>by rw[AO];simp
 | x::a,y::b=>by
  have i1:=Be a (y::b);have i2:=Be (x::a) b;have i3:=Be a b;rcases Int.lt_trichotomy x y with h|h|h
  ·rw[C2 h];simp only[eD] at *;omega
  ·subst h;rw[Cq];simp only[eD] at *;omega
  ·rw[Di h];simp only[eD] at *;omega
termination_by a b=>a.length+b.length
def gK (l:List ZA) (cut:ZA):List ZA:=if cut.length<=3/\l.length<8/\cut∉l then l ++ [cut] else l
def bp (x:ZA) (q:List ZA) (l:List ZA):List ZA:=q.foldl (fun l y=>gK l (cG x y)) l
def nq (p q:List ZA):List ZA:=p.foldl (fun l x=>bp x q l) []
def cV (c:ac) (i:Nat):Int:=(c.gates.getD i (0,0)).1
def cU (c:ac) (i:Nat):Int:=(c.gates.getD i (0,0)).2
def bC (c:ac):Nat->List (List ZA)
 | 0=>[[]]::(List.range (c.first.toNat-1)).map fun(v:Nat)=>[[(v:Int)+1]]
 | i+1=>bC c i ++ [nq ((bC c i).getD (cV c i/2).toNat []) ((bC c i).getD (cU c i/2).toNat []) ++ [[c.first+(i:Int)]]]
def iF (c:ac):List (List ZA):=bC c c.gates.length
def lS {c:ac}(h:1<=c.first) : ∀ i,(bC c i).length=c.first.toNat+i
 | 0=>by simp[bC];omega
 | i+1=>by rw[bC,b8,lS h i];simp;omega
def tQ (h:l.length<=8):(gK l cut).length<=8:=by
 unfold gK;split
 ·rename_i h2;simp;omega
 ·exact h
def zW {x:ZA} : ∀ {q l:List ZA},l.length<=8->(bp x q l).length<=8
 | [],l,h=>h
 | y::q,l,h=>zW (q:=q) (tQ h)
def EY (p q:List ZA):(nq p q).length<=8:=by
 have : ∀ (p l:List ZA),l.length<=8->(p.foldl (fun l x=>bp x q l) l).length<=8:=by
  intro p;induction p with
  | nil=>exact fun l h=>h
  | cons x p ih=>exact fun l h=>ih _ (zW h)
 exact this p [] (by simp)
def OM (h : ∀ x∈l,P x) (hc:cut.length<=3->P cut) : ∀ x∈gK l cut,P x:=by
 unfold gK;split
 ·rename_i h2;intro x hx;rcases List.mem_append.1 hx with h1|h1
  ·exact h x h1
  ·obtain rfl:x=cut:=by simpa using h1
   exact hc h2.1
 ·exact h
def Jh {P:ZA->Prop}{x:ZA} : ∀ {q l:List ZA},(∀ z∈l,P z)->(∀ y∈q,(cG x y).length<=3->P (cG x y))->∀ z∈bp x q l,P z
 | [],l,h,_=>h
 | y::q,l,h,hq=>Jh (q:=q) (OM h (hq y (by simp))) fun z hz=>hq z (by simp[hz])
def AM (h : ∀ x∈p,∀ y∈q,(cG x y).length<=3->P (cG x y)) : ∀ z∈nq p q,P z:=by
 have : ∀ (p l:List ZA),(∀ z∈l,P z)->(∀ x∈p,∀ y∈q,(cG x y).length<=3->P (cG x y))->∀ z∈p.foldl (fun l x=>bp x q l) l,P z:=by
  intro p;induction p with
  | nil=>exact fun l h _=>h
  | cons x p ih=>exact fun l h hp=>ih _ (Jh h (hp x (by simp))) fun z hz=>hp z (by simp[hz])
 exact this p [] (by simp) h
def Pi:l.length<=(gK l cut).length:=by
 unfold gK;split <;> simp
def ES {x:ZA} : ∀ {q l:List ZA},l.length<=(bp x q l).length
 | [],l=>aD _
 | y::q,l=>g6 Pi (ES (q:=q))
def PP (h:cut.length<=3):0<(gK l cut).length:=by
 unfold gK;split
 ·simp
 ·rename_i h2;cases l with
  | nil=>exact absurd ⟨h,by simp,by simp⟩ h2
  | cons x r=>simp
def IZ {x y:ZA}(h:(cG x y).length<=3) : ∀ {q l:List ZA},y∈q->0<(bp x q l).length
 | [],l,hy=>by simp at hy
 | z::q,l,hy=>by
  rcases List.mem_cons.1 hy with rfl|h1
  ·exact iA (PP (l:=l) h) (ES (q:=q))
  ·exact IZ h (q:=q) h1
def Ps {x y:ZA}(hx:x∈p) (hy:y∈q) (h:(cG x y).length<=3):0<(nq p q).length:=by
 have mono : ∀ (p l:List ZA),l.length<=(p.foldl (fun l x=>bp x q l) l).length:=by
  intro p;induction p with
  | nil=>exact fun l=>aD _
  | cons x p ih=>exact fun l=>g6 (ES (q:=q)) (ih _)
 have : ∀ (p l:List ZA),x∈p->0<(p.foldl (fun l x=>bp x q l) l).length:=by
  intro p;induction p with
  | nil=>exact fun l h=>by simp at h
  | cons z p ih=>
   intro l hz;rcases List.mem_cons.1 hz with rfl|h1
   ·exact iA (IZ h (l:=l) hy) (mono p _)
   ·exact ih _ h1
 exact this p [] hx
structure wa (c:ac) (v:Int) (cut:ZA):Prop where
 iq:iq cut
 len:cut.length<=3
 rng : ∀ z∈cut,1<=z/\z<=v
def qv (hc:c.Valid) : ∀ i,i<=c.gates.length->∀ v,v<(bC c i).length->(∀ cut∈(bC c i).getD v [],wa c (v:Int) cut)/\(bC c i).getD v []≠[]/\(∃ s∈(bC c i).getD v [],s.length<=1)/\((bC c i).getD v []).length<=9:=by
 have hf:=hc.al;intro i;induction i with
 | zero=>
  intro _ v hv;rw[lS hf.1] at hv;cases v with
  | zero=>
   have e:(bC c 0).getD 0 []=[[]]:=rfl;rw[e];refine⟨fun cut h=>?_,by simp,⟨[],by simp,by simp⟩,by simp⟩;obtain rfl:cut=[]:=by simpa using h
   exact⟨List.Pairwise.nil,by simp,by simp⟩
  | succ v=>
   have e:(bC c 0).getD (v+1) []=[[(v:Int)+1]]:=by
    simp[bC,List.getD,show v<c.first.toNat-1 by omega]
   rw[e];refine⟨fun cut h=>?_,by simp,⟨[(v:Int)+1],by simp,by simp⟩,by simp⟩;obtain rfl:cut=[(v:Int)+1]:=by simpa using h
   exact⟨by simp[iq],by simp,fun z hz=>by
    obtain rfl:z=(v:Int)+1:=by simpa using hz
    omega⟩
 | succ i ih=>
  intro hi v hv;have hl:=lS (c:=c) hf.1 i;rw[lS hf.1] at hv;by_cases h:v<c.first.toNat+i
  ·have e:(bC c (i+1)).getD v []=(bC c i).getD v []:=by rw[bC];exact cW (by omega)
   rw[e];exact ih (by omega) v (by omega)
  ·have hv2:v=(bC c i).length:=by omega
   have e:(bC c (i+1)).getD v []=nq ((bC c i).getD (cV c i/2).toNat []) ((bC c i).getD (cU c i/2).toNat []) ++ [[c.first+(i:Int)]]:=by
    rw[bC,hv2];simp[List.getD]
   obtain⟨g1,g2⟩:=hc.g i (by omega);have ha:(cV c i/2).toNat<c.first.toNat+i:=by unfold cV;unfold bm at g1;omega
   have hb:(cU c i/2).toNat<c.first.toNat+i:=by unfold cU;unfold bm at g2;omega
   obtain⟨a1,a2,⟨sa,a3,a4⟩,a5⟩:=ih (by omega) _ (by rw[hl];exact ha);obtain⟨b1,b2,⟨sb,b3,b4⟩,b5⟩:=ih (by omega) _ (by rw[hl];exact hb);rw[e];have hj:=EY ((bC c i).getD (cV c i/2).toNat []) ((bC c i).getD (cU c i/2).toNat []);refine⟨fun cut h=>?_,by simp,⟨[c.first+(i:Int)],by simp,by simp⟩,by rw[b8,nn];omega⟩;rcases List.mem_append.1 h with h1|h1
   ·refine AM (P:=fun cut=>wa c (v:Int) cut) (fun x hx y hy hle=>?_) cut h1;have hx':=a1 x hx;have hy':=b1 y hy;refine⟨zX hx'.iq hy'.iq,hle,fun z hz=>?_⟩;rcases(pQ _ _).1 hz with h2|h2
    ·have:=hx'.rng z h2;omega
    ·have:=hy'.rng z h2;omega
   ·obtain rfl:cut=[c.first+(i:Int)]:=by simpa using h1
    exact⟨by simp[iq],by simp,fun z hz=>by
     obtain rfl:z=c.first+(i:Int):=by simpa using hz
     omega⟩
def wE (hf:1<=c.first) {n:Nat}(h:i<n):(bC c n).getD (c.first.toNat+i) []=nq ((bC c i).getD (cV c i/2).toNat []) ((bC c i).getD (cU c i/2).toNat []) ++ [[c.first+(i:Int)]]:=by
 induction n with
 | zero=>omega
 | succ n ih=>
  have hl:=lS (c:=c) hf n;by_cases hin:i<n
  ·rw[bC,cW (by omega)];exact ih hin
  ·obtain rfl:i=n:=by omega
   rw[bC,<-hl];simp[List.getD]
def Gf (hc:c.Valid) (h:i<c.gates.length):0<(nq ((bC c i).getD (cV c i/2).toNat []) ((bC c i).getD (cU c i/2).toNat [])).length:=by
 have hf:=hc.al;have hl:=lS (c:=c) hf.1 i;obtain⟨g1,g2⟩:=hc.g i h;have ha:(cV c i/2).toNat<c.first.toNat+i:=by unfold cV;unfold bm at g1;omega
 have hb:(cU c i/2).toNat<c.first.toNat+i:=by unfold cU;unfold bm at g2;omega
 obtain⟨a1,a2,⟨sa,a3,a4⟩,a5⟩:=qv hc i (by omega) _ (by rw[hl];exact ha);obtain⟨b1,b2,⟨sb,b3,b4⟩,b5⟩:=qv hc i (by omega) _ (by rw[hl];exact hb);exact Ps a3 b3 (by have:=Be sa sb;omega)
end Go.VL

namespace Go.VL
variable {arr leaves:ZA}{l:List ZA}{c:ac}{cuts:List (List ZA)}{i n v x:Nat}
def mc (arr:ZA) (cut:ZA):Int:=cut.foldl (fun t v=>max t (arr.getD v.toNat 0)) 0
def kU (arr:ZA) (x b:ZA):Prop:=mc arr x<mc arr b∨(mc arr x=mc arr b/\x.length<b.length)
instance (arr:ZA) (x b:ZA):Decidable (kU arr x b):=by unfold kU;infer_instance
def gU (arr:ZA):List ZA->ZA
 | []=>[]
 | x::r=>r.foldl (fun b y=>if kU arr y b then y else b) x
def LG {y:ZA}(h:0<l.length):gU arr (l ++ [y])=if kU arr y (gU arr l) then y else gU arr l:=by
 cases l with
 | nil=>simp at h
 | cons x r=>
  have e : ∀ s,gU arr (x::s)=s.foldl (fun b y=>if kU arr y b then y else b) x:=fun s=>rfl
  show gU arr (x::(r ++ [y]))=_
  rw[e (r ++ [y]),ng];rfl
def Gd (h:0<l.length):gU arr l∈l:=by
 cases l with
 | nil=>simp at h
 | cons x r=>
  have : ∀ (r:List ZA) (b:ZA),r.foldl (fun b y=>if kU arr y b then y else b) b=b∨r.foldl (fun b y=>if kU arr y b then y else b) b∈r:=by
   intro r;induction r with
   | nil=>exact fun b=>.inl rfl
   | cons y r ih=>
    intro b;simp only[e6];rcases ih (if kU arr y b then y else b) with h1|h1
    ·rw[h1];split
     ·exact .inr (by simp)
     ·exact .inl rfl
    ·exact .inr (by simp[h1])
  rcases this r x with h1|h1
  ·rw[gU,h1];simp
  ·rw[gU];simp[h1]
def cc (c:ac) (cuts:List (List ZA)):Nat->List ZA×ZA
 | 0=>(List.replicate c.first.toNat [],List.replicate c.first.toNat 0)
 | i+1=>
  (
   (cc c cuts i).1 ++ [gU (cc c cuts i).2 (cuts.getD (c.first.toNat+i) []).dropLast],
   (cc c cuts i).2 ++ [1+mc (cc c cuts i).2 (gU (cc c cuts i).2 (cuts.getD (c.first.toNat+i) []).dropLast)])
def wZ (c:ac) (cuts:List (List ZA)) : ∀ i,(cc c cuts i).1.length=c.first.toNat+i/\(cc c cuts i).2.length=c.first.toNat+i
 | 0=>by simp[cc]
 | i+1=>by
  have:=wZ c cuts i;simp only[cc,b8,nn];omega
def AS {cut:ZA}{m:Int}(h : ∀ z∈cut,arr.getD z.toNat 0<=m) (hm:0<=m):0<=mc arr cut/\mc arr cut<=m:=by
 have : ∀ (cut:ZA) (t:Int),(∀ z∈cut,arr.getD z.toNat 0<=m)->0<=t->t<=m->0<=cut.foldl (fun t v=>max t (arr.getD v.toNat 0)) t/\cut.foldl (fun t v=>max t (arr.getD v.toNat 0)) t<=m:=by
  intro cut;induction cut with
  | nil=>exact fun t _ h1 h2=>⟨h1,h2⟩
  | cons x r ih=>
   intro t h h1 h2;have hx:=h x (by simp);exact ih (max t (arr.getD x.toNat 0)) (fun z hz=>h z (by simp[hz])) (by omega) (by omega)
 exact this cut 0 h (Int.le_refl 0) hm
def GP (c:ac) (cuts:List (List ZA)) : ∀ i j,0<=(cc c cuts i).2.getD j 0/\(cc c cuts i).2.getD j 0<=i
 | 0,j=>by
  by_cases h:j<c.first.toNat
  ·simp[cc,List.getD,h]
  ·simp[cc,List.getD,h]
 | i+1,j=>by
  have ih:=GP c cuts i;have hl:=(wZ c cuts i).2;by_cases h:j<(cc c cuts i).2.length
  ·have e:(cc c cuts (i+1)).2.getD j 0=(cc c cuts i).2.getD j 0:=by simp only[cc];exact cW h
   have:=ih j;rw[e];omega
  ·have ha:=AS (arr:=(cc c cuts i).2) (cut:=gU (cc c cuts i).2 (cuts.getD (c.first.toNat+i) []).dropLast) (m:=i) (fun z _=>(ih z.toNat).2) (by omega);by_cases h2:j=(cc c cuts i).2.length
   ·have e:(cc c cuts (i+1)).2.getD j 0=1+mc (cc c cuts i).2 (gU (cc c cuts i).2 (cuts.getD (c.first.toNat+i) []).dropLast):=by
     simp only[cc,h2];simp[List.getD]
    rw[e];omega
   ·have e:(cc c cuts (i+1)).2.getD j 0=0:=by
     rw[List.getD_eq_getElem?_getD,List.getElem?_eq_none (by simp only[cc,b8,nn];omega)];rfl
    rw[e];omega
noncomputable def cY (c:ac):List ZA:=(cc c (iF c) c.gates.length).1
noncomputable def tZ (c:ac):ZA:=(cc c (iF c) c.gates.length).2
def Ou (h:i<=n) (hv:v<c.first.toNat+i) :
  (cc c cuts n).1.getD v []=(cc c cuts i).1.getD v []/\(cc c cuts n).2.getD v 0=(cc c cuts i).2.getD v 0:=by
 induction n with
 | zero=>
      obtain rfl:i=0:=by omega
      exact⟨rfl,rfl⟩
 | succ n ih=>
  have hl:=wZ c cuts n;by_cases hin:i<=n
  ·have:=ih hin;simp only[cc];rw[cW (by omega),cW (by omega)];exact this
  ·obtain rfl:i=n+1:=by omega
   exact⟨rfl,rfl⟩
def OC (h:i<n) :
  (cc c cuts n).1.getD (c.first.toNat+i) []=gU (cc c cuts i).2 (cuts.getD (c.first.toNat+i) []).dropLast/\
  (cc c cuts n).2.getD (c.first.toNat+i) 0=1+mc (cc c cuts i).2 (gU (cc c cuts i).2 (cuts.getD (c.first.toNat+i) []).dropLast):=by
 have hl:=wZ c cuts i;have:=Ou (c:=c) (cuts:=cuts) (i:=i+1) (n:=n) (by omega) (v:=c.first.toNat+i) (by omega);rw[this.1,this.2];simp only[cc];constructor
 ·have e:c.first.toNat+i=(cc c cuts i).1.length:=by omega
  rw[e];simp[List.getD]
 ·have e:c.first.toNat+i=(cc c cuts i).2.length:=by omega
  rw[e];simp[List.getD]
def IG (hc:c.Valid) (h:i<c.gates.length):(cY c).getD (c.first.toNat+i) []∈nq ((bC c i).getD (cV c i/2).toNat []) ((bC c i).getD (cU c i/2).toNat []):=by
 have hf:=hc.al;have e:((iF c).getD (c.first.toNat+i) []).dropLast=nq ((bC c i).getD (cV c i/2).toNat []) ((bC c i).getD (cU c i/2).toNat []):=by
  rw[iF,wE hf.1 h,List.dropLast_concat]
 rw[cY,(OC h).1,e];exact Gd (Gf hc h)
def ri (hc:c.Valid) (h:i<c.gates.length):iq ((cY c).getD (c.first.toNat+i) [])/\((cY c).getD (c.first.toNat+i) []).length<=3/\∀ z∈(cY c).getD (c.first.toNat+i) [],1<=z/\z<c.first+i:=by
 have hf:=hc.al;have hl:=lS (c:=c) hf.1 i;obtain⟨g1,g2⟩:=hc.g i h;have ha:(cV c i/2).toNat<c.first.toNat+i:=by unfold cV;unfold bm at g1;omega
 have hb:(cU c i/2).toNat<c.first.toNat+i:=by unfold cU;unfold bm at g2;omega
 obtain⟨a1,-⟩:=qv hc i (by omega) _ (by rw[hl];exact ha);obtain⟨b1,-⟩:=qv hc i (by omega) _ (by rw[hl];exact hb);have:=AM (P:=fun cut=>iq cut/\cut.length<=3/\∀ z∈cut,1<=z/\z<c.first+i) (fun x hx y hy hle=>by
  have hx':=a1 x hx;have hy':=b1 y hy;refine⟨zX hx'.iq hy'.iq,hle,fun z hz=>?_⟩;rcases(pQ _ _).1 hz with h2|h2
  ·have:=hx'.rng z h2;omega
  ·have:=hy'.rng z h2;omega) _ (IG hc h)
 exact this
def Lv (c:ac):(cY c).length=c.first.toNat+c.gates.length:=(wZ c _ _).1
def n9 (leaves:ZA) (x:Nat) (v:Int) (d:Bool):Bool:=if v∈leaves then x.testBit (leaves.idxOf v) else d
def no (c:ac) (leaves:ZA) (x:Nat):Nat->ZB
 | 0=>(List.range c.first.toNat).map fun(v:Nat)=>n9 leaves x (v:Int) false
 | i+1=>no c leaves x i ++ [n9 leaves x (c.first+(i:Int)) (aW (no c leaves x i) (cV c i)&&aW (no c leaves x i) (cU c i))]
def Eb (c:ac) (leaves:ZA) (x:Nat) : ∀ i,(no c leaves x i).length=c.first.toNat+i
 | 0=>by simp[no]
 | i+1=>by rw[no,b8,Eb c leaves x i];simp;omega
def gA (c:ac) (leaves:ZA) (x:Nat) (v:Int):Bool:=(no c leaves x c.gates.length).getD v.toNat false
def E2 (h:i<=n) (hv:v<c.first.toNat+i):(no c leaves x n).getD v false=(no c leaves x i).getD v false:=by
 induction n with
 | zero=>
      obtain rfl:i=0:=by omega
      rfl
 | succ n ih=>
  have hl:=Eb c leaves x n;by_cases hin:i<=n
  ·rw[no,cW (by omega)];exact ih hin
  ·obtain rfl:i=n+1:=by omega
   rfl
def BT {v:Int}(h0:0<=v) (h:v<c.first):gA c leaves x v=n9 leaves x v false:=by
 rw[gA,E2 (i:=0) (by omega) (by omega),no];simp[List.getD,show v.toNat<c.first.toNat by omega,Int.toNat_of_nonneg h0]
def LP {l:Int}(h:bm l (c.first+(i:Int))) (hi:i<=c.gates.length) (hf:1<=c.first):aW (no c leaves x i) l=(gA c leaves x (l/2) != decide (l%2=1)):=by
 unfold bm at h;rw[aW,gA,E2 hi (by omega)]
def CO (hc:c.Valid) (h:i<c.gates.length) :
  gA c leaves x (c.first+(i:Int))=n9 leaves x (c.first+(i:Int)) ((gA c leaves x (cV c i/2) != decide (cV c i%2=1))&&(gA c leaves x (cU c i/2) != decide (cU c i%2=1))):=by
 have hf:=hc.al;obtain⟨g1,g2⟩:=hc.g i h;have q1:aW (no c leaves x i) (cV c i)=(gA c leaves x (cV c i/2) != decide (cV c i%2=1)):=LP (i:=i) g1 (by omega) hf.1;have q2:aW (no c leaves x i) (cU c i)=(gA c leaves x (cU c i/2) != decide (cU c i%2=1)):=LP (i:=i) g2 (by omega) hf.1;rw[<-q1,<-q2];rw[gA,E2 (i:=i+1) (by omega) (by omega),no];have e:(c.first+(i:Int)).toNat=(no c leaves x i).length:=by rw[Eb];omega
 rw[e];simp[List.getD]
def mj (c:ac) (v:Int) (leaves:ZA):Nat->Nat
 | 0=>0
 | x+1=>mj c v leaves x+(if gA c leaves x v then 2 ^ x else 0)
def z7 (c:ac) (v:Int) (leaves:ZA) : ∀ n,mj c v leaves n<2 ^ n
 | 0=>by simp[mj]
 | n+1=>by
  have:=z7 c v leaves n;rw[mj,Nat.pow_succ];split <;> omega
def Lg (c:ac) (v:Int) (leaves:ZA) : ∀ n x,x<n->(mj c v leaves n).testBit x=gA c leaves x v
 | 0,x,h=>by omega
 | n+1,x,h=>by
  have hlt:=z7 c v leaves n;have ih:=Lg c v leaves n;rw[mj];by_cases hx:x=n
  ·subst hx;split
   ·rename_i h1;rw[Nat.add_comm,Nat.testBit_two_pow_add_eq,Nat.testBit_lt_two_pow hlt,h1];rfl
   ·rename_i h1;rw[lL,Nat.testBit_lt_two_pow hlt];simpa using h1
  ·have hxn:x<n:=by omega
   split
   ·rw[Nat.add_comm,Nat.testBit_two_pow_add_gt hxn];exact ih x hxn
   ·exact ih x hxn
def uY (c:ac) (v:Int) (leaves:ZA):Int:=(mj c v leaves (2 ^ leaves.length):Nat)
structure lR where
 var:Int
 leaves:ZA
 table:Int
def fQ (need:ZB) (vs:ZA):ZB:=vs.foldl (fun n v=>n.set v.toNat true) need
def uS : ∀ (vs:ZA) (need:ZB),(fQ need vs).length=need.length
 | [],need=>rfl
 | v::vs,need=>by
  show(fQ (need.set v.toNat true) vs).length=_
  rw[uS vs,gh]
def An : ∀ (vs:ZA) (need:ZB) (j:Nat),(∀ v∈vs,0<=v)->(fQ need vs).getD j false=(need.getD j false || decide (j<need.length/\(j:Int)∈vs))
 | [],need,j,_=>by simp[fQ]
 | v::vs,need,j,h=>by
  show(fQ (need.set v.toNat true) vs).getD j false=_
  rw[An vs _ j fun z hz=>h z (by simp[hz])];have hv:=h v (by simp);by_cases e:v.toNat=j
  ·subst e;by_cases hl:v.toNat<need.length
   ·simp[List.getD,hl,Int.toNat_of_nonneg hv]
   ·simp[List.getD,hl]
  ·have : ¬ (j:Int)=v:=by omega
   simp[List.getD,List.getElem?_set,e,this]
def k7 (c:ac):ZA:=(c.outs++c.next).map (· / 2)
def mv (c:ac):ZB:=fQ (List.replicate c.vars.toNat false) (k7 c)
noncomputable def gk (c:ac):Nat->ZB->List lR->List lR
 | 0,_,out=>out
 | j+1,need,out=>
  if need.getD (c.first.toNat+j) false=true then
   gk c j (fQ need ((cY c).getD (c.first.toNat+j) [])) (⟨c.first+(j:Int),(cY c).getD (c.first.toNat+j) [],uY c (c.first+(j:Int)) ((cY c).getD (c.first.toNat+j) [])⟩::out)
  else gk c j need out
noncomputable def jE (c:ac):List lR:=gk c c.gates.length (mv c) []
structure bW where
 net:Int
 inputs:ZA
 table:Int
 gj:Bool
def jB (c:ac) (i:Nat):bW:=
 if(c.next.getD i 0)/2 > 0 then⟨c.inputs+1+i,[(c.next.getD i 0)/2],2-(c.next.getD i 0)%2,true⟩ else⟨c.inputs+1+i,[],(c.next.getD i 0)%2,true⟩
def g9 (l:lR):bW:=⟨l.var,l.leaves,l.table,false⟩
noncomputable def aw (c:ac):List bW:=(List.range c.next.length).map (jB c)++(jE c).map g9
def bP:bW:=⟨0,[],0,false⟩
def rA (x:bW) (net:Int) (i:Nat):ZA:=(x.inputs.filter fun z=>decide (z=net)).map fun _=>(i:Int)
def e7 (cells:List bW) (net:Int):Nat->ZA
 | 0=>[]
 | i+1=>e7 cells net i++rA (cells.getD i bP) net i
def m6 (cells:List bW) (net:Int):ZA:=e7 cells net cells.length
def Ac {cells:List bW}{net:Int}{z:Int} : ∀ {n:Nat},z∈e7 cells net n↔∃ i:Nat,i<n/\net∈(cells.getD i bP).inputs/\z=(i:Int)
 | 0=>by simp[e7]
 | n+1=>by
  rw[e7,gM,Ac];constructor
  ·rintro(⟨i,h1,h2,h3⟩|h)
   ·exact⟨i,by omega,h2,h3⟩
   ·simp only[rA,List.mem_map,List.mem_filter,decide_eq_true_eq] at h;obtain⟨w,⟨h1,rfl⟩,rfl⟩:=h;exact⟨n,by omega,h1,rfl⟩
  ·rintro⟨i,h1,h2,rfl⟩;by_cases hi:i<n
   ·exact .inl ⟨i,hi,h2,rfl⟩
   ·obtain rfl:i=n:=by omega
    exact .inr (List.mem_map.2 ⟨net,List.mem_filter.2 ⟨h2,by simp⟩,rfl⟩)
end Go.VL
