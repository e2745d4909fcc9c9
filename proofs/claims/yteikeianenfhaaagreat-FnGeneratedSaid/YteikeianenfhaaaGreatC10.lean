/- Contracts, plain definitions and lemmas. Conditions: none; lemmas. -/
import Derived.Test.YteikeianenfhaaaGreatC13
import Derived.Test.YteikeianenfhaaaGreatVM8
import Derived.Test.YteikeianenfhaaaGreatC11
set_option maxRecDepth 20000
set_option linter.unusedSimpArgs false
set_option linter.unusedVariables false
set_option maxHeartbeats 2000000
namespace Go.Proofs
open Go Go.VL Tryz
def qiA (v:Int) (i:Nat):Int:=2*(1+i)+1-v/2 ^ i%2
def deSt (n:Nat) (v:Int):Nat->Bld×Int
 | 0=>(Bld.new (1+n+0),1)
 | i+1=>(deSt n v i).1.and (deSt n v i).2 (qiA v i)
def decC (n v:Int):Circ:=if n<1∨2<n∨v<0∨2 ^ n.toNat<=v then Circ.zero else⟨n,[],(deSt n.toNat v n.toNat).1.gates,[(deSt n.toNat v n.toNat).2]⟩
theorem qqq {n:Nat}(hn:1<=n/\n<=2) (v:Int) : ∀ i,i<=n->(deSt n v i).1.Ok/\(deSt n v i).1.first=1+n/\(deSt n v i).1.gates.length<=i/\(deSt n v i).1.lit (deSt n v i).2
 | 0,_=>⟨Bld.new_ok (by omega),rfl,by simp[deSt,Bld.new],by simp[deSt,Bld.new,Bld.lit];omega⟩
 | i+1,hi=>by
  obtain⟨h1,h2,h3,h4⟩:=qqq hn v i (by omega);have hm:=Int.emod_two_eq (v/2 ^ i);have hb:0<=qiA v i/\qiA v i<2*(((deSt n v i).1.first+(deSt n v i).1.gates.length:Nat):Int):=by unfold qiA;omega
  have ho:=Bld.and_ok h1 (deSt n v i).2 (qiA v i) (by omega);have hr:=Bld.and_res h1 h4 hb;exact⟨ho.1,by rw[deSt,ho.2.2.2];exact h2,by rw[deSt];omega,hr⟩
theorem shr_bit {v:Int}(h:0<=v) (i:Nat):(((v/2 ^ i).toNat &&& 1:Nat):Int)=v/2 ^ i%2:=qip (ybp h (Int.le_of_lt (Int.pow_pos (by omega))))
theorem Tryz.c_Decoder (n v:Int):Pure prog 48 [dI n,dI v] (dC (decC n v)):=by
 refine qav func48 rfl ntmps48 fun ok=>?_
 simp only[go_sem,seval] at ok;have hp : ∀ m:Int,1<=m->m<=2->(2:Int) ^ m.toNat=2*m:=by
  intro m h1 h2;obtain rfl|rfl:m=1∨m=2:=by omega
  ·rfl
  ·rfl
 by_cases h:n<1∨2<n∨v<0∨2 ^ n.toNat<=v
 ·have e:decC n v=Circ.zero:=by rw[decC,if_pos h]
  rw[e];simp only[go_sem,seval]
  repeat' first|assumption|(simp (disch:=first|assumption|omega|(simp;done)|(simp;omega)) only[];try simp only[go_sem,seval])|(with_reducible first|apply And.intro|intro _)|((try rw[qaa]);omega)
  ·rw[hp n (by omega) (by omega),qaa];omega
  all_goals first|(exfalso;omega)|simp[Circ.zero]
 have hn:1<=n/\n<=2:=by omega
 have hpn:=hp n hn.1 hn.2;have hv:0<=v/\v<2 ^ n.toNat:=by omega
 have e:decC n v=⟨n,[],(deSt n.toNat v n.toNat).1.gates,[(deSt n.toNat v n.toNat).2]⟩:=by rw[decC,if_neg h]
 rw[e];simp only[go_sem,seval]
 repeat' first|assumption|(simp (disch:=first|assumption|omega|(simp;done)|(simp;omega)) only[];try simp only[go_sem,seval])|(with_reducible first|apply And.intro|intro _)|((try rw[qaa]);omega)
 have c0:=c_newBuilder n.toNat 0 (by omega);have e0:((n.toNat:Nat):Int)=n:=by omega
 rw[e0] at c0;refine qa4 c0 [] (by simp only[go_sem,seval]) ?_;simp only[go_sem,seval,bN]
 repeat' first|assumption|(simp (disch:=first|assumption|omega|(simp;done)|(simp;omega)) only[];try simp only[go_sem,seval])|(with_reducible first|apply And.intro|intro _)|((try rw[qaa]);omega)
 refine qay (E:=env 0) tok (σ:=Nat) (fun i=>[(0,.d (dI n)),(1,.d (dI v)),(4,.ptr 0 0),(5,.ptr 3 0),(6,.d (dI (deSt n.toNat v i).2)),(27,.d (dI n)),(28,.d (dI i))])
  (fun i=>.box [.d (dI 0),.d .nil,.d .nil,.d .nil]::bN1 (deSt n.toNat v i).1) (fun i=>i<=n.toNat) (fun i=>n.toNat-i) [] 1000 1000 ?_ ?_ ?_
 ·simp only[go_sem,seval]
 ·simp only[go_sem,seval,bN1];refine⟨0,by omega,?_⟩;simp only[go_sem,seval,bN1,deSt,yaP]
 ·intro i hi;obtain⟨k1,k2,k3,k4⟩:=qqq (n:=n.toNat) (by omega) v i hi;have k5:=k4.1;by_cases hlt:i<n.toNat
  ·have hs:deSt n.toNat v (i+1)=(deSt n.toNat v i).1.and (deSt n.toNat v i).2 (qiA v i):=rfl;have hm:=Int.emod_two_eq (v/2 ^ i);have hdl:qiA v i=2*(1+i)+1-v/2 ^ i%2:=rfl;have hb:0<=qiA v i/\qiA v i<2*(((deSt n.toNat v i).1.first+(deSt n.toNat v i).1.gates.length:Nat):Int):=by unfold qiA;omega
   have hsh:=shr_bit hv.1 i;have g:=c_and (deSt n.toNat v i).1 k1 (deSt n.toNat v i).2 (qiA v i) k4 hb;rw[<-hs,hdl] at g;have hq:0<=v/2 ^ i:=ybp hv.1 (Int.le_of_lt (Int.pow_pos (by omega)));simp only[go_sem,seval,bN1,hsh]
   repeat' first|assumption|(simp (disch:=first|assumption|omega|(simp;done)|(simp;omega)) only[];try simp only[go_sem,seval,hsh])|(with_reducible first|apply And.intro|intro _)|((try rw[qaa]);omega)
   refine qa4 g [3,4,1,2] (by simp only[bH];simp only[go_sem,seval]) ?_;simp only[go_sem,seval,bH]
   repeat' first|assumption|(simp (disch:=first|assumption|omega|(simp;done)|(simp;omega)) only[];try simp only[go_sem,seval])|(with_reducible first|apply And.intro|intro _)|((try rw[qaa]);omega)
   exact⟨i+1,by omega,by omega,by simp⟩
  ·obtain rfl:i=n.toNat:=by omega
   simp only[go_sem,seval,bN1]
   repeat' first|assumption|(simp (disch:=first|assumption|omega|(simp;done)|(simp;omega)) only[];try simp only[go_sem,seval])|(with_reducible first|apply And.intro|intro _)|((try rw[qaa]);omega)

structure CnS where
 b:Bld
 next:List Int
 outs:List Int
 en:Int
def qqr (i:Nat) (s:CnS):CnS:=
 let p:=s.b.xor (2*(2+i)) s.en
 let q:=p.1.and (2*(2+i)) s.en
 ⟨q.1,s.next ++ [p.2],s.outs ++ [2*(2+(i:Int))],q.2⟩
def cnSt (n:Nat):Nat->CnS
 | 0=>⟨Bld.new (1+1+n),[],[],2⟩
 | i+1=>qqr i (cnSt n i)
def cnC (n:Int):Circ:=if n<1∨3<n then Circ.zero else⟨1,(cnSt n.toNat n.toNat).next,(cnSt n.toNat n.toNat).b.gates,(cnSt n.toNat n.toNat).outs⟩
structure CnOk (n i:Nat) (s:CnS):Prop where
 ok:s.b.Ok
 fst:s.b.first=2+n
 len:s.b.gates.length<=4*i
 e:s.b.lit s.en
 nx:s.next.length=i
 o:s.outs.length=i
theorem qnP {n i:Nat}{s:CnS}(h:CnOk n i s) (hi:i<n) (hn:n<=3) : ∃ b1 z1 b2 z2,s.b.xor (2*(2+(i:Int))) s.en=(b1,z1)/\b1.and (2*(2+(i:Int))) s.en=(b2,z2)/\
  qqr i s=⟨b2,s.next ++ [z1],s.outs ++ [2*(2+(i:Int))],z2⟩/\
  (b1.Ok/\b1.first=s.b.first/\s.b.gates.length<=b1.gates.length/\b1.gates.length<=s.b.gates.length+3)/\
  (b2.Ok/\b2.first=s.b.first/\b1.gates.length<=b2.gates.length/\b2.gates.length<=s.b.gates.length+4/\b2.lit z2):=by
 obtain⟨ok,fst,len,c,nx,o⟩:=h;unfold Bld.lit at c;have h1:=Bld.xor_ok ok (x:=2*(2+i)) (y:=s.en) (by omega) (by omega) c;unfold qqr;simp only;generalize s.b.xor (2*(2+(i:Int))) s.en=p at *
 obtain⟨b1,z1⟩:=p;simp only at h1 ⊢;have h2:=Bld.and_ok h1.1 (2*(2+(i:Int))) s.en (by omega);have r2:=Bld.and_res h1.1 (x:=2*(2+(i:Int))) (y:=s.en) (by omega) (by omega);generalize e2:b1.and (2*(2+(i:Int))) s.en=p at *
 obtain⟨b2,z2⟩:=p;simp only at h2 r2 ⊢;exact⟨b1,z1,b2,z2,rfl,e2,rfl,⟨h1.1,by omega,by omega,by omega⟩,⟨h2.1,by omega,by omega,by omega,r2⟩⟩
theorem qqs {n:Nat}(hn:1<=n/\n<=3) : ∀ i,i<=n->CnOk n i (cnSt n i)
 | 0,_=>⟨Bld.new_ok (by omega),by simp[cnSt,Bld.new],by simp[cnSt,Bld.new],by simp[cnSt,Bld.new,Bld.lit];omega,rfl,rfl⟩
 | i+1,hi=>by
  have h:=qqs hn i (by omega);obtain⟨b1,z1,b2,z2,e1,e2,e3,k1,k2⟩:=qnP h (by omega) (by omega);obtain⟨ok,fst,len,c,nx,o⟩:=h;rw[cnSt,e3];exact⟨k2.1,by simp only;omega,by simp only;omega,k2.2.2.2.2,by simp[nx],by simp[o]⟩
theorem Tryz.c_Counter (n:Int):Pure prog 46 [dI n] (dC (cnC n)):=by
 refine qav func46 rfl ntmps46 fun ok=>?_
 simp only[go_sem,seval] at ok;by_cases h:n<1∨3<n
 ·have e:cnC n=Circ.zero:=by rw[cnC,if_pos h]
  rw[e];simp only[go_sem,seval]
  repeat' first|assumption|(simp (disch:=first|assumption|omega|(simp;done)|(simp;omega)) only[];try simp only[go_sem,seval])|(with_reducible first|apply And.intro|intro _)|((try rw[qaa]);omega)
  all_goals simp[Circ.zero]
 have e:cnC n=⟨1,(cnSt n.toNat n.toNat).next,(cnSt n.toNat n.toNat).b.gates,(cnSt n.toNat n.toNat).outs⟩:=by rw[cnC,if_neg h]
 rw[e];simp only[go_sem,seval]
 repeat' first|assumption|(simp (disch:=first|assumption|omega|(simp;done)|(simp;omega)) only[];try simp only[go_sem,seval])|(with_reducible first|apply And.intro|intro _)|((try rw[qaa]);omega)
 have c0:=c_newBuilder 1 n.toNat (by omega);have e0:((n.toNat:Nat):Int)=n:=by omega
 rw[e0] at c0;refine qa4 c0 [] (by simp only[go_sem,seval]) ?_;simp only[go_sem,seval,bN]
 repeat' first|assumption|(simp (disch:=first|assumption|omega|(simp;done)|(simp;omega)) only[];try simp only[go_sem,seval])|(with_reducible first|apply And.intro|intro _)|((try rw[qaa]);omega)
 refine qdD (E:=env 0) tok (σ:=Nat) (fun i=>[(0,.d (dI n)),(2,.ptr 0 0),(3,.ptr 3 0),(4,.d (dI (cnSt n.toNat i).en)),(5,.ptr 5 0),(18,.d (dI n)),(19,.d (dI i))])
  (fun i=>.box [.d (dI 0),.d .nil,.d .nil,.d .nil]::(bN1 (cnSt n.toNat i).b ++ [.box [.d (dI 1),.sl 6 i 1 0 i,.d .nil,.sl 7 i 1 0 i],.row i 1 true ((cnSt n.toNat i).next.map (D.int .i64)),.row i 1 true ((cnSt n.toNat i).outs.map (D.int .i64))])) (fun i=>i<=n.toNat) (fun i=>n.toNat-i) [(5,1,1,true),(5,3,1,true)] [] 1000 1000 ?_ ?_ ?_ ?_
 ·simp only[go_sem,seval]
 ·simp only[go_sem,seval]
 ·simp only[go_sem,seval,bN1];refine⟨0,by omega,?_⟩;simp only[go_sem,seval,bN1,cnSt,yaP]
 ·intro i hi;have ho:=qqs (n:=n.toNat) (by omega) i hi;have hnl:=ho.nx;have hol:=ho.o;by_cases hlt:i<n.toNat
  ·obtain⟨b1,z1,b2,z2,e1,e2,e3,k1,k2⟩:=qnP ho (by omega) (by omega);have hstep:cnSt n.toNat (i+1)=⟨b2,(cnSt n.toNat i).next ++ [z1],(cnSt n.toNat i).outs ++ [2*(2+(i:Int))],z2⟩:=by rw[cnSt,e3]
   obtain⟨ok1,fst1,len1,cc,_,_⟩:=ho;have g1:=c_xor (cnSt n.toNat i).b ok1 (by omega) (2*(2+(i:Int))) (cnSt n.toNat i).en (by omega) cc;rw[e1] at g1;unfold Bld.lit at cc;have g2:=c_and b1 k1.1 (2*(2+(i:Int))) (cnSt n.toNat i).en (by omega) (by omega);rw[e2] at g2;simp only[go_sem,seval,bN1]
   repeat' first|assumption|(simp (disch:=first|assumption|omega|(simp;done)|(simp;omega)) only[];try simp only[go_sem,seval])|(with_reducible first|apply And.intro|intro _)|((try rw[qaa]);omega)
   refine qaP (n:=0) [5,7,9] (fsts [0,2,3,4] (.two 1 (.one 5 (.one 6 (.one 7 (.fst 8 (.one 9 .done))))) 5 (.two 1 (.one 6 (.one 7 (.fst 8 (.one 9 .done)))) 6 (.one 1 (.one 7 (.fst 8 (.one 9 .done))))))) ?_;simp only[go_sem,seval,bN1]
   repeat' first|assumption|(simp (disch:=first|assumption|omega|(simp;done)|(simp;omega)) only[];try simp only[go_sem,seval])|(with_reducible first|apply And.intro|intro _)|((try rw[qaa]);omega)
   all_goals repeat' first|assumption|(simp (disch:=first|assumption|omega|(simp;done)|(simp;omega)) only[];try simp only[go_sem,seval,bH])|(with_reducible first|apply And.intro|intro _)|(refine qa4 g1 [3,4,1,2] (by simp only[bH];simp only[go_sem,seval]) ?_;simp only[go_sem,seval,bH])|(refine qa4 g2 [3,4,1,2] (by simp only[bH];simp only[go_sem,seval]) ?_;simp only[go_sem,seval,bH])|((try rw[qaa]);omega)
   all_goals
    refine⟨i+1,by omega,by omega,?_⟩;rw[hstep];simp
  ·obtain rfl:i=n.toNat:=by omega
   simp only[go_sem,seval,bN1]
   repeat' first|assumption|(simp (disch:=first|assumption|omega|(simp;done)|(simp;omega)) only[];try simp only[go_sem,seval])|(with_reducible first|apply And.intro|intro _)|((try rw[qaa]);omega)

def lmap (m:List Int) (l:Int):Int:=if l%2=1 then flip (m.getD (l/2).toNat 0) else m.getD (l/2).toNat 0
def mrk (first:Int) (u:List Bool) (r:Int):List Bool:=if first<=r/2 then u.set (r/2-first).toNat true else u
def mrkN (first:Int) (l:List Int) (u:List Bool):Nat->List Bool
 | 0=>u
 | i+1=>mrk first (mrkN first l u i) (l.getD i 0)
def usdI (c:Circ) (u:List Bool) (i:Nat):Nat->List Bool
 | 0=>u
 | 1=>if u.getD i false then mrk c.first u (c.gates.getD i (0,0)).1 else u
 | _=>if u.getD i false then mrk c.first (mrk c.first u (c.gates.getD i (0,0)).1) (c.gates.getD i (0,0)).2 else u
def usdN (c:Circ):Nat->List Bool
 | 0=>mrkN c.first (c.outs++c.next) (List.replicate c.gates.length false) (c.outs++c.next).length
 | k+1=>usdI c (usdN c k) (c.gates.length-1-k) 2
theorem qkx {first r:Int}{u:List Bool}:(mrk first u r).length=u.length:=by unfold mrk;split <;> simp
theorem qky {first:Int}{l:List Int}{u:List Bool} : ∀ i,(mrkN first l u i).length=u.length
 | 0=>rfl
 | i+1=>by rw[mrkN,qkx,qky i]
theorem qs3 {c:Circ}{u:List Bool}{i:Nat} : ∀ k,(usdI c u i k).length=u.length
 | 0=>rfl
 | 1=>by simp only[usdI];split <;> simp[qkx]
 | k+2=>by simp only[usdI];split <;> simp[qkx]
theorem qfj {c:Circ} : ∀ k,(usdN c k).length=c.gates.length
 | 0=>by rw[usdN,qky];simp
 | k+1=>by rw[usdN,qs3,qfj k]

structure BdS where
 gates:List (Int×Int)
 m:List Int
def qhr (c:Circ) (u:List Bool) (share:Bool) (i:Nat) (s:BdS):BdS:=
 if u.getD i false then
  if share then⟨(andR ⟨c.inputs,c.next,s.gates,[]⟩ (lmap s.m (c.gates.getD i (0,0)).1) (lmap s.m (c.gates.getD i (0,0)).2)).1.gates,s.m ++ [(andR ⟨c.inputs,c.next,s.gates,[]⟩ (lmap s.m (c.gates.getD i (0,0)).1) (lmap s.m (c.gates.getD i (0,0)).2)).2]⟩
  else⟨s.gates ++ [(lmap s.m (c.gates.getD i (0,0)).1,lmap s.m (c.gates.getD i (0,0)).2)],s.m ++ [2*((cFst c:Int)+(s.gates.length:Int))]⟩
 else⟨s.gates,s.m ++ [0]⟩
def bdSt (c:Circ) (u:List Bool) (share:Bool):Nat->BdS
 | 0=>⟨[],(List.range (cFst c)).map fun(v:Nat)=>2*(v:Int)⟩
 | i+1=>qhr c u share i (bdSt c u share i)
def qkz (c:Circ) (share:Bool):BdS:=bdSt c (usdN c c.gates.length) share c.gates.length
def built (c:Circ) (share:Bool):Circ:=⟨c.inputs,c.next.map (lmap (qkz c share).m),(qkz c share).gates,c.outs.map (lmap (qkz c share).m)⟩
structure BdOk (c:Circ) (i:Nat) (s:BdS):Prop where
 ml:s.m.length=cFst c+i
 mb : ∀ x∈s.m,0<=x/\x<2*((cFst c:Int)+(s.gates.length:Int))
 gl:s.gates.length<=i
theorem qeq {m:List Int}{n:Int}(hm : ∀ x∈m,0<=x/\x<2*n) {l:Int}(h:0<=l/\l<2*m.length):0<=lmap m l/\lmap m l<2*n:=by
 have hx:=hm _ (qac (l:=m) (i:=(l/2).toNat) (z:=0) (by omega));unfold lmap;split
 ·exact qcB hx
 ·exact hx
theorem qgV {c:Circ}(hv:c.Valid) (u:List Bool) (share:Bool) : ∀ i,i<=c.gates.length->BdOk c i (bdSt c u share i)
 | 0,_=>⟨by simp[bdSt],fun x hx=>by
   simp only[bdSt,List.mem_map,List.mem_range] at hx;obtain⟨v,hv,rfl⟩:=hx;simp[bdSt];omega,by simp[bdSt]⟩
 | i+1,hi=>by
  obtain⟨h1,h2,h3⟩:=qgV hv u share i (by omega);have hg:=hv.g i (by omega);have hf:c.first=(cFst c:Int):=by have:=hv.i0;unfold Circ.first cFst;omega
  have hfp:1<=cFst c:=by unfold cFst;omega
  unfold qaK at hg;have hA:=qeq (l:=(c.gates.getD i (0,0)).1) h2 (by omega);have hB:=qeq (l:=(c.gates.getD i (0,0)).2) h2 (by omega);rw[bdSt];generalize bdSt c u share i=s at *
  unfold qhr;split
  ·split
   ·have hk:Mk ⟨c.inputs,c.next,s.gates,[]⟩:=⟨by have:=hv.i0;have:=hv.i1;simp only;omega,by have:=hv.ln;simp only;omega⟩;have hr:=andR_ok hk (x:=lmap s.m (c.gates.getD i (0,0)).1) (y:=lmap s.m (c.gates.getD i (0,0)).2) ⟨hA.1,by show _<2*((cFst c+s.gates.length:Nat):Int);omega⟩ ⟨hB.1,by show _<2*((cFst c+s.gates.length:Nat):Int);omega⟩;obtain⟨_,r2,r3,r4,r5⟩:=hr;unfold litR at r5;have r2':cFst (andR ⟨c.inputs,c.next,s.gates,[]⟩ (lmap s.m (c.gates.getD i (0,0)).1) (lmap s.m (c.gates.getD i (0,0)).2)).1=cFst c:=r2;rw[r2'] at r5;simp only at r3 r4;exact⟨by simp[h1];omega,fun x hx=>by
     rcases List.mem_append.1 hx with hx|hx
     ·have:=h2 x hx;simp only;omega
     ·rw[List.mem_singleton.1 hx];simp only;omega,by simp only;omega⟩
   ·exact⟨by simp[h1];omega,fun x hx=>by
     rcases List.mem_append.1 hx with hx|hx
     ·have:=h2 x hx;simp only[yae,yaK];omega
     ·rw[List.mem_singleton.1 hx];simp only[yae,yaK];omega,by simp;omega⟩
  ·exact⟨by simp[h1];omega,fun x hx=>by
    rcases List.mem_append.1 hx with hx|hx
    ·exact h2 x hx
    ·rw[List.mem_singleton.1 hx];omega,by simp only;omega⟩

def optC (c:Circ):Circ:=built (built c true) false

structure Tcfg where
 table:Int
 select:List Int
 reg:Bool
 drive:List Int
noncomputable instance:DecidableEq Tcfg:=fun _ _=>Classical.propDecidable _
abbrev dTc (t:Tcfg):D:=.agg [dI t.table,dIs t.select,dB t.reg,dIs t.drive]
abbrev dFr (n:Int) (t:Tcfg):D:=.agg [dI n,dI t.table,dIs t.select,dB t.reg,dIs t.drive]
def qbX (n:Int):Bool:=(decide (0<=n)&&decide (n<=7)) || decide (n=15)
def nbUp (t:Int):Int:=if 5<=t then t-5 else -1
def qeE (t:Int):Int:=if 0<t%5 then t-1 else -1
def qc7 (t:Int):Int:=if t%5<4 then t+1 else -1
def qeF (t:Int):Int:=if t<20 then t+5 else -1
def nb (t d:Int):Int:=if d=2 then nbUp t else if d=3 then qeE t else if d=4 then qc7 t else if d=5 then qeF t else -1
def qaL (t d:Int):Bool:=decide (d=0∨d=1∨(2<=d/\d<=5/\0<=nb t d)∨(d=6/\t%5=0/\t/5<4))
def Tcfg.ok (t:Int) (x:Tcfg):Bool:=(decide (0<=x.table)&&decide (x.table<256))&&decide (x.select.length=3)&&decide (x.drive.length=8)&&x.select.all qbX&&x.drive.all (qaL t)
theorem Tryz.c_isTrack (n:Int):Pure prog 184 [dI n] (.bool (qbX n)):=by
 refine qav func184 rfl ntmps184 fun ok=>?_
 simp only[go_sem,seval] at ok⊢;simp only[qbX];rw[Bool.eq_iff_iff];simp;omega
theorem Tryz.c_neighbours (t:Int) (ht:0<=t/\t<=24):Pure prog 185 [dI t] (.agg [dI (nbUp t),dI (qeE t),dI (qc7 t),dI (qeF t)]):=by
 refine qav func185 rfl ntmps185 fun ok=>?_
 simp only[go_sem,seval] at ok⊢
 repeat' first|assumption|(simp (disch:=first|assumption|omega|(simp;done)|(simp;omega)) only[qaj];try simp only[go_sem,seval])|(with_reducible first|apply And.intro|intro _)|((try rw[qaa]);omega)
 all_goals (simp only[nbUp,qeE,qc7,qeF];first|rw[if_pos (by assumption)]|rw[if_neg (by assumption)])
theorem Tcfg.ok_iff {t:Int}{x:Tcfg}:x.ok t=true↔(0<=x.table/\x.table<256)/\x.select.length=3/\x.drive.length=8/\(∀ j,j<x.select.length->qbX (x.select.getD j 0)=true)/\∀ j,j<x.drive.length->qaL t (x.drive.getD j 0)=true:=by
 simp only[Tcfg.ok,yam,decide_eq_true_eq,qiw _ _ (0:Int),and_assoc]
theorem Tcfg.ok_no {t:Int}{x:Tcfg}(h:x.ok t=true->False):false=x.ok t:=by
 cases e:x.ok t with
 | false=>rfl
 | true=>exact absurd e h
theorem Tryz.c_tileValid (x:Tcfg) (t:Int) (ht:0<=t/\t<=24):Pure prog 124 [dTc x,dI t] (.bool (x.ok t)):=by
 refine qav func124 rfl ntmps124 fun ok=>?_
 simp only[go_sem,seval] at ok⊢;refine⟨fun h=>Tcfg.ok_no fun h2=>by rw[Tcfg.ok_iff] at h2;omega,fun h=>?_⟩;refine qay (E:=env 0) tok (σ:=Nat) (fun i=>[(1,.d (dI t)),(2,.ptr 0 0),(31,.d (dIs x.select)),(32,.d (dI x.select.length)),(33,.d (dI i))]) (fun i=>[.box [.d (dI x.table),.d (dIs x.select),.d (dB x.reg),.d (dIs x.drive)]])
  (fun i=>i<=x.select.length/\∀ j,j<i->qbX (x.select.getD j 0)=true) (fun i=>x.select.length-i) [] 1000 1000 ?_ ?_ ?_
 ·simp only[go_sem,seval]
 ·simp only[go_sem,seval];exact⟨0,⟨by omega,fun j hj=>absurd hj (by omega)⟩,rfl⟩
 ·rintro i ⟨hi,hinv⟩;simp only[go_sem,seval]
  repeat' first|assumption|(simp (disch:=first|assumption|omega|(simp;done)|(simp;omega)) only[qaj];try simp only[go_sem,seval])|(with_reducible first|apply And.intro|intro _)|(refine qab (c_isTrack _) ?_;simp only[go_sem,seval])|(refine qab (c_neighbours t ht) ?_;simp only[go_sem,seval])|((try rw[qaa]);omega)
  ·rename_i h1 h2;refine Tcfg.ok_no fun h3=>?_
   have:=(Tcfg.ok_iff.1 h3).2.2.2.1 i h1;rw[h2] at this;exact absurd this (by simp)
  ·rename_i h1 h2;refine⟨i+1,⟨by omega,fun j hj=>?_⟩,by omega,rfl⟩;by_cases hji:j=i
   ·subst hji;exact h2
   ·exact hinv j (by omega)
  ·rename_i h1;have hs : ∀ j,j<x.select.length->qbX (x.select.getD j 0)=true:=fun j hj=>hinv j (by omega)
   clear hinv hi h1;refine qay (E:=env 0) tok (σ:=Nat) (fun i=>[(1,.d (dI t)),(2,.ptr 0 0),(7,.ptr 1 0),(44,.d (dIs x.drive)),(45,.d (dI x.drive.length)),(46,.d (dI i))]) (fun i=>[.box [.d (dI x.table),.d (dIs x.select),.d (dB x.reg),.d (dIs x.drive)],.box [.d (dI (nbUp t)),.d (dI (qeE t)),.d (dI (qc7 t)),.d (dI (qeF t))]])
    (fun i=>i<=x.drive.length/\∀ j,j<i->qaL t (x.drive.getD j 0)=true) (fun i=>x.drive.length-i) [] 1000 1000 ?_ ?_ ?_
   ·simp only[go_sem,seval]
   ·simp only[go_sem,seval];exact⟨0,⟨by omega,fun j hj=>absurd hj (by omega)⟩,rfl⟩
   ·rintro i ⟨hi,hinv⟩;have step:i<x.drive.length->qaL t (x.drive.getD i 0)=true->∃ s',(s'<=x.drive.length/\∀ j,j<s'->qaL t (x.drive.getD j 0)=true)/\x.drive.length-s'<x.drive.length-i/\i+1=s':=by
     intro h1 h2;refine⟨i+1,⟨by omega,fun j hj=>?_⟩,by omega,rfl⟩;by_cases hji:j=i
     ·subst hji;exact h2
     ·exact hinv j (by omega)
    have stop:i<x.drive.length->qaL t (x.drive.getD i 0)=false->false=x.ok t:=by
     intro h1 h2;refine Tcfg.ok_no fun h3=>?_
     have:=(Tcfg.ok_iff.1 h3).2.2.2.2 i h1;rw[h2] at this;exact absurd this (by simp)
    have fin : ¬ i<x.drive.length->true=x.ok t:=fun hge=>(Tcfg.ok_iff.2 ⟨by omega,by omega,by omega,hs,fun j hj=>hinv j (by omega)⟩).symm
    have hd:x.drive.getD i 0=0∨x.drive.getD i 0=1∨x.drive.getD i 0=2∨x.drive.getD i 0=3∨x.drive.getD i 0=4∨x.drive.getD i 0=5∨x.drive.getD i 0=6∨(x.drive.getD i 0<0∨6<x.drive.getD i 0):=by omega
    rcases hd with hd|hd|hd|hd|hd|hd|hd|hd
    ·simp only[go_sem,seval,hd];rw[hd] at step stop
     repeat' first|assumption|(simp (disch:=first|assumption|omega|(simp;done)|(simp;omega)) only[qaj];try simp only[go_sem,seval])|(with_reducible first|apply And.intro|intro _)|((try rw[qaa]);omega)
     all_goals first
      | exact fin (by assumption)
      | exact stop (by assumption) (by simp[qaL,nb];omega)
      | exact step (by assumption) (by simp[qaL,nb] <;> omega)
    ·simp only[go_sem,seval,hd];rw[hd] at step stop
     repeat' first|assumption|(simp (disch:=first|assumption|omega|(simp;done)|(simp;omega)) only[qaj];try simp only[go_sem,seval])|(with_reducible first|apply And.intro|intro _)|((try rw[qaa]);omega)
     all_goals first
      | exact fin (by assumption)
      | exact stop (by assumption) (by simp[qaL,nb];omega)
      | exact step (by assumption) (by simp[qaL,nb] <;> omega)
    ·simp only[go_sem,seval,hd];rw[hd] at step stop
     repeat' first|assumption|(simp (disch:=first|assumption|omega|(simp;done)|(simp;omega)) only[qaj];try simp only[go_sem,seval])|(with_reducible first|apply And.intro|intro _)|((try rw[qaa]);omega)
     all_goals first
      | exact fin (by assumption)
      | exact stop (by assumption) (by simp[qaL,nb];omega)
      | exact step (by assumption) (by simp[qaL,nb] <;> omega)
    ·simp only[go_sem,seval,hd];rw[hd] at step stop
     repeat' first|assumption|(simp (disch:=first|assumption|omega|(simp;done)|(simp;omega)) only[qaj];try simp only[go_sem,seval])|(with_reducible first|apply And.intro|intro _)|((try rw[qaa]);omega)
     all_goals first
      | exact fin (by assumption)
      | exact stop (by assumption) (by simp[qaL,nb];omega)
      | exact step (by assumption) (by simp[qaL,nb] <;> omega)
    ·simp only[go_sem,seval,hd];rw[hd] at step stop
     repeat' first|assumption|(simp (disch:=first|assumption|omega|(simp;done)|(simp;omega)) only[qaj];try simp only[go_sem,seval])|(with_reducible first|apply And.intro|intro _)|((try rw[qaa]);omega)
     all_goals first
      | exact fin (by assumption)
      | exact stop (by assumption) (by simp[qaL,nb];omega)
      | exact step (by assumption) (by simp[qaL,nb] <;> omega)
    ·simp only[go_sem,seval,hd];rw[hd] at step stop
     repeat' first|assumption|(simp (disch:=first|assumption|omega|(simp;done)|(simp;omega)) only[qaj];try simp only[go_sem,seval])|(with_reducible first|apply And.intro|intro _)|((try rw[qaa]);omega)
     all_goals first
      | exact fin (by assumption)
      | exact stop (by assumption) (by simp[qaL,nb];omega)
      | exact step (by assumption) (by simp[qaL,nb] <;> omega)
    ·simp only[go_sem,seval,hd];rw[hd] at step stop
     repeat' first|assumption|(simp (disch:=first|assumption|omega|(simp;done)|(simp;omega)) only[qaj];try simp only[go_sem,seval])|(with_reducible first|apply And.intro|intro _)|((try rw[qaa]);omega)
     all_goals first
      | exact fin (by assumption)
      | exact stop (by assumption) (by simp[qaL,nb];omega)
      | exact step (by assumption) (by simp[qaL,nb] <;> omega)
    ·simp only[go_sem,seval]
     repeat' first|assumption|(simp (disch:=first|assumption|omega|(simp;done)|(simp;omega)) only[qaj];try simp only[go_sem,seval])|(with_reducible first|apply And.intro|intro _)|((try rw[qaa]);omega)
     all_goals first
      | exact fin (by assumption)
      | exact stop (by assumption) (by simp only[qaL,decide_eq_false_iff_not];omega)
      | exact step (by assumption) (by simp only[qaL,decide_eq_true_eq];omega)
end Go.Proofs
