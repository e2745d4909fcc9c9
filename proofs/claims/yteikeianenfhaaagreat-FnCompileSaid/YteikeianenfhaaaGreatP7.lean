/- Contracts, plain definitions and lemmas. Conditions: none; lemmas. -/
import Derived.Test.YteikeianenfhaaaGreatC53
import Derived.Test.YteikeianenfhaaaGreatC61
import Derived.Test.YteikeianenfhaaaGreatK5
import Derived.Test.YteikeianenfhaaaGreatO1
import Derived.Test.YteikeianenfhaaaGreatC12
set_option maxRecDepth 20000
set_option linter.unusedSimpArgs false
set_option linter.unusedVariables false
set_option maxHeartbeats 2000000
set_option linter.defProp false
namespace Go.Proofs
open Go Go.VL Tryz
variable {n j i o:Nat}{l:ZA}{k:aG}
def lQ (b:Bool):Int:=if b then 1 else 0
def gL (t:ar):ZA:=t.table::(t.select++(lQ t.gj::t.drive))
def gv (l:List ar) (n:Nat):ZA:=(l.take n).flatMap gL
def iU (l:List (Int×Bool)) (n:Nat):ZA:=(l.take n).flatMap fun p=>[p.1,lQ p.2]
def dF (l:ZA):Int:=l.foldl (fun s b=>(s*257+b+1)%65521) 1
def dV (k:aG):ZA:=
 let out:=gv k.tiles k.tiles.length++iU k.pads k.pads.length
 out ++ [dF out/256%256,dF out%256]
def Tryz.r7 (b:Bool):Pure prog 156 [dB b] (.int .u8 (lQ b)):=by
 refine bz func156 rfl ntmps156 fun ok=>?_
 simp only[go_sem,seval] at ok⊢;cases b <;> simp[lQ]
def CQ (l:ZA) (n:Nat):0<=dF (l.take n)/\dF (l.take n)<65521:=by
 induction n with
 | zero=>simp[dF]
 | succ n ih=>
  by_cases h:n<l.length
  ·have e:dF (l.take (n+1))=(dF (l.take n)*257+l[n]+1)%65521:=by
    rw[la h,dF,ng];rfl
   rw[e];exact⟨Int.emod_nonneg _ (by decide),Int.emod_lt_of_pos _ (by decide)⟩
  ·rw[ag (by omega)] at ih ⊢;exact ih
def LM (l:ZA) (h:n<l.length):dF (l.take (n+1))=(dF (l.take n)*257+l.getD n 0+1)%65521:=by
 rw[la h,dF,ng];simp[List.getD,h,dF]
def Tryz.n4 (l:ZA) (hl : ∀ x∈l,0<=x/\x<=255) (hn:l.length<=1000000):Pure prog 157 [lk l] (dI (dF l)):=by
 refine bz func157 rfl ntmps157 fun ok=>?_
 simp only[go_sem,seval] at ok⊢
 repeat' first|simp (disch:=first|assumption|omega|simp;try omega) only[ag,aC];try simp only[go_sem,seval]|(with_reducible first|apply aa|intro)|(try rw[ae]);omega
 refine cQ (σ:=Nat) (fun i=>[(3,.d (dI (dF (l.take i)))),(6,.d (lk l)),(7,.d (dI l.length)),(8,.d (dI i))]) (fun _=>[]) (fun i=>i<=l.length) (fun i=>l.length-i) [] 1000 1000 ?_ ?_ ?_
 ·simp only[go_sem,seval]
 ·simp only[go_sem,seval];exact⟨0,by omega,rfl,rfl⟩
 ·intro i hi;have hs:=CQ l i;by_cases hlt:i<l.length
  ·have hb:=hl _ (aO hlt:l.getD i 0∈l);have hss:=LM l hlt;generalize dF (l.take i)=s at *
   generalize hb9:l.getD i 0=b at *
   simp only[go_sem,seval,hb9]
   repeat' first|simp (disch:=first|assumption|omega|simp;try omega) only[ag,aC];try simp only[go_sem,seval,hb9]|(with_reducible first|apply aa|intro)|(try rw[ae]);omega
   all_goals first|(rw[ae];omega)|skip
   refine⟨i+1,by omega,by omega,?_,rfl⟩;rw[hss]
  ·obtain rfl:i=l.length:=by omega
   simp only[go_sem,seval]
   repeat' first|simp (disch:=first|assumption|omega|simp;try omega) only[ag,aC];try simp only[go_sem,seval]|(with_reducible first|apply aa|intro)|(try rw[ae]);omega
def BU {l:List ar}(h : ∀ j,j<l.length->(l.getD j ba).select.length=3/\(l.getD j ba).drive.length=8) : ∀ n,(gv l n).length<=13*n
 | 0=>by simp[gv]
 | n+1=>by
  have ih:=BU h n;by_cases hn:n<l.length
  ·have:=h n hn;have e:l.getD n ba=l[n]:=by simp[List.getD,hn]
   unfold gv at *
   rw[la hn,List.flatMap_append,b8];rw[e] at this;simp only[l7,List.flatMap_nil,jq,gL,eD,b8];omega
  ·unfold gv at *
   rw[ag (by omega)] at ih ⊢;omega
def J9 {l:List ar}(h:n<l.length):gv l (n+1)=gv l n++gL (l.getD n ba):=by
 unfold gv;rw[la h,List.flatMap_append];simp[List.getD,h]
def GQ {l:List (Int×Bool)}(h:n<l.length):iU l (n+1)=iU l n ++ [(l.getD n (0,false)).1,lQ (l.getD n (0,false)).2]:=by
 unfold iU;rw[la h,List.flatMap_append];simp[List.getD,h]
def eh (h:j<l.length):l.take (j+1)=l.take j ++ [l.getD j 0]:=by
 rw[la h];simp[List.getD,h]
def CK {l:List (Int×Bool)}(h:n<=l.length):(iU l n).length=2*n:=by
 induction n with
 | zero=>simp[iU]
 | succ n ih=>
  rw[GQ (by omega),b8,ih (by omega)];simp;omega
def Du (b:Bool):0<=lQ b/\lQ b<=1:=by cases b <;> simp[lQ]
def Gq (hk:k.ok) : ∀ x∈gv k.tiles 25,0<=x/\x<=255:=by
 intro x hx;obtain⟨t,ht,hx⟩:=List.mem_flatMap.1 hx;obtain⟨i,hi,rfl⟩:=gm ba (kG ht);have hto:=ar.b6.1 (hk.2.2 i hi);generalize k.tiles.getD i ba=t at *
 obtain⟨⟨a1,a2⟩,_,_,h3,h4⟩:=hto;unfold gL at hx;rcases List.mem_cons.1 hx with rfl|hx
 ·omega
 rcases List.mem_append.1 hx with hx|hx
 ·obtain⟨j,hj,rfl⟩:=gm (0:Int) hx;have:=h3 j hj;simp only[ji,nM,gO,decide_eq_true_eq] at this;omega
 rcases List.mem_cons.1 hx with rfl|hx
 ·have:=Du t.gj;omega
 ·obtain⟨j,hj,rfl⟩:=gm (0:Int) hx;have:=h4 j hj;simp only[fB,decide_eq_true_eq] at this;omega
def Gz (hk:k.ok) : ∀ x∈iU k.pads 3,0<=x/\x<=255:=by
 intro x hx;obtain⟨p,hp,hx⟩:=List.mem_flatMap.1 hx;obtain⟨i,hi,rfl⟩:=gm (0,false) (kG hp);have:=hk.2.1.2 i hi;generalize k.pads.getD i (0,false)=p at *
 simp only[ji,nM,gO,decide_eq_true_eq] at this;have h2:=Du p.2;simp at hx;rcases hx with rfl|rfl <;> omega
def Tryz.fE (k:aG):Pure prog 89 [dK k] (lk (if k.ok then dV k else [])):=by
 have hc:=gq k;refine bz func89 rfl ntmps89 fun ok=>?_
 simp only[go_sem,seval] at ok⊢
 repeat' first|simp (disch:=first|assumption|omega|simp;try omega) only[ag,aC];try simp only[go_sem,seval]|(with_reducible first|apply aa|intro)|(refine az hc ?_;simp only[go_sem,seval])|(try rw[ae]);omega
 ·rename_i h;rw[if_neg (by simpa using h)];rfl
 rename_i h;have hk:k.ok:=by simpa using h
 have hla:k.tiles.length=25:=hk.1;rw[if_pos hk];refine cD (σ:=Nat) (fun i=>[(1,.ptr 0 0),(3,.sl 1 (gv k.tiles i).length 1 0 (gv k.tiles i).length),(17,.d (dm k.tiles)),(18,.d (dI k.tiles.length)),(19,.d (dI i))])
  (fun i=>[.box [.d (dm k.tiles),.d (jV k.pads)],.row (gv k.tiles i).length 1 true ((gv k.tiles i).map (D.int .u8))]) (fun i=>i<=25) (fun i=>25-i) [] [(3,1,true)] 1000 1000 ?_ ?_
 ·simp only[go_sem,seval];exact⟨0,by omega,by simp[gv]⟩
 ·intro i hi;by_cases hlt:i<25
  ·have hqs:=J9 (l:=k.tiles) (n:=i) (by omega);have hql:=BU (l:=k.tiles) (fun j hj=>aG.cA hk (by omega)) i;have hto:=ar.b6.1 (hk.2.2 i (by omega));have gx:=cE (z:=D.agg [D.int .i64 0,.nil,.bool false,.nil]) (show i<k.tiles.length by omega);have hfl:=r7 (k.tiles.getD i ba).gj;generalize gv k.tiles i=q at *
   generalize k.tiles.getD i ba=t at *
   obtain⟨t1,t2,t3,t4⟩:=t;obtain⟨⟨ht1,ht2⟩,hs1,hs2,hs3,hs4⟩:=hto;simp only at ht1 ht2 hs1 hs2 hs3 hs4 hfl;have hm1:t1%256=t1:=by omega
   simp only[go_sem,seval,gx,hla,hm1]
   repeat' first|simp (disch:=first|assumption|omega|simp;try omega) only[ag,aC];try simp only[go_sem,seval,gx,hla,hm1]|(with_reducible first|apply aa|intro)|(try rw[ae]);omega
   refine cD (σ:=Nat) (fun j=>[(1,.ptr 0 0),(3,.sl 1 (q++t1::t2.take j).length 1 0 (q++t1::t2.take j).length),(5,.ptr 2 0),(17,.d (dm k.tiles)),(18,.d (dI 25)),(19,.d (dI i)),(30,.d (aj t2)),(31,.d (dI t2.length)),(32,.d (dI j))])
    (fun j=>[.box [.d (dm k.tiles),.d (jV k.pads)],.row (q++t1::t2.take j).length 1 true ((q++t1::t2.take j).map (D.int .u8)),.box [.d (dI t1),.d (aj t2),.d (dB t3),.d (aj t4)]]) (fun j=>j<=3) (fun j=>3-j) [] [] 1000 1000 ?_ ?_
   ·simp only[go_sem,seval];exact⟨0,by omega,by simp⟩
   ·intro j hj;by_cases hlj:j<3
    ·have htk:=eh (l:=t2) (j:=j) (by omega);have hsj:=hs3 j (by omega);simp only[ji,nM,gO,decide_eq_true_eq] at hsj;generalize hv9:t2.getD j 0=v at *
     have hm9:v%256=v:=by omega
     simp only[go_sem,seval,hv9,hs1,hm9]
     repeat' first|simp (disch:=first|assumption|omega|simp;try omega) only[ag,aC];try simp only[go_sem,seval,hv9,hs1,hm9]|(with_reducible first|apply aa|intro)|(try rw[ae]);omega
     ·have:(t2.take j).length<=3:=by rw[iy];omega
      omega
     ·have e1:(t2.take j).length=j:=by rw[iy];omega
      have e2:(t2.take (j+1)).length=j+1:=by rw[iy];omega
      refine⟨j+1,by omega,by omega,⟨by rw[e1,e2];omega,rfl⟩,by rw[e1,e2];omega,?_⟩;rw[htk];simp
    ·obtain rfl:j=3:=by omega
     simp only[go_sem,seval,hs1]
     repeat' first|simp (disch:=first|assumption|omega|simp;try omega) only[ag,aC];try simp only[go_sem,seval,hs1]|(with_reducible first|apply aa|intro)|(refine az hfl ?_;simp only[go_sem,seval,hs1])|(try rw[ae]);omega
     refine cD (σ:=Nat) (fun j=>[(1,.ptr 0 0),(3,.sl 1 (q.length+5+j) 1 0 (q.length+5+j)),(17,.d (dm k.tiles)),(18,.d (dI 25)),(19,.d (dI i)),(49,.d (aj t4)),(50,.d (dI t4.length)),(51,.d (dI j))])
      (fun j=>[.box [.d (dm k.tiles),.d (jV k.pads)],.row (q.length+5+j) 1 true ((q++t1::t2 ++ [lQ t3]++t4.take j).map (D.int .u8))]) (fun j=>j<=8) (fun j=>8-j) [] [] 1000 1000 ?_ ?_
     ·simp only[go_sem,seval];exact⟨0,by omega,by simp⟩
     ·intro j hj;by_cases hlj:j<8
      ·have htk:=eh (l:=t4) (j:=j) (by omega);have hsj:=hs4 j (by omega);simp only[fB,decide_eq_true_eq] at hsj;generalize hv9:t4.getD j 0=v at *
       have htl:(t4.take j).length=j:=by rw[iy];omega
       have hm9:v%256=v:=by omega
       simp only[go_sem,seval,hv9,hs2,hs1,htl,hm9]
       repeat' first|simp (disch:=first|assumption|omega|simp;try omega) only[ag,aC];try simp only[go_sem,seval,hv9,hs2,hs1,htl,hm9]|(with_reducible first|apply aa|intro)|(try rw[ae]);omega
       ·refine⟨j+1,by omega,by omega,⟨by omega,rfl⟩,by omega,?_⟩;rw[htk];simp
      ·obtain rfl:j=8:=by omega
       have htl:t4.take 8=t4:=ag (by omega);simp only[go_sem,seval,hs2,htl]
       repeat' first|simp (disch:=first|assumption|omega|simp;try omega) only[ag,aC];try simp only[go_sem,seval,hs2,htl]|(with_reducible first|apply aa|intro)|(try rw[ae]);omega
       refine⟨i+1,by omega,by omega,⟨?_,rfl⟩,?_,?_⟩
       ·rw[hqs];simp[gL];omega
       ·rw[hqs];simp[gL];omega
       ·rw[hqs];simp[gL]
  ·obtain rfl:i=25:=by omega
   have hql:=BU (l:=k.tiles) (fun j hj=>aG.cA hk (by omega)) 25;have hpl:=hk.2.1.1;have hqb:=Gq hk;have hcd:dV k=(gv k.tiles 25++iU k.pads 3) ++ [dF (gv k.tiles 25++iU k.pads 3)/256%256,dF (gv k.tiles 25++iU k.pads 3)%256]:=by
    unfold dV;rw[hla,hpl]
   have hpt:=fun j (hj:j<3)=>hk.2.1.2 j (by omega)
   generalize gv k.tiles 25=q at *
   simp only[go_sem,seval]
   repeat' first|simp (disch:=first|assumption|omega|simp;try omega) only[ag,aC];try simp only[go_sem,seval]|(with_reducible first|apply aa|intro)|(try rw[ae]);omega
   refine cD (σ:=Nat) (fun j=>[(3,.sl 1 (q.length+j) 1 0 (q.length+2*j)),(63,.d (jV k.pads)),(64,.d (dI k.pads.length)),(65,.d (dI j))])
    (fun j=>[.box [.d (dm k.tiles),.d (jV k.pads)],.row (q.length+j) 1 true ((q++iU k.pads j).map (D.int .u8))]) (fun j=>j<=3) (fun j=>3-j) [] [] 1000 1000 ?_ ?_
   ·simp only[go_sem,seval];exact⟨0,by omega,by simp[iU]⟩
   ·intro j hj;have hel:=CK (l:=k.pads) (n:=j) (by omega);by_cases hlj:j<3
    ·have hes:=GQ (l:=k.pads) (n:=j) (by omega);have gy:=bw (z:=D.agg [D.int .i64 0,.bool false]) (show j<k.pads.length by omega);have hsj:=hpt j hlj;have hfl:=r7 (k.pads.getD j (0,false)).2;generalize k.pads.getD j (0,false)=p at *
     obtain⟨p1,p2⟩:=p;simp only[ji,nM,gO,decide_eq_true_eq] at hsj;have hm9:p1%256=p1:=by omega
     simp only[go_sem,seval,gy,hpl,hel,hm9]
     repeat' first|simp (disch:=first|assumption|omega|simp;try omega) only[ag,aC];try simp only[go_sem,seval,gy,hpl,hel,hm9]|(with_reducible first|apply aa|intro)|(try rw[ae]);omega
     refine co (n:=0) [8] (ax [0,1,4,2,3,5] (.one 6 (.one 7 (.one 8 (.fst 9 .done))))) ?_;simp only[go_sem,seval,gy,hpl,hel,hm9]
     repeat' first|simp (disch:=first|assumption|omega|simp;try omega) only[ag,aC];try simp only[go_sem,seval,gy,hpl,hel,hm9]|(with_reducible first|apply aa|intro)|(refine az hfl ?_;simp only[go_sem,seval,gy,hpl,hel,hm9])|(try rw[ae]);omega
     exact⟨j+1,by omega,by omega,⟨⟨by omega,by omega⟩,rfl⟩,by omega,by rw[hes];simp⟩
    ·obtain rfl:j=3:=by omega
     have hbd : ∀ x∈q++iU k.pads 3,0<=x/\x<=255:=fun x hx=>by
      rcases List.mem_append.1 hx with h|h
      ·exact hqb x h
      ·exact Gz hk x h
     have hck:=n4 (q++iU k.pads 3) hbd (by simp[hel];omega);have hsb:=CQ (q++iU k.pads 3) (q++iU k.pads 3).length;rw[ig] at hsb;simp only[go_sem,seval,hpl,hel]
     repeat' first|simp (disch:=first|assumption|omega|simp;try omega) only[ag,aC];try simp only[go_sem,seval,hpl,hel]|(with_reducible first|apply aa|intro)|(refine az hck ?_;simp only[go_sem,seval,hpl,hel])|(try rw[ae]);omega
     rw[hcd];simp

def L3 {α : Type}{f : α->ZA}{n:Nat} : ∀ {l:List α},(∀ x∈l,(f x).length=n)->(l.flatMap f).length=n*l.length
 | [],_=>rfl
 | x::l,h=>by
  rw[l7,b8,h x (kE ..),L3 fun y hy=>h y (fX _ hy),eD,Nat.mul_succ];omega
def DI {α : Type}{f : α->ZA}{n:Nat}(z : α) : ∀ {l:List α},(∀ x∈l,(f x).length=n)->∀ {i j:Nat},i<l.length->j<n->(l.flatMap f).getD (n*i+j) 0=(f (l.getD i z)).getD j 0
 | [],_,i,j,hi,_=>by simp at hi
 | x::l,h,0,j,_,hj=>by
  have hx:=h x (kE ..);rw[l7,Nat.mul_zero,lN,cW (by omega)];rfl
 | x::l,h,i+1,j,hi,hj=>by
  have hx:=h x (kE ..);have ih:=DI z (fun y hy=>h y (fX _ hy)) (i:=i) (j:=j) (by simpa using hi) hj;rw[l7,List.getD_eq_getElem?_getD,List.getElem?_append_right (by rw[hx,Nat.mul_succ];omega),hx,show n*(i+1)+j-n=n*i+j by rw[Nat.mul_succ];omega,<-List.getD_eq_getElem?_getD,ih];rfl
def RQ {t:ar}(h:t.select.length=3/\t.drive.length=8):(gL t).length=13:=by
 simp[gL,h.1,h.2]
def KK (hk:k.ok) : ∀ t∈k.tiles,(gL t).length=13:=fun t ht=>by
 obtain⟨i,hi,rfl⟩:=gm ba ht;exact RQ (aG.cA hk (by have:=hk.1;omega))
def D1 (hk:k.ok):(gv k.tiles 25).length=325:=by
 unfold gv;rw[ag (by have:=hk.1;omega),L3 (KK hk),hk.1]
def BF (hk:k.ok):dV k=(gv k.tiles 25++iU k.pads 3) ++ [dF (gv k.tiles 25++iU k.pads 3)/256%256,dF (gv k.tiles 25++iU k.pads 3)%256]:=by
 unfold dV;rw[hk.1,hk.2.1.1]
def RB (hk:k.ok):(dV k).length=333:=by
 rw[BF hk,b8,b8,D1 hk,CK (by have:=hk.2.1.1;omega)];rfl
def RG (hk:k.ok) (hi:i<25) (hj:j<13):(dV k).getD (13*i+j) 0=(gL (k.tiles.getD i ba)).getD j 0:=by
 rw[BF hk,fA,cW (by rw[D1 hk];omega),gv,ag (by have:=hk.1;omega)];exact DI ba (KK hk) (by have:=hk.1;omega) hj
def IW (hk:k.ok) (ho:o<3) (hj:j<2):(dV k).getD (325+(2*o+j)) 0=[(k.pads.getD o (0,false)).1,lQ (k.pads.getD o (0,false)).2].getD j 0:=by
 have hl:=D1 hk;have hp:=hk.2.1.1;rw[BF hk,cW (by rw[b8,hl,CK (by omega)];omega),List.getD_eq_getElem?_getD,List.getElem?_append_right (by omega),hl,show 325+(2*o+j)-325=2*o+j by omega,<-List.getD_eq_getElem?_getD,iU,ag (by omega)];exact DI (f:=fun p:Int×Bool=>[p.1,lQ p.2]) (0,false) (fun _ _=>rfl) (by omega) hj
def rT (l:ZA) (a:Nat):ZA:=[l.getD a 0,l.getD (a+1) 0,l.getD (a+2) 0]
def rc (l:ZA) (a:Nat):ZA:=[l.getD a 0,l.getD (a+1) 0,l.getD (a+2) 0,l.getD (a+3) 0,l.getD (a+4) 0,l.getD (a+5) 0,l.getD (a+6) 0,l.getD (a+7) 0]
def BC (h:l.length=3):l=rT l 0:=by
 match l,h with
 | [a,b,c],_=>rfl
def A3 (h:l.length=8):l=rc l 0:=by
 match l,h with
 | [a,b,c,d,e,f,g,i],_=>rfl
def Le (b:Bool):decide (lQ b=1)=b:=by cases b <;> rfl
def x8 (l:ZA) (i:Nat):ar:=⟨l.getD (13*i) 0,rT l (13*i+1),decide (l.getD (13*i+4) 0=1),rc l (13*i+5)⟩
def yk (l:ZA) (o:Nat):Int×Bool:=(l.getD (325+2*o) 0,decide (l.getD (325+2*o+1) 0=1))
def ux (hk:k.ok) (hi:i<25):x8 (dV k) i=k.tiles.getD i ba:=by
 obtain⟨s1,s2⟩:=aG.cA hk hi;have h:=fun j (hj:j<13)=>RG hk hi hj
 generalize k.tiles.getD i ba=t at *
 obtain⟨t1,t2,t3,t4⟩:=t;simp only at s1 s2;have e2:=BC s1;have e4:=A3 s2;unfold x8 rT rc;rw[show 13*i=13*i+0 from rfl];simp only[ja,Nat.reduceAdd,lL];have h0:=h 0 (by omega);rw[lL] at h0;rw[h0,h 1 (by omega),h 2 (by omega),h 3 (by omega),h 4 (by omega),h 5 (by omega),h 6 (by omega),h 7 (by omega),h 8 (by omega),h 9 (by omega),h 10 (by omega),h 11 (by omega),h 12 (by omega)];rw[e2,e4];unfold gL rT rc;simp only[vI,List.nil_append,wK,List.getD_cons_succ];rw[Le]
def uU (hk:k.ok) (ho:o<3):yk (dV k) o=k.pads.getD o (0,false):=by
 have h0:=IW hk ho (j:=0) (by omega);have h1:=IW hk ho (j:=1) (by omega);unfold yk;rw[ja,h1,show 325+2*o=325+(2*o+0) from rfl,h0];simp only[wK,List.getD_cons_succ];rw[Le]
def DR (hk:k.ok) : ∀ x∈dV k,0<=x/\x<=255:=fun x hx=>by
 rw[BF hk] at hx;rcases List.mem_append.1 hx with h|h
 ·rcases List.mem_append.1 h with h|h
  ·exact Gq hk x h
  ·exact Gz hk x h
 ·simp only[jY,List.mem_nil_iff,or_false] at h;rcases h with rfl|rfl <;> omega

def Tryz.oQ (b:Bool):Pure prog 153 [dB b] (dI (lQ b)):=by
 refine bz func153 rfl ntmps153 fun ok=>?_
 simp only[go_sem,seval] at ok⊢;cases b <;> simp[lQ]
def Tryz.tP (l:ZA) (hl : ∀ x∈l,0<=x/\x<=255) (hn:l.length<=1000000):Pure prog 154 [lk l] (dI (dF l)):=by
 refine bz func154 rfl ntmps154 fun ok=>?_
 simp only[go_sem,seval] at ok⊢
 repeat' first|simp (disch:=first|assumption|omega|simp;try omega) only[ag,aC];try simp only[go_sem,seval]|(with_reducible first|apply aa|intro)|(try rw[ae]);omega
 refine cQ (σ:=Nat) (fun i=>[(0,.d (lk l)),(3,.d (dI (dF (l.take i)))),(4,.d (dI i))]) (fun _=>[]) (fun i=>i<=l.length) (fun i=>l.length-i) [] 1000 1000 ?_ ?_ ?_
 ·simp only[go_sem,seval]
 ·simp only[go_sem,seval];exact⟨0,by omega,rfl,rfl⟩
 ·intro i hi;have hs:=CQ l i;by_cases hlt:i<l.length
  ·have hb:=hl _ (aO hlt:l.getD i 0∈l);have hss:=LM l hlt;generalize dF (l.take i)=s at *
   generalize hb9:l.getD i 0=b at *
   simp only[go_sem,seval,hb9]
   repeat' first|simp (disch:=first|assumption|omega|simp;try omega) only[ag,aC];try simp only[go_sem,seval,hb9]|(with_reducible first|apply aa|intro)|(try rw[ae]);omega
   all_goals first|(rw[ae];omega)|skip
   refine⟨i+1,by omega,by omega,?_,rfl⟩;rw[hss]
  ·obtain rfl:i=l.length:=by omega
   simp only[go_sem,seval]
   repeat' first|simp (disch:=first|assumption|omega|simp;try omega) only[ag,aC];try simp only[go_sem,seval]|(with_reducible first|apply aa|intro)|(try rw[ae]);omega
def Tryz.jk (k:aG) (hk:k.ok):Pure prog 86 [dK k] (lk (dV k)):=by
 have hc:=jW k;refine bz func86 rfl ntmps86 fun ok=>?_
 simp only[go_sem,seval] at ok⊢
 repeat' first|simp (disch:=first|assumption|omega|simp;try omega) only[ag,aC];try simp only[go_sem,seval]|(with_reducible first|apply aa|intro)|(refine az hc ?_;simp only[go_sem,seval])|(try rw[ae]);omega
 ·rename_i h;exact absurd hk (by simpa using h)
 have hla:k.tiles.length=25:=hk.1;have hpl:=hk.2.1.1;refine cD (σ:=Nat) (fun i=>[(1,.ptr 0 0),(3,.sl 1 (gv k.tiles i).length 1 0 (gv k.tiles i).length),(4,.d (dI i))])
  (fun i=>[.box [.d (dm k.tiles),.d (jV k.pads)],.row (gv k.tiles i).length 1 true ((gv k.tiles i).map (D.int .u8))]) (fun i=>i<=25) (fun i=>25-i) [] [] 1000 1000 ?_ ?_
 ·simp only[go_sem,seval];exact⟨0,by omega,by simp[gv]⟩
 ·intro i hi;by_cases hlt:i<25
  ·have hqs:=J9 (l:=k.tiles) (n:=i) (by omega);have hql:=BU (l:=k.tiles) (fun j hj=>aG.cA hk (by omega)) i;have hto:=ar.b6.1 (hk.2.2 i (by omega));have gx:=cE (z:=D.agg [D.int .i64 0,.nil,.bool false,.nil]) (show i<k.tiles.length by omega);have hfl:=oQ (k.tiles.getD i ba).gj;generalize gv k.tiles i=q at *
   generalize k.tiles.getD i ba=t at *
   obtain⟨t1,t2,t3,t4⟩:=t;obtain⟨⟨ht1,ht2⟩,hs1,hs2,hs3,hs4⟩:=hto;simp only at ht1 ht2 hs1 hs2 hs3 hs4 hfl;have hm1:t1%256=t1:=by omega
   simp only[go_sem,seval,gx,hla,hm1]
   repeat' first|simp (disch:=first|assumption|omega|simp;try omega) only[ag,aC];try simp only[go_sem,seval,gx,hla,hm1]|(with_reducible first|apply aa|intro)|(try rw[ae]);omega
   refine cD (σ:=Nat) (fun j=>[(1,.ptr 0 0),(3,.sl 1 (q++t1::t2.take j).length 1 0 (q++t1::t2.take j).length),(4,.d (dI i)),(5,.ptr 2 0),(6,.d (dI j))])
    (fun j=>[.box [.d (dm k.tiles),.d (jV k.pads)],.row (q++t1::t2.take j).length 1 true ((q++t1::t2.take j).map (D.int .u8)),.box [.d (dI t1),.d (aj t2),.d (dB t3),.d (aj t4)]]) (fun j=>j<=3) (fun j=>3-j) [] [] 1000 1000 ?_ ?_
   ·simp only[go_sem,seval];exact⟨0,by omega,by simp⟩
   ·intro j hj;by_cases hlj:j<3
    ·have htk:=eh (l:=t2) (j:=j) (by omega);have hsj:=hs3 j (by omega);simp only[ji,nM,gO,decide_eq_true_eq] at hsj;generalize hv9:t2.getD j 0=v at *
     have hm9:v%256=v:=by omega
     simp only[go_sem,seval,hv9,hs1,hm9]
     repeat' first|simp (disch:=first|assumption|omega|simp;try omega) only[ag,aC];try simp only[go_sem,seval,hv9,hs1,hm9]|(with_reducible first|apply aa|intro)|(try rw[ae]);omega
     ·have:(t2.take j).length<=3:=by rw[iy];omega
      omega
     ·have e1:(t2.take j).length=j:=by rw[iy];omega
      have e2:(t2.take (j+1)).length=j+1:=by rw[iy];omega
      refine⟨j+1,by omega,by omega,⟨by rw[e1,e2];omega,rfl⟩,by rw[e1,e2];omega,?_⟩;rw[htk];simp
    ·obtain rfl:j=3:=by omega
     have hb9:=Du t3;have hmb:lQ t3%256=lQ t3:=by omega
     simp only[go_sem,seval,hs1]
     repeat' first|simp (disch:=first|assumption|omega|simp;try omega) only[ag,aC];try simp only[go_sem,seval,hs1,hmb]|(with_reducible first|apply aa|intro)|(refine az hfl ?_;simp only[go_sem,seval,hs1,hmb])|(try rw[ae]);omega
     refine cD (σ:=Nat) (fun j=>[(1,.ptr 0 0),(3,.sl 1 (q.length+5+j) 1 0 (q.length+5+j)),(4,.d (dI i)),(5,.ptr 2 0),(7,.d (dI j))])
      (fun j=>[.box [.d (dm k.tiles),.d (jV k.pads)],.row (q.length+5+j) 1 true ((q++t1::t2 ++ [lQ t3]++t4.take j).map (D.int .u8)),.box [.d (dI t1),.d (aj t2),.d (dB t3),.d (aj t4)]]) (fun j=>j<=8) (fun j=>8-j) [] [] 1000 1000 ?_ ?_
     ·simp only[go_sem,seval];exact⟨0,by omega,by simp⟩
     ·intro j hj;by_cases hlj:j<8
      ·have htk:=eh (l:=t4) (j:=j) (by omega);have hsj:=hs4 j (by omega);simp only[fB,decide_eq_true_eq] at hsj;generalize hv9:t4.getD j 0=v at *
       have htl:(t4.take j).length=j:=by rw[iy];omega
       have hm9:v%256=v:=by omega
       simp only[go_sem,seval,hv9,hs2,hs1,htl,hm9]
       repeat' first|simp (disch:=first|assumption|omega|simp;try omega) only[ag,aC];try simp only[go_sem,seval,hv9,hs2,hs1,htl,hm9]|(with_reducible first|apply aa|intro)|(try rw[ae]);omega
       refine⟨j+1,by omega,by omega,⟨by omega,rfl⟩,by omega,?_⟩;rw[htk];simp
      ·obtain rfl:j=8:=by omega
       have htl:t4.take 8=t4:=ag (by omega);simp only[go_sem,seval,hs2,htl]
       repeat' first|simp (disch:=first|assumption|omega|simp;try omega) only[ag,aC];try simp only[go_sem,seval,hs2,htl]|(with_reducible first|apply aa|intro)|(try rw[ae]);omega
       refine⟨i+1,by omega,by omega,⟨?_,rfl⟩,?_,?_⟩
       ·rw[hqs];simp[gL];omega
       ·rw[hqs];simp[gL];omega
       ·rw[hqs];simp[gL]
  ·obtain rfl:i=25:=by omega
   have hql:=BU (l:=k.tiles) (fun j hj=>aG.cA hk (by omega)) 25;have hqb:=Gq hk;have hcd:=BF hk;have hpt:=fun j (hj:j<3)=>hk.2.1.2 j (by omega)
   generalize gv k.tiles 25=q at *
   simp only[go_sem,seval]
   repeat' first|simp (disch:=first|assumption|omega|simp;try omega) only[ag,aC];try simp only[go_sem,seval]|(with_reducible first|apply aa|intro)|(try rw[ae]);omega
   refine cD (σ:=Nat) (fun j=>[(1,.ptr 0 0),(3,.sl 1 (q.length+j) 1 0 (q.length+2*j)),(8,.d (dI j))])
    (fun j=>[.box [.d (dm k.tiles),.d (jV k.pads)],.row (q.length+j) 1 true ((q++iU k.pads j).map (D.int .u8))]) (fun j=>j<=3) (fun j=>3-j) [] [] 1000 1000 ?_ ?_
   ·simp only[go_sem,seval];exact⟨0,by omega,by simp[iU]⟩
   ·intro j hj;have hel:=CK (l:=k.pads) (n:=j) (by omega);by_cases hlj:j<3
    ·have hes:=GQ (l:=k.pads) (n:=j) (by omega);have gy:=bw (z:=D.agg [D.int .i64 0,.bool false]) (show j<k.pads.length by omega);have hsj:=hpt j hlj;have hfl:=oQ (k.pads.getD j (0,false)).2;generalize k.pads.getD j (0,false)=p at *
     obtain⟨p1,p2⟩:=p;simp only[ji,nM,gO,decide_eq_true_eq] at hsj;have hm9:p1%256=p1:=by omega
     have hb9:=Du p2;have hmb:lQ p2%256=lQ p2:=by omega
     simp only[go_sem,seval,gy,hpl,hel,hm9]
     repeat' first|simp (disch:=first|assumption|omega|simp;try omega) only[ag,aC];try simp only[go_sem,seval,gy,hpl,hel,hm9]|(with_reducible first|apply aa|intro)|(try rw[ae]);omega
     refine co (n:=0) [17] (ax [0,1,3,8,10,2,4,5,6,7,9,11,12,13] (.one 14 (.fst 15 (.one 16 (.one 17 (.fst 18 .done)))))) ?_;simp only[go_sem,seval,gy,hpl,hel,hm9]
     repeat' first|simp (disch:=first|assumption|omega|simp;try omega) only[ag,aC];try simp only[go_sem,seval,gy,hpl,hel,hm9,hmb]|(with_reducible first|apply aa|intro)|(refine az hfl ?_;simp only[go_sem,seval,gy,hpl,hel,hm9,hmb])|(try rw[ae]);omega
     exact⟨j+1,by omega,by omega,⟨⟨by omega,by omega⟩,rfl⟩,by omega,by rw[hes];simp⟩
    ·obtain rfl:j=3:=by omega
     have hbd : ∀ x∈q++iU k.pads 3,0<=x/\x<=255:=fun x hx=>by
      rcases List.mem_append.1 hx with h|h
      ·exact hqb x h
      ·exact Gz hk x h
     have hck:=tP (q++iU k.pads 3) hbd (by simp[hel];omega);have hsb:=CQ (q++iU k.pads 3) (q++iU k.pads 3).length;rw[ig] at hsb;simp only[go_sem,seval,hpl,hel]
     repeat' first|simp (disch:=first|assumption|omega|simp;try omega) only[ag,aC];try simp only[go_sem,seval,hpl,hel]|(with_reducible first|apply aa|intro)|(refine az hck ?_;simp only[go_sem,seval,hpl,hel])|(try rw[ae]);omega
     rw[hcd];simp

noncomputable def ox (c:ac):Option ZA:=open Classical in if c.Valid then(jC (bL c) []).map dV else none
def Mm {c:ac}{list:List (Int×Int)}(h:jC c list=some k):k.ok:=by
 obtain⟨-,-,rs,R,-,rfl⟩:=LB h;exact R.ok
def Tryz.k9 (c:ac):Pure prog 26 [dC c] (.tup [lk ((ox c).getD []),dB (ox c).isSome]):=by
 classical
 have hcv:=aR c;have ho:=vD c;by_cases hv:c.Valid
 ·rw[decide_eq_true hv] at hcv;rw[if_pos hv] at ho;have hR:=iX (bL c);have e:ox c=(jC (bL c) []).map dV:=if_pos hv;rw[e];cases hA:jC (bL c) [] with
  | none=>
   rw[hA] at hR;rw[dh];refine l9 rfl 1000 func26 rfl rfl ntmps26 (by simp) fun ok=>?_
   simp only[go_sem,seval,-List.reduceReplicate] at ok;simp only[go_sem,seval,-List.reduceReplicate]
   repeat' first|simp (disch:=omega) only[];try simp only[go_sem,seval,-List.reduceReplicate]|(with_reducible first|apply aa|intro)|(refine az ho ?_;simp only[go_sem,seval,-List.reduceReplicate])|(refine az hR ?_;simp only[go_sem,seval,-List.reduceReplicate])|(refine iu (x:=.nil) (fun h=>by cases h) ?_;simp only[go_sem,seval,-List.reduceReplicate])|(try rw[ae]);omega
   all_goals first|rfl|simp[gP,jM,gF,kz]
  | some k=>
   rw[hA] at hR;have hE:=fE k;rw[if_pos (Mm hA)] at hE;rw[dE];refine l9 rfl 1000 func26 rfl rfl ntmps26 (by simp) fun ok=>?_
   simp only[go_sem,seval,-List.reduceReplicate] at ok;simp only[go_sem,seval,-List.reduceReplicate]
   repeat' first|simp (disch:=omega) only[];try simp only[go_sem,seval,-List.reduceReplicate]|(with_reducible first|apply aa|intro)|(refine az ho ?_;simp only[go_sem,seval,-List.reduceReplicate])|(refine az hR ?_;simp only[go_sem,seval,-List.reduceReplicate])|(refine iu (fun _=>hcv) ?_;simp only[go_sem,seval,-List.reduceReplicate])|(refine me hE ?_;simp only[go_sem,seval,-List.reduceReplicate])|(try rw[ae]);omega
   all_goals first|rfl|simp[gP,jM,gF,kz]
 ·rw[decide_eq_false hv] at hcv;rw[if_neg hv] at ho;have hR:=iX ac.zero;generalize (jC ac.zero []).isSome=b at *
  generalize (jC ac.zero []).getD kz=k at *
  have e:ox c=none:=if_neg hv;rw[e];cases b with
  | false=>
   refine l9 rfl 1000 func26 rfl rfl ntmps26 (by simp) fun ok=>?_
   simp only[go_sem,seval,-List.reduceReplicate] at ok;simp only[go_sem,seval,-List.reduceReplicate]
   repeat' first|simp (disch:=omega) only[];try simp only[go_sem,seval,-List.reduceReplicate]|(with_reducible first|apply aa|intro)|(refine az ho ?_;simp only[go_sem,seval,-List.reduceReplicate])|(refine az hR ?_;simp only[go_sem,seval,-List.reduceReplicate])|(refine iu (x:=.nil) (fun h=>by cases h) ?_;simp only[go_sem,seval,-List.reduceReplicate])|(try rw[ae]);omega
   all_goals first|rfl|simp[gP,jM,gF,kz]
  | true=>
   refine l9 rfl 1000 func26 rfl rfl ntmps26 (by simp) fun ok=>?_
   simp only[go_sem,seval,-List.reduceReplicate] at ok;simp only[go_sem,seval,-List.reduceReplicate]
   repeat' first|simp (disch:=omega) only[];try simp only[go_sem,seval,-List.reduceReplicate]|(with_reducible first|apply aa|intro)|(refine az ho ?_;simp only[go_sem,seval,-List.reduceReplicate])|(refine az hR ?_;simp only[go_sem,seval,-List.reduceReplicate])|(refine iu (fun _=>hcv) ?_;simp only[go_sem,seval,-List.reduceReplicate])|(try rw[ae]);omega
   all_goals first|rfl|simp[gP,jM,gF,kz]
def Tryz.nT (c:ac):Pure prog 24 [dC c] (.tup [lk ((ox c).getD []),dB (ox c).isSome]):=by
 classical
 have hcv:=cX c;by_cases hv:c.Valid
 ·rw[decide_eq_true hv] at hcv;have ho:=mK c hv (sx hv);have hR:=lG (bL c);rw[<-PF] at hR;have e:ox c=(jC (bL c) []).map dV:=if_pos hv;rw[e];cases hA:jC (bL c) [] with
  | none=>
   rw[hA] at hR;rw[dh];refine l9 rfl 1000 func24 rfl rfl ntmps24 (by simp) fun ok=>?_
   simp only[go_sem,seval,-List.reduceReplicate] at ok;simp only[go_sem,seval,-List.reduceReplicate]
   repeat' first|simp (disch:=omega) only[];try simp only[go_sem,seval,-List.reduceReplicate]|(with_reducible first|apply aa|intro)|(refine az hcv ?_;simp only[go_sem,seval,-List.reduceReplicate])|(refine kN ho ?_;simp only[go_sem,seval,-List.reduceReplicate])|(refine az hR ?_;simp only[go_sem,seval,-List.reduceReplicate])|(try rw[ae]);omega
   all_goals first|rfl|simp[gP,jM,gF,kz]
  | some k=>
   rw[hA] at hR;have hE:=jk k (Mm hA);rw[dE];refine l9 rfl 1000 func24 rfl rfl ntmps24 (by simp) fun ok=>?_
   simp only[go_sem,seval,-List.reduceReplicate] at ok;simp only[go_sem,seval,-List.reduceReplicate]
   repeat' first|simp (disch:=omega) only[];try simp only[go_sem,seval,-List.reduceReplicate]|(with_reducible first|apply aa|intro)|(refine az hcv ?_;simp only[go_sem,seval,-List.reduceReplicate])|(refine kN ho ?_;simp only[go_sem,seval,-List.reduceReplicate])|(refine az hR ?_;simp only[go_sem,seval,-List.reduceReplicate])|(refine me hE ?_;simp only[go_sem,seval,-List.reduceReplicate])|(try rw[ae]);omega
   all_goals first|rfl|simp[gP,jM,gF,kz]
 ·rw[decide_eq_false hv] at hcv;have e:ox c=none:=if_neg hv;rw[e];refine l9 rfl 1000 func24 rfl rfl ntmps24 (by simp) fun ok=>?_
  simp only[go_sem,seval,-List.reduceReplicate] at ok;simp only[go_sem,seval,-List.reduceReplicate]
  repeat' first|simp (disch:=omega) only[];try simp only[go_sem,seval,-List.reduceReplicate]|(with_reducible first|apply aa|intro)|(refine az hcv ?_;simp only[go_sem,seval,-List.reduceReplicate])|(try rw[ae]);omega
  all_goals first|rfl|simp[gP,jM,gF,kz]

@[go_sem] def zry {T:Nat->Option TI}{H:ZF}{op:BinOp}{a b:ByteArray}{sz bt:Nat}{z:D}:ou T H op (.d (.raw (.string a))) (.d (.raw (.string b))) (some ⟨.string,sz,bt,z⟩)=C7 a b op:=rfl
def Li (bs:ByteArray) : ∀ (n i:Nat) (r:List UInt8),n=bs.size-i->ByteArray.toList.loop bs i r=r.reverse++bs.data.toList.drop i
 | n,i,r,h=>by
  unfold ByteArray.toList.loop;split
  ·rename_i h1;have h1':i<bs.data.size:=h1;have h2:i<bs.data.toList.length:=by rw[Array.length_toList];exact h1'
   rw[Li bs (n-1) (i+1) _ (by omega),List.reverse_cons,fA,qk h2];have e:bs.get! i=bs.data.toList[i]'h2:=by
    show bs.data[i]! = _
    rw[getElem!_pos bs.data i h1',Array.getElem_toList]
   rw[e];rfl
  ·rename_i h1;have h1' : ¬ i<bs.data.size:=h1;rw[sj (by rw[Array.length_toList];omega),jq]
def Su (bs:ByteArray):bs.toList=bs.data.toList:=by
 show ByteArray.toList.loop bs 0 []=_
 rw[Li bs _ 0 [] rfl];simp
def M8 : ∀ (l:ZA) (r:ByteArray),(l.foldl (fun r n=>r.push (UInt8.ofNat n.toNat)) r).data.toList=r.data.toList++l.map fun n=>UInt8.ofNat n.toNat
 | [],r=>by simp
 | x::l,r=>by rw[e6,M8 l,ByteArray.data_push,Array.toList_push,fA];rfl
def HE (l:ZA):(ku l).toList=l.map fun n=>UInt8.ofNat n.toNat:=by rw[Su,ku,M8];rfl
def MX : ∀ {l m:ZA},(∀ x∈l,0<=x/\x<=255)->(∀ x∈m,0<=x/\x<=255)->(l.map fun n=>UInt8.ofNat n.toNat)=(m.map fun n=>UInt8.ofNat n.toNat)->l=m
 | [],[],_,_,_=>rfl
 | [],y::m,_,_,h=>by simp at h
 | x::l,[],_,_,h=>by simp at h
 | x::l,y::m,hl,hm,h=>by
  rw[js,js,List.cons.injEq] at h;have h1:=hl x (kE ..);have h2:=hm y (kE ..);have h3:=congrArg UInt8.toNat h.1;rw[UInt8.toNat_ofNat',UInt8.toNat_ofNat'] at h3;rw[MX (fun z hz=>hl z (fX _ hz)) (fun z hz=>hm z (fX _ hz)) h.2,show x=y by omega]
def rr {m:ZA}(hl : ∀ x∈l,0<=x/\x<=255) (hm : ∀ x∈m,0<=x/\x<=255):((ku l).toList == (ku m).toList)=decide (l=m):=by
 rw[HE,HE];by_cases h:l=m
 ·subst h;simp
 ·rw[decide_eq_false h,beq_eq_false_iff_ne];exact fun h2=>h (MX hl hm h2)
def Tryz.lM (l m:ZA) (hl : ∀ x∈l,0<=x/\x<=255) (hm : ∀ x∈m,0<=x/\x<=255):Pure prog 168 [lk l,lk m] (.bool (decide (l=m))):=by
 have hs:=rr hl hm;refine bz func168 rfl ntmps168 fun ok=>?_
 simp only[go_sem,seval] at ok;simp only[go_sem,seval,hs]
 repeat' first|simp (disch:=omega) only[];try simp only[go_sem,seval,hs]|(with_reducible first|apply aa|intro)|(try rw[ae]);omega

abbrev qm (l:ZA):R:=.box [.d (lk l),.d (dB false)]
def nk (h:i<l.length):l.drop i=l.getD i 0::l.drop (i+1):=by
 rw[qk h];simp[List.getD,h]
def Tryz.jz (x:Int) (l:ZA) (hx:0<=x/\x<=255):aA prog 165 [.ptr 0 0] [qm (x::l)] (fun r H'=>r=.d (dI x)/\H'=[qm l]):=by
 refine i9 rfl 1000 func165 rfl rfl ntmps165 (by simp) ?_;simp only[go_sem,seval]
 repeat' first|simp (disch:=first|assumption|omega|simp;try omega) only[ag];try simp only[go_sem,seval]|(with_reducible first|apply aa|intro)|(try rw[ae]);omega
 refine fI (r0:=.d (dI x)) (H1:=[qm l]) ?_ ⟨rfl,rfl⟩;simp only[go_sem,seval]
def Tryz.oU (x:Int) (l:ZA) (hx:0<=x/\x<=255):aA prog 167 [.ptr 0 0] [qm (x::l)] (fun r H'=>r=.d (dB (decide (x=1)))/\H'=[qm l]):=by
 refine i9 rfl 1000 func167 rfl rfl ntmps167 (by simp) ?_;simp only[go_sem,seval]
 repeat' first|simp (disch:=first|assumption|omega|simp;try omega) only[ag];try simp only[go_sem,seval]|(with_reducible first|apply aa|intro)|(try rw[ae]);omega
 refine c7 (jz x l hx) [0] (by simp only[go_sem,seval]) ?_;rintro r0 H1 ⟨rfl,rfl⟩;simp only[go_sem,seval];refine fI (r0:=.d (dB (decide (x=1)))) (H1:=[qm l]) ?_ ⟨rfl,rfl⟩;simp only[go_sem,seval]
def Tryz.oL (n:Nat) (l:ZA) (hn:n<=100) (hl:n<=l.length) (hx : ∀ x∈l,0<=x/\x<=255):aA prog 166 [.ptr 0 0,.d (dI n)] [qm l] (fun r H'=>r=.d (aj (l.take n))/\H'=[qm (l.drop n)]):=by
 refine i9 rfl 1000 func166 rfl rfl ntmps166 (by simp) ?_;simp only[go_sem,seval]
 repeat' first|simp (disch:=first|assumption|omega|simp;try omega) only[ag];try simp only[go_sem,seval]|(with_reducible first|apply aa|intro)|(try rw[ae]);omega
 refine pA (σ:=Nat) (fun i=>[(0,.ptr 0 0),(5,.sl 1 i 1 0 i),(8,.d (dI n)),(9,.d (dI i))]) (fun i=>[qm (l.drop i),.row i 1 true ((l.take i).map (D.int .i64))]) (fun i=>i<=n) (fun i=>n-i) [] 1000 1000 ?_ ?_ ?_
 ·simp only[go_sem,seval]
 ·simp only[go_sem,seval];exact⟨0,by omega,⟨rfl,rfl⟩,by simp⟩
 ·intro i hi;have htl:(l.take i).length=i:=by rw[iy];omega
  by_cases hlt:i<n
  ·have htk:=eh (l:=l) (j:=i) (by omega);have hb:=hx _ (aO (show i<l.length by omega):l.getD i 0∈l);have hdr:=nk (l:=l) (i:=i) (by omega);generalize hx9:l.getD i 0=x at *
   simp only[go_sem,seval,htl]
   repeat' first|simp (disch:=first|assumption|omega|simp;try omega) only[ag];try simp only[go_sem,seval,htl]|(with_reducible first|apply aa|intro)|(try rw[ae]);omega
   rw[hdr];refine c7 (jz x (l.drop (i+1)) hb) [0] (by simp only[go_sem,seval]) ?_;rintro r0 H1 ⟨rfl,rfl⟩;simp only[go_sem,seval,htl]
   repeat' first|simp (disch:=first|assumption|omega|simp;try omega) only[ag];try simp only[go_sem,seval,htl]|(with_reducible first|apply aa|intro)|(try rw[ae]);omega
   exact⟨i+1,by omega,by omega,rfl,by rw[htk];simp⟩
  ·obtain rfl:i=n:=by omega
   simp only[go_sem,seval,htl]
   repeat' first|simp (disch:=first|assumption|omega|simp;try omega) only[ag];try simp only[go_sem,seval,htl]|(with_reducible first|apply aa|intro)|(try rw[ae]);omega
   refine fI (r0:=.d (aj (l.take i))) (H1:=[qm (l.drop i)]) ?_ ⟨rfl,rfl⟩;simp only[go_sem,seval];rw[List.take_take,Nat.min_self]
def A5 {a:Nat}(h:a+3<=l.length):(l.drop a).take 3=rT l a:=by
 rw[nk (show a<l.length by omega),nk (show a+1<l.length by omega),nk (show a+1+1<l.length by omega)];rfl
def AC {a:Nat}(h:a+8<=l.length):(l.drop a).take 8=rc l a:=by
 rw[nk (show a<l.length by omega),nk (show a+1<l.length by omega),nk (show a+1+1<l.length by omega),nk (show a+1+1+1<l.length by omega),nk (show a+1+1+1+1<l.length by omega),nk (show a+1+1+1+1+1<l.length by omega),nk (show a+1+1+1+1+1+1<l.length by omega),nk (show a+1+1+1+1+1+1+1<l.length by omega)];rfl
def BL {l:List ar}(h:j<l.length):l.take (j+1)=l.take j ++ [l.getD j ba]:=by
 rw[la h];simp[List.getD,h]
def AY {l:List (Int×Bool)}(h:j<l.length):l.take (j+1)=l.take j ++ [l.getD j (0,false)]:=by
 rw[la h];simp[List.getD,h]
def Tryz.kp (k:aG) (hk:k.ok):bk prog 96 [lk (dV k)] (.tup [dK k,dB true]):=by
 have hE:=fE k;rw[if_pos hk] at hE;have hlen:=RB hk;have hbd:=DR hk;have hT:=fun i (hi:i<25)=>ux hk hi
 have hP:=fun o (ho:o<3)=>uU hk ho
 have h25:=hk.1;have h3:=hk.2.1.1;generalize dV k=l at *
 have hx:=fun a (ha:a<333)=>hbd _ (aO (show a<l.length by omega):l.getD a 0∈l)
 have hxd:=fun a (x:Int) (h:x∈l.drop a)=>hbd x (o6 h)
 refine wD rfl 1000 func96 rfl rfl ntmps96 (by simp) fun ok=>?_
 simp only[go_sem,seval] at ok⊢
 repeat' first|simp (disch:=first|assumption|omega|simp;try omega) only[ag];try simp only[go_sem,seval]|(with_reducible first|apply aa|intro)|(try rw[ae]);omega
 refine zO (σ:=Nat) (fun i=>[(0,.d (lk l)),(2,.ptr 0 0),(4,.ptr 1 0),(5,.ptr 2 0),(11,.d (dI i))])
  (fun i=>[.box [.d .nil,.d .nil],qm (l.drop (13*i)),.box [.sl 3 i 4 0 i,.d .nil],.row i 4 false ((k.tiles.take i).map fun x=>fO x)])
  (fun i=>i<=25) (fun i=>25-i) [(2,0,4,false)] [] 1000 1000 ?_ ?_ ?_ ?_
 ·simp only[go_sem,seval]
 ·simp only[go_sem,seval]
 ·simp only[go_sem,seval];exact⟨0,by omega,rfl,rfl,rfl,rfl,rfl⟩
 ·intro i hi;have htl:(k.tiles.take i).length=i:=by rw[iy];omega
  by_cases hlt:i<25
  ·have htk:=BL (l:=k.tiles) (j:=i) (by omega);rw[<-hT i hlt,x8] at htk;simp only[go_sem,seval,htl]
   repeat' first|simp (disch:=first|assumption|omega|simp;try omega) only[ag];try simp only[go_sem,seval,htl]|(with_reducible first|apply aa|intro)|(try rw[ae]);omega
   rw[nk (show 13*i<l.length by omega)];refine c7 (jz (l.getD (13*i) 0) (l.drop (13*i+1)) (hx _ (by omega))) [1] (by simp only[go_sem,seval]) ?_;rintro r0 H1 ⟨rfl,rfl⟩;simp only[go_sem,seval,htl]
   repeat' first|simp (disch:=first|assumption|omega|simp;try omega) only[ag];try simp only[go_sem,seval,htl]|(with_reducible first|apply aa|intro)|(try rw[ae]);omega
   have q3:=oL 3 (l.drop (13*i+1)) (by omega) (by rw[wl];omega) (hxd _);rw[A5 (by omega),List.drop_drop] at q3;refine c7 q3 [1] (by simp only[go_sem,seval]) ?_;rintro r0 H1 ⟨rfl,rfl⟩;simp only[go_sem,seval,htl]
   repeat' first|simp (disch:=first|assumption|omega|simp;try omega) only[ag];try simp only[go_sem,seval,htl]|(with_reducible first|apply aa|intro)|(try rw[ae]);omega
   rw[show 13*i+1+3=13*i+4 from rfl,nk (show 13*i+4<l.length by omega)];refine c7 (oU (l.getD (13*i+4) 0) (l.drop (13*i+4+1)) (hx _ (by omega))) [1] (by simp only[go_sem,seval]) ?_;rintro r0 H1 ⟨rfl,rfl⟩;simp only[go_sem,seval,htl]
   repeat' first|simp (disch:=first|assumption|omega|simp;try omega) only[ag];try simp only[go_sem,seval,htl]|(with_reducible first|apply aa|intro)|(try rw[ae]);omega
   have q8:=oL 8 (l.drop (13*i+5)) (by omega) (by rw[wl];omega) (hxd _);rw[AC (by omega),List.drop_drop] at q8;refine c7 q8 [1] (by simp only[go_sem,seval]) ?_;rintro r0 H1 ⟨rfl,rfl⟩;simp only[go_sem,seval,htl]
   repeat' first|simp (disch:=first|assumption|omega|simp;try omega) only[ag];try simp only[go_sem,seval,htl]|(with_reducible first|apply aa|intro)|(try rw[ae]);omega
   refine⟨i+1,by omega,by omega,rfl,by rw[show 13*i+5+8=13*(i+1) by omega],rfl,rfl,by rw[htk];simp⟩
  ·obtain rfl:i=25:=by omega
   simp only[go_sem,seval,htl]
   repeat' first|simp (disch:=first|assumption|omega|simp;try omega) only[ag];try simp only[go_sem,seval,htl]|(with_reducible first|apply aa|intro)|(try rw[ae]);omega
   have tk25:k.tiles.take 25=k.tiles:=ag (by omega);refine zO (σ:=Nat) (fun o=>[(0,.d (lk l)),(2,.ptr 0 0),(4,.ptr 1 0),(5,.ptr 2 0),(29,.d (dI o))])
    (fun o=>[.box [.d .nil,.d .nil],qm (l.drop (325+2*o)),.box [.sl 3 25 4 0 25,.sl 4 o 2 0 o],.row 25 4 false (k.tiles.map fun x=>fO x),.row o 2 true ((k.pads.take o).map fun x=>dQ x)])
    (fun o=>o<=3) (fun o=>3-o) [(2,1,2,true)] [] 1000 1000 ?_ ?_ ?_ ?_
   ·simp only[go_sem,seval]
   ·simp only[go_sem,seval]
   ·simp only[go_sem,seval];exact⟨0,by omega,rfl,rfl,rfl,rfl,rfl⟩
   ·intro o ho;have hpl:(k.pads.take o).length=o:=by rw[iy];omega
    by_cases hlo:o<3
    ·have hpk:=AY (l:=k.pads) (j:=o) (by omega);rw[<-hP o hlo,yk] at hpk;have hd1:=nk (show 325+2*o<l.length by omega);have hd2:=nk (show 325+2*o+1<l.length by omega);have cN:=jz (l.getD (325+2*o) 0) (l.drop (325+2*o+1)) (hx _ (by omega));have cF:=oU (l.getD (325+2*o+1) 0) (l.drop (325+2*o+1+1)) (hx _ (by omega));simp only[go_sem,seval,hpl,h25]
     repeat' first|simp (disch:=first|assumption|omega|simp;try omega) only[ag];try simp only[go_sem,seval,hpl,h25]|(with_reducible first|apply aa|intro)|(try rw[ae]);omega
     refine co (n:=0) [3,5,8,10] (ax [0,2,4] (.two 1 (.one 3 (.one 5 (.fst 6 (.one 7 (.one 8 (.fst 9 (.one 10 .done))))))) 3 (.two 1 (.one 5 (.fst 6 (.one 7 (.one 8 (.fst 9 (.one 10 .done)))))) 5 (.fst 6 (.two 1 (.one 7 (.one 8 (.fst 9 (.one 10 .done)))) 7 (.one 1 (.one 8 (.fst 9 (.one 10 .done))))))))) ?_;simp only[go_sem,seval,hpl,h25]
     repeat' first|simp (disch:=first|assumption|omega|simp;try omega) only[ag];try simp only[go_sem,seval,hpl,h25]|(with_reducible first|apply aa|intro)|(try rw[ae]);omega
     all_goals (
      rw[hd1];refine c7 cN [1] (by simp only[go_sem,seval]) ?_;rintro r0 H1 ⟨rfl,rfl⟩;simp only[go_sem,seval,hpl,h25]
      repeat' first|simp (disch:=first|assumption|omega|simp;try omega) only[ag];try simp only[go_sem,seval,hpl,h25]|(with_reducible first|apply aa|intro)|(try rw[ae]);omega)
     all_goals (
      rw[hd2];refine c7 cF [1] (by simp only[go_sem,seval]) ?_;rintro r0 H1 ⟨rfl,rfl⟩;simp only[go_sem,seval,hpl,h25]
      repeat' first|simp (disch:=first|assumption|omega|simp;try omega) only[ag];try simp only[go_sem,seval,hpl,h25]|(with_reducible first|apply aa|intro)|(try rw[ae]);omega)
     all_goals exact⟨o+1,by omega,by omega,rfl,by rw[show 325+2*o+1+1=325+2*(o+1) by omega],rfl,rfl,by rw[hpk];simp⟩
    ·obtain rfl:o=3:=by omega
     have tk3:k.pads.take 3=k.pads:=ag (by omega);have hbe:=lM l l hbd hbd;rw[decide_eq_true rfl] at hbe;simp only[go_sem,seval,hpl,h25]
     repeat' first|simp (disch:=first|assumption|omega|simp;try omega) only[ag];try simp only[go_sem,seval,hpl,h25]|(with_reducible first|apply aa|intro)|(refine iu (fun _=>hE) ?_;simp only[go_sem,seval,hpl,h25])|(refine iu (fun _=>hbe) ?_;simp only[go_sem,seval,hpl,h25])|(try rw[ae]);omega
     trace_state
end Go.Proofs
