/- Contracts, plain definitions and lemmas. Conditions: none; lemmas. -/
import Derived.Test.YteikeianenfhaaaGreatD8
import Derived.Test.YteikeianenfhaaaGreatC73
import Derived.Test.YteikeianenfhaaaGreatO1
import Derived.Test.YteikeianenfhaaaGreatC12
import Derived.Test.YteikeianenfhaaaGreatVM8
set_option maxRecDepth 20000
set_option linter.unusedVariables false
set_option linter.unusedSimpArgs false
set_option maxHeartbeats 2000000
set_option linter.defProp false
namespace Go.Proofs
open Go Go.VL Tryz
def wy (list:List (Int×Int)):Prop:=list.length<=12/\∀ d∈list,(0<=d.1/\d.1<=24)/\0<=d.2/\d.2<=7
def kB (list:List (Int×Int)):List ZB:=list.foldl (fun b d=>b.set d.2.toNat ((b.getD d.2.toNat []).set d.1.toNat true)) j5
def xQ (o:Option (List Rt)):D:=match o with
 | none=>.tup [.nil,dB false]
 | some rs=>.tup [iK rs,dB true]
noncomputable def u3 (c:ac) (place:ZA) (list:List (Int×Int)):Option (List Rt):=by
 classical exact if(c.Valid/\ay (aw c).length place)/\wy list then lp c (aw c) place (kB list) else none
def Tryz.jD (list:List (Int×Int)):bv list=true↔wy list:=by
 simp only[bv,cS,wy,gO,decide_eq_true_eq,l6]
def Hn (list:List (Int×Int)):(kB list).length=8:=by
 have key : ∀ (l:List (Int×Int)) (b:List ZB),(l.foldl (fun b d=>b.set d.2.toNat ((b.getD d.2.toNat []).set d.1.toNat true)) b).length=b.length:=by
  intro l;induction l with
  | nil=>exact fun b=>rfl
  | cons d l ih=>intro b;rw[e6,ih,gh]
 rw[kB,key];rfl
def K4 (list:List (Int×Int)) : ∀ u,u<8->((kB list).getD u []).length=25:=by
 have key : ∀ (l:List (Int×Int)) (b:List ZB),b.length=8->(∀ u,u<8->(b.getD u []).length=25)->∀ u,u<8->((l.foldl (fun b d=>b.set d.2.toNat ((b.getD d.2.toNat []).set d.1.toNat true)) b).getD u []).length=25:=by
  intro l;induction l with
  | nil=>exact fun b _ h=>h
  | cons d l ih=>
   intro b hb h;refine ih _ (by rw[gh];exact hb) fun u hu=>?_
   by_cases e:d.2.toNat=u
   ·subst e;have:(b.set d.2.toNat ((b.getD d.2.toNat []).set d.1.toNat true)).getD d.2.toNat []=(b.getD d.2.toNat []).set d.1.toNat true:=by simp[List.getD,show d.2.toNat<b.length by omega]
    rw[this,gh];exact h _ hu
   ·have:(b.set d.2.toNat ((b.getD d.2.toNat []).set d.1.toNat true)).getD u []=b.getD u []:=by simp[List.getD,List.getElem?_set,e]
    rw[this];exact h u hu
 exact key list j5 rfl jZ.row
def GO (list:List (Int×Int)):dz (kB list):=⟨Hn list,K4 list⟩
def PJ {list:List (Int×Int)}{i:Nat}(hi:i<list.length):kB (list.take (i+1))=(kB (list.take i)).set (list.getD i (0,0)).2.toNat (((kB (list.take i)).getD (list.getD i (0,0)).2.toNat []).set (list.getD i (0,0)).1.toNat true):=
 iH (f:=fun(b:List ZB) (d:Int×Int)=>b.set d.2.toNat ((b.getD d.2.toNat []).set d.1.toNat true)) (b:=j5) ((0,0):Int×Int) hi
def PD:fq j5=List.replicate 200 false:=by decide +kernel
def uI:bx (fq j5)=List.replicate 200 (I.d (.bool false)):=by rw[bx,PD,List.map_replicate]
def M6 {c:ac}{place:ZA} : ∀ k:Nat,(k:Int)<c.vars->∀ n∈jR c (aw c) k,∃ v:Int,1<=v/\v<c.vars/\n=eU c (aw c) v/\fU c (aw c) place v≠[]
 | 0,_,n,h=>by simp[jR] at h
 | k+1,hk,n,h=>by
  rw[jR] at h;rcases List.mem_append.1 h with h1|h1
  ·exact M6 k (by omega) n h1
  ·split at h1
   ·rename_i h2;refine⟨(k:Int)+1,by omega,by omega,by simpa using h1,fun h3=>Bf.1 h3 h2⟩
   ·simp at h1
def Ib {cells:List bW}{v:Int} : ∀ n:Nat,jh cells v n<n/\-1<=jh cells v n
 | 0=>by simp[jh]
 | n+1=>by
  have:=Ib (cells:=cells) (v:=v) n;rw[jh];split <;> omega
def MG {c:ac}(hc:c.Valid) {place:ZA}(hp:ay (aw c).length place) : ∀ n∈qc c (aw c),(∀ i∈n.sinks,0<=i/\i<place.length)/\n.cell<place.length/\n.sinks.length<=400/\n.pads.length<=400/\∀ t∈g8 n place,0<=t/\t<=24:=by
 intro n hn;have hf:=hc.al;have hv:=hc.aN;have hcl:=qX hc;have hlo:=hc.lo;have hpl:=hp.len;obtain⟨v,h1,h2,rfl,h3⟩:=M6 (place:=place) (c.vars.toNat-1) (by omega) n hn;refine⟨fun i hi=>?_,?_,?_,?_,KV hc hp h1 h2 h3⟩
 ·obtain⟨j,hj,-,rfl⟩:=Ac.1 (show i∈e7 (aw c) v (aw c).length from hi);omega
 ·have:=(Ib (cells:=aw c) (v:=v) (aw c).length).1;show jh (aw c) v (aw c).length<_
  omega
 ·have:=C8 (fun x hx=>(wv hc x hx).2.1) v (aw c).length (aD _);show(e7 (aw c) v (aw c).length).length<=400
  omega
 ·have:=GD (c:=c) (net:=v) c.outs.length;show(eG c v c.outs.length).length<=400
  omega
def Tryz.kZ (c:ac) (place:ZA) (list:List (Int×Int)):Pure prog 70 [dC c,aj place,aY list] (xQ (u3 c place list)):=by
 have hpv:=iG c place;have hdv:=fL list;by_cases hv:c.Valid/\ay (aw c).length place
 ·rw[decide_eq_true hv] at hpv;by_cases hd:wy list
  ·rw[(jD list).2 hd] at hdv;have hra:u3 c place list=lp c (aw c) place (kB list):=by
    classical
    rw[u3,if_pos ⟨hv,hd⟩]
   have hnn:=OI hv.1 hv.2 (kB list);rw[hra,hnn];have hno:=mP c hv.1;refine bz func70 rfl ntmps70 fun ok=>?_
   simp only[go_sem,seval,-List.reduceReplicate] at ok
   repeat' first|simp (disch:=omega) only[go_sem,seval,-List.reduceReplicate,ag,fZ]|(with_reducible first|apply aa|intro)|(refine az hpv ?_)|(refine iu (fun _=>hdv) ?_)|(try rw[ae]);omega
   refine cD (σ:=Nat) (fun i=>[(1,.d (aj place)),(3,.ptr 0 0),(8,.ptr 1 0),(27,.d (aY list)),(28,.d (dI list.length)),(29,.d (dI i))])
    (fun i=>[.box [.d (dI c.inputs),.d (aj c.next),.d (aY c.gates),.d (aj c.outs)],.box (bx (fq (kB (list.take i))))]) (fun i=>i<=list.length) (fun i=>list.length-i) [] [] 1000 1000 ?_ ?_
   ·simp only[go_sem,seval,-List.reduceReplicate];refine⟨0,by omega,?_⟩;rw[show kB (list.take 0)=j5 from rfl,uI];simp only[go_sem,seval]
   ·intro i hi;have hbl:=Hn (list.take i);have hbr:=K4 (list.take i);by_cases hit:i<list.length
    ·have hstp:=PJ hit;have hr:=hd.2 _ (aO hit:list.getD i (0,0)∈list);generalize kB (list.take i)=T at *
     generalize hh9:list.getD i (0,0)=hh at *
     have hbr2:=hbr hh.2.toNat (by omega);have hset:=KL (l:=fq T) (k:=hh.1.toNat*8+hh.2.toNat) (b:=true);rw[Ma (by omega) (by omega) (by omega) (by omega),<-hstp] at hset
     repeat' first|simp (disch:=omega) only[go_sem,seval,-List.reduceReplicate,hh9,jL,ol,hset,ag,fZ]|(with_reducible first|apply aa|intro)|(try rw[ae]);omega
     refine co (n:=0) [9] (ax [0,1,3,5,6,2,7,4,8] (.one 9 .done)) ?_
     repeat' first|simp (disch:=omega) only[go_sem,seval,-List.reduceReplicate,hh9,jL,ol,hset,ag,fZ]|(with_reducible first|apply aa|intro)|(try rw[ae]);omega
     refine⟨i+1,by omega,by omega,rfl,?_⟩;simp only[go_sem,seval,-List.reduceReplicate]
    ·rw[show list.take i=list from ag (by omega)]
     repeat' first|simp (disch:=omega) only[go_sem,seval,-List.reduceReplicate,ag,fZ]|(with_reducible first|apply aa|intro)|(try rw[ae]);omega
     refine c7 hno [0] (by simp only[go_sem,seval,-List.reduceReplicate]) ?_;rintro r0 H1 ⟨rfl,rfl⟩
     repeat' first|simp (disch:=omega) only[go_sem,seval,-List.reduceReplicate,ag,fZ]|(with_reducible first|apply aa|intro)|(try rw[ae]);omega
     have hnf:=MG hv.1 hv.2;have hNl:(qc c (aw c)).length<=1000:=by
      have:=Do c (aw c) (c.vars.toNat-1);have:=hv.1.aN;show(jR c (aw c) (c.vars.toNat-1)).length<=1000
      omega
     have hpl:place.length<=1000:=by rw[hv.2.len];have:=qX hv.1;omega
     clear hno hnn hra;generalize qc c (aw c)=N at *
     refine cD (σ:=Nat×List ZB×List Rt) (fun s=>[(1,.d (aj place)),(8,.ptr 1 0),(11,.sl 2 s.2.2.length 3 0 s.2.2.length),(43,.d (mX N)),(44,.d (dI N.length)),(45,.d (dI s.1))])
      (fun s=>[.dead 0,.box (bx (fq s.2.1)),.row s.2.2.length 3 true (s.2.2.map fun x=>yP x)]) (fun s=>s.1<=N.length/\(N.take s.1).foldl (qE place) (some (kB list,[]))=some (s.2.1,s.2.2)/\dz s.2.1/\s.2.2.length<=s.1/\∀ x∈s.2.2,x.ab.length<=25) (fun s=>N.length-s.1) [] [(11,3,true)] 1000 1000 ?_ ?_
     ·simp only[go_sem,seval,-List.reduceReplicate];refine⟨(0,kB list,[]),⟨by simp,by simp,GO list,by simp,by simp⟩,?_⟩;simp only[go_sem,seval,-List.reduceReplicate]
     ·rintro⟨k,busy,out⟩ ⟨hk,hfo,hbo,hol,hoh⟩;simp only at hk hfo hbo hol hoh;by_cases hlt:k<N.length
      ·have hfs:=iH (f:=qE place) (b:=some (kB list,[])) mT hlt;obtain⟨q1,q2,q3,q4,q5⟩:=hnf _ (aO hlt:N.getD k mT∈N);have hdrop:N.foldl (qE place) (some (kB list,[]))=(N.drop (k+1)).foldl (qE place) ((N.take (k+1)).foldl (qE place) (some (kB list,[]))):=by
        conv=>lhs;rw[<-xS (k+1) N]
        rw[ng]
       rw[hfo] at hfs;generalize hx9:N.getD k mT=n at *
       have hrt:=vj busy hbo n place q1 q2 q3 q4 hpl q5
       repeat' first|simp (disch:=omega) only[go_sem,seval,-List.reduceReplicate,hx9,ag,fZ]|(with_reducible first|apply aa|intro)|(try rw[ae]);omega
       refine c7 hrt [1] (by simp only[go_sem,seval,-List.reduceReplicate]) ?_;rw[qE,sZ] at hfs;simp only at hfs;cases hne:cJ (g8 n place) busy 8 0 with
       | none=>
        rw[hne] at hfs;simp only at hfs;rw[hfs,KQ] at hdrop;rw[hdrop];rintro r0 H1 ⟨rfl,rfl⟩
        repeat' first|simp (disch:=omega) only[go_sem,seval,-List.reduceReplicate,ag,fZ]|(with_reducible first|apply aa|intro)|(try rw[ae]);omega
        simp only[xQ,dh,go_sem]
       | some q=>
        obtain⟨t,h⟩:=q;rw[hne] at hfs;simp only at hfs;obtain⟨-,ht8,htr,-⟩:=Df 8 0 hne;obtain⟨hT,-,-⟩:=Cu q5 (by simp[g8]) htr;have hhl:=sG hT;rintro r0 H1 ⟨g,rfl,rfl⟩
        repeat' first|simp (disch:=omega) only[go_sem,seval,-List.reduceReplicate,ag,fZ]|(with_reducible first|apply aa|intro)|(try rw[ae]);omega
        refine⟨(k+1,bG busy t h,out ++ [⟨n.net,(t:Int),h⟩]),⟨by simp only;omega,hfs,CE hbo (by omega),by simp;omega,fun x hx=>?_⟩,by simp only;omega,?_⟩
        ·rcases List.mem_append.1 hx with h1|h1
         ·exact hoh x h1
         ·obtain rfl:x=⟨n.net,(t:Int),h⟩:=by simpa using h1
          exact hhl
        ·simp only[go_sem,seval,-List.reduceReplicate];simp
      ·obtain rfl:k=N.length:=by omega
       rw[ig] at hfo;rw[hfo]
       repeat' first|simp (disch:=omega) only[go_sem,seval,-List.reduceReplicate,ag,fZ]|(with_reducible first|apply aa|intro)|(try rw[ae]);omega
       simp only[xQ,dE,go_sem]
  ·have hra:u3 c place list=none:=by
    classical
    rw[u3,if_neg (fun h=>hd h.2)]
   rw[hra];rw[show bv list=false from Bool.eq_false_iff.2 (fun h=>hd ((jD list).1 h))] at hdv;refine bz func70 rfl ntmps70 fun ok=>?_
   simp only[go_sem,seval,-List.reduceReplicate] at ok
   repeat' first|simp (disch:=omega) only[go_sem,seval,-List.reduceReplicate,ag,fZ]|(with_reducible first|apply aa|intro)|(refine az hpv ?_)|(refine iu (fun _=>hdv) ?_)|(try rw[ae]);omega
   simp only[xQ,go_sem]
 ·have hra:u3 c place list=none:=by
   classical
   rw[u3,if_neg (fun h=>hv h.1)]
  rw[decide_eq_false hv] at hpv;rw[hra];refine bz func70 rfl ntmps70 fun ok=>?_
  simp only[go_sem,seval,-List.reduceReplicate] at ok
  repeat' first|simp (disch:=omega) only[go_sem,seval,-List.reduceReplicate,ag,fZ]|(with_reducible first|apply aa|intro)|(refine az hpv ?_)|(refine iu (fun _=>hdv) ?_)|(try rw[ae]);omega
  simp only[xQ,go_sem]
end Go.Proofs

namespace Go.VL
def La : ∀ (l:ZA) (s:Int×Int×Int×Int),((l.foldl bF s).1<=s.1/\s.2.1<=(l.foldl bF s).2.1/\(l.foldl bF s).2.2.1<=s.2.2.1/\s.2.2.2<=(l.foldl bF s).2.2.2)/\
  ∀ t∈l,((l.foldl bF s).1<=t/5/\t/5<=(l.foldl bF s).2.1/\(l.foldl bF s).2.2.1<=t%5/\t%5<=(l.foldl bF s).2.2.2)
 | [],s=>⟨⟨Int.le_refl _,Int.le_refl _,Int.le_refl _,Int.le_refl _⟩,fun t h=>by simp at h⟩
 | x::l,s=>by
  obtain⟨h1,h2⟩:=La l (bF s x);rw[e6];have e1:(bF s x).1=min s.1 (x/5):=rfl;have e2:(bF s x).2.1=max s.2.1 (x/5):=rfl;have e3:(bF s x).2.2.1=min s.2.2.1 (x%5):=rfl;have e4:(bF s x).2.2.2=max s.2.2.2 (x%5):=rfl;refine⟨by omega,fun t ht=>?_⟩;rcases List.mem_cons.1 ht with rfl|h
  ·omega
  ·exact h2 t h
def FF : ∀ (l out:ZA),l.foldl bF (bR out)=bR (l.foldl bj out)
 | [],out=>rfl
 | t::l,out=>by
  rw[e6,e6];by_cases hm:t∈out
  ·have e:bF (bR out) t=bR out:=by
    have h:=(La out (5,0,5,0)).2 t hm;have hb:bR out=out.foldl bF (5,0,5,0):=rfl;rw[<-hb] at h;unfold bF;refine Prod.ext ?_ (Prod.ext ?_ (Prod.ext ?_ ?_)) <;> simp only <;> omega
   rw[e,show bj out t=out by unfold bj;rw[if_pos hm]];exact FF l out
  ·have e:bF (bR out) t=bR (bj out t):=by
    rw[show bj out t=out ++ [t] by unfold bj;rw[if_neg hm]];show bF (out.foldl bF (5,0,5,0)) t=(out ++ [t]).foldl bF (5,0,5,0)
    rw[ng];rfl
   rw[e];exact FF l (bj out t)
def P8 (s:Int) (l:ZA):lu (s::l)=lu (l.foldl bj [s]):=by
 obtain⟨r,hr⟩:=ze (l:=l) (out:=[s]);have hb:bR (s::l)=bR (l.foldl bj [s]):=by
  rw[<-FF l [s]];rfl
 unfold lu;rw[if_neg (by simp),if_neg (by rw[hr];simp),hb]
def gY (place:ZA) (l:List mI):Int:=l.foldl (fun s n=>s+lu (g8 n place)) 0
def Sc (place:ZA) (l m:List mI):gY place (l++m)=m.foldl (fun s n=>s+lu (g8 n place)) (gY place l):=by
 rw[gY,ng];rfl
def NL {c:ac}(hc:c.Valid) (place:ZA) : ∀ k:Nat,(k:Int)<c.vars->gY place (jR c (aw c) k)=pc c (aw c) place k
 | 0,_=>rfl
 | k+1,hk=>by
  have ih:=NL hc place k (by omega);rw[jR,Sc,ih,pc];by_cases hu:fU c (aw c) place ((k:Int)+1)=[]
  ·rw[if_neg (Bf.1 hu),(AP hc place (v:=(k:Int)+1) (by omega) (by omega)).2 hu];show pc c (aw c) place k=pc c (aw c) place k+lu []
   rw[show lu []=0 from rfl];omega
  ·rw[if_pos (Decidable.byContradiction fun h=>hu (Bf.2 h)),BO hc place (v:=(k:Int)+1) (by omega) (by omega) hu,<-P8];rfl
def OX {c:ac}(hc:c.Valid) (place:ZA):gY place (qc c (aw c))=jK c (aw c) place:=by
 have:=hc.al;have:=hc.aN;rw[qc,NL hc place _ (by omega)];rfl
end Go.VL

namespace Go.Proofs
open Go Go.VL
@[go_sem] def UA {K:ZF}{g:Nat}{cs:ZE}{y:I}:cZ K (.fn g cs) y=fK K (.fn g cs) y:=xm nofun
def Tryz.qN (n:mI) (place:ZA) (hs : ∀ i∈n.sinks,0<=i/\i<place.length) (hk:n.cell<place.length) (hl:n.sinks.length<=400) (hl2:n.pads.length<=400) (hp:place.length<=1000) (hb : ∀ t∈g8 n place,0<=t/\t<=24):Pure prog 129 [tp n,aj place] (dI (lu (g8 n place))):=by
 have ht:=oC n place hs hk (by omega) (by omega) hp;have hne:g8 n place≠[]:=by simp[g8]
 have hTl:(g8 n place).length<=1000:=by simp[g8];omega
 refine bz func129 rfl ntmps129 fun ok=>?_
 simp only[go_sem,seval,-List.reduceReplicate] at ok
 repeat' first|simp (disch:=omega) only[go_sem,seval,-List.reduceReplicate,ag,aC,fZ]|(with_reducible first|apply aa|intro)|(refine az ht ?_)|(try rw[ae]);omega
 generalize g8 n place=T at *
 refine cD (σ:=Nat) (fun i=>[(5,.ptr 1 0),(6,.ptr 2 0),(15,.d (aj T)),(16,.d (dI T.length)),(17,.d (dI i))])
  (fun i=>[.box [.d (dI n.net),.d (dI n.cell),.d (dI n.tile),.d (aj n.sinks),.d (aj n.pads)],.box [.d (dI (bR (T.take i)).1),.d (dI (bR (T.take i)).2.2.1)],.box [.d (dI (bR (T.take i)).2.1),.d (dI (bR (T.take i)).2.2.2)]]) (fun i=>i<=T.length) (fun i=>T.length-i) [] [] 1000 1000 ?_ ?_
 ·simp only[go_sem,seval,-List.reduceReplicate];exact⟨0,by omega,by simp[bR]⟩
 ·intro i hi;have hbb:=FN (tiles:=T.take i) (fun t h=>hb t (kG h));by_cases hlt:i<T.length
  ·have hst:bR (T.take (i+1))=bF (bR (T.take i)) (T.getD i 0):=iH (f:=bF) (b:=(5,0,5,0)) (0:Int) hlt;have htb:=hb _ (aO hlt:T.getD i 0∈T);generalize bR (T.take i)=S at *
   obtain⟨s1,s2,s3,s4⟩:=S;simp only at hbb;generalize hx9:T.getD i 0=t at *
   repeat' first|simp (disch:=omega) only[go_sem,seval,-List.reduceReplicate,hx9,ag,aC,fZ]|(with_reducible first|apply aa|intro)|(try rw[ae]);omega
   refine Eh 4 1000 1000 ?_;refine sM ?_
   repeat' first|simp (disch:=omega) only[go_sem,seval,-List.reduceReplicate,hx9,ag,aC,fZ]|(with_reducible first|apply aa|intro)|(try rw[ae]);omega
   refine sM ?_
   repeat' first|simp (disch:=omega) only[go_sem,seval,-List.reduceReplicate,hx9,ag,aC,fZ]|(with_reducible first|apply aa|intro)|(try rw[ae]);omega
   refine sM ?_
   repeat' first|simp (disch:=omega) only[go_sem,seval,-List.reduceReplicate,hx9,ag,aC,fZ]|(with_reducible first|apply aa|intro)|(try rw[ae]);omega
   refine⟨i+1,by omega,by omega,?_⟩;rw[hst]
   repeat' apply And.intro
   all_goals rfl
  ·obtain rfl:i=T.length:=by omega
   rw[ig] at hbb ⊢;have hd:lu T=(bR T).2.1-(bR T).1+(bR T).2.2.2-(bR T).2.2.1:=if_neg hne;rw[hd]
   repeat' first|simp (disch:=omega) only[go_sem,seval,-List.reduceReplicate,ag,aC,fZ]|(with_reducible first|apply aa|intro)|(try rw[ae]);omega
def Tryz.sm (c:ac) (hc:c.Valid) (place:ZA) (hp:ay (aw c).length place):Pure prog 128 [aj place,.ptr [mX (qc c (aw c))]] (dI (jK c (aw c) place)):=by
 have hnf:=MG hc hp;have hNl:(qc c (aw c)).length<=1000:=by
  have:=Do c (aw c) (c.vars.toNat-1);have:=hc.aN;show(jR c (aw c) (c.vars.toNat-1)).length<=1000
  omega
 have hpl:place.length<=1000:=by rw[hp.len];have:=qX hc;omega
 rw[<-OX hc place];generalize qc c (aw c)=N at *
 refine bz func128 rfl ntmps128 fun ok=>?_
 simp only[go_sem,seval,-List.reduceReplicate] at ok
 repeat' first|simp (disch:=omega) only[go_sem,seval,-List.reduceReplicate,ag,aC,fZ]|(with_reducible first|apply aa|intro)|(try rw[ae]);omega
 refine cD (σ:=Nat) (fun i=>[(0,.d (aj place)),(4,.d (dI (gY place (N.take i)))),(7,.d (mX N)),(8,.d (dI N.length)),(9,.d (dI i))]) (fun _=>[]) (fun i=>i<=N.length/\-(10*(i:Int))<=gY place (N.take i)/\gY place (N.take i)<=10*(i:Int)) (fun i=>N.length-i) [] [] 1000 1000 ?_ ?_
 ·simp only[go_sem,seval,-List.reduceReplicate];exact⟨0,⟨by omega,by simp[gY],by simp[gY]⟩,by simp[gY]⟩
 ·rintro i ⟨hi,hb1,hb2⟩;by_cases hlt:i<N.length
  ·have hst:gY place (N.take (i+1))=gY place (N.take i)+lu (g8 (N.getD i mT) place):=iH (f:=fun s n=>s+lu (g8 n place)) (b:=0) mT hlt;obtain⟨q1,q2,q3,q4,q5⟩:=hnf _ (aO hlt:N.getD i mT∈N);have hln:=qN _ place q1 q2 q3 q4 hpl q5;have hdb:=Eo q5;generalize hx9:N.getD i mT=n at *
   generalize gY place (N.take i)=s at *
   generalize lu (g8 n place)=d at *
   repeat' first|simp (disch:=omega) only[go_sem,seval,-List.reduceReplicate,hx9,ag,aC,fZ]|(with_reducible first|apply aa|intro)|(refine az hln ?_)|(try rw[ae]);omega
   refine⟨i+1,⟨by omega,by omega,by omega⟩,by omega,?_⟩;rw[hst];exact⟨rfl,rfl⟩
  ·obtain rfl:i=N.length:=by omega
   rw[ig]
   repeat' first|simp (disch:=omega) only[go_sem,seval,-List.reduceReplicate,ag,aC,fZ]|(with_reducible first|apply aa|intro)|(try rw[ae]);omega
def Tryz.mp (place:ZA) (i:Nat) (tile:Int) (hi:i<place.length) (hl:place.length<=25):Pure prog 130 [aj place,dI i,dI tile] (aj (ey place i tile)):=by
 refine bz func130 rfl ntmps130 fun ok=>?_
 simp only[go_sem,seval,-List.reduceReplicate] at ok
 repeat' first|simp (disch:=omega) only[go_sem,seval,-List.reduceReplicate,ag,aC,fZ]|(with_reducible first|apply aa|intro)|(try rw[ae]);omega
 refine cD (σ:=Nat×ZA) (fun s=>[(0,.d (aj place)),(1,.d (dI i)),(2,.d (dI tile)),(7,.sl 0 0 1 0 place.length),(12,.d (dI place.length)),(13,.d (dI s.1))]) (fun s=>[.row 0 1 true (s.2.map (D.int .i64))])
  (fun s=>s.1<=place.length/\s.2.length=place.length/\∀ j,j<place.length->s.2.getD j 0=if j<s.1/\place.getD j 0=tile then place.getD i 0 else place.getD j 0) (fun s=>place.length-s.1) [] [] 1000 1000 ?_ ?_
 ·simp only[go_sem,seval,-List.reduceReplicate];exact⟨(0,place),⟨by simp,rfl,fun j hj=>by simp⟩,rfl,rfl⟩
 ·rintro⟨k,q⟩ ⟨hk,hql,hq⟩;simp only at hk hql hq;by_cases hkt:k<place.length
  ·have hqk:=hq k hkt;rw[if_neg (by omega)] at hqk
   repeat' first|simp (disch:=omega) only[go_sem,seval,-List.reduceReplicate,ag,aC,fZ]|(with_reducible first|apply aa|intro)|(try rw[ae]);omega
   ·rename_i h9;rw[hqk] at h9;refine⟨(k+1,q.set k (place.getD i 0)),⟨by simp only;omega,by simp only[gh];exact hql,fun j hj=>?_⟩,by simp only;omega,rfl,rfl⟩;simp only;rw[sL (by omega),hq j hj];by_cases hjk:k=j
    ·subst hjk;rw[if_pos rfl,if_pos ⟨by omega,h9⟩]
    ·rw[if_neg hjk];by_cases h2:j<k/\place.getD j 0=tile
     ·rw[if_pos h2,if_pos ⟨by omega,h2.2⟩]
     ·rw[if_neg h2,if_neg (fun h=>h2 ⟨by omega,h.2⟩)]
   ·rename_i h9;rw[hqk] at h9;refine⟨(k+1,q),⟨by simp only;omega,hql,fun j hj=>?_⟩,by simp only;omega,rfl,rfl⟩;simp only;rw[hq j hj];by_cases h2:j<k/\place.getD j 0=tile
    ·rw[if_pos h2,if_pos ⟨by omega,h2.2⟩]
    ·rw[if_neg h2,if_neg (fun h=>by
      by_cases hjk:j=k
      ·subst hjk;exact h9 h.2
      ·exact h2 ⟨by omega,h.2⟩)]
  ·have e:q.set i tile=ey place i tile:=by
    refine wq 0 (by rw[gh,Bi,hql]) fun j hj=>?_
    rw[gh,hql] at hj;rw[z5 hj,sL (by omega),hq j hj];by_cases hji:j=i
    ·rw[if_pos hji.symm,if_pos hji]
    ·rw[if_neg (Ne.symm hji),if_neg hji];by_cases h2:place.getD j 0=tile
     ·rw[if_pos ⟨by omega,h2⟩,if_pos h2]
     ·rw[if_neg (fun h=>h2 h.2),if_neg h2]
   repeat' first|simp (disch:=omega) only[go_sem,seval,-List.reduceReplicate,ag,aC,fZ]|(with_reducible first|apply aa|intro)|(try rw[ae]);omega
def Tryz.tq (c:ac) (hc:c.Valid):bk prog 69 [dC c] (aj (kX c (aw c))):=by
 have hcv:=aR c;rw[decide_eq_true hc] at hcv;have hno:=mP c hc;have hce:=hM c hc;have hcost:=fun p (h:ay (aw c).length p)=>sm c hc p h
 have hcl:=qX hc;refine wD rfl 1000 func69 rfl rfl ntmps69 (by simp) fun ok=>?_
 simp only[go_sem,seval,-List.reduceReplicate] at ok
 repeat' first|simp (disch:=omega) only[go_sem,seval,-List.reduceReplicate,ag,aC,fZ]|(with_reducible first|apply aa|intro)|(refine az hcv ?_)|(try rw[ae]);omega
 refine c7 hno [0] (by simp only[go_sem,seval,-List.reduceReplicate]) ?_;rintro r0 H1 ⟨rfl,rfl⟩
 repeat' first|simp (disch:=omega) only[go_sem,seval,-List.reduceReplicate,ag,aC,fZ]|(with_reducible first|apply aa|intro)|(refine kN hce ?_)|(try rw[ae]);omega
 have hpd:kX c (aw c)=((List.range 3).foldl (l5 c (aw c)) (ii (aw c).length,jK c (aw c) (ii (aw c).length))).1:=rfl;have hsw:=Cy (c:=c) (cells:=aw c) (by omega);generalize qc c (aw c)=N at *
 generalize aw c=cells at *
 refine cD (σ:=Nat) (fun i=>[(4,.fn 128 [.ptr 1 0]),(5,.sl 2 i 1 0 i),(19,.d (dI cells.length)),(20,.d (dI i))]) (fun i=>[.dead 0,.box [.d (mX N)],.row i 1 true ((ii i).map (D.int .i64))]) (fun i=>i<=cells.length) (fun i=>cells.length-i) [] [(5,1,true)] 1000 1000 ?_ ?_
 ·simp only[go_sem,seval,-List.reduceReplicate];exact⟨0,by omega,by simp[ii]⟩
 ·intro i hi;have hil:(ii i).length=i:=by simp[ii]
  have his:ii (i+1)=ii i ++ [(i:Int)]:=by rw[ii,kO,gw];rfl
  by_cases hlt:i<cells.length
  ·generalize ii i=q at *
   simp only[go_sem,seval,-List.reduceReplicate]
   repeat' first|simp (disch:=omega) only[go_sem,seval,-List.reduceReplicate,hil,ag,aC,fZ]|(with_reducible first|apply aa|intro)|(try rw[ae]);omega
   refine⟨i+1,by omega,by omega,?_⟩;rw[his]
   repeat' apply And.intro
   all_goals rfl
  ·obtain rfl:i=cells.length:=by omega
   have hpo:=Ep (n:=cells.length) (by omega);generalize ii cells.length=P0 at *
   simp only[go_sem,seval,-List.reduceReplicate]
   repeat' first|simp (disch:=omega) only[go_sem,seval,-List.reduceReplicate,hil,ag,aC,fZ]|(with_reducible first|apply aa|intro)|(refine az (hcost _ hpo) ?_)|(try rw[ae]);omega
   refine cD (σ:=Nat) (fun s=>[(4,.fn 128 [.ptr 1 0]),(5,.d (aj ((List.range s).foldl (l5 c cells) (P0,jK c cells P0)).1)),(7,.d (dI ((List.range s).foldl (l5 c cells) (P0,jK c cells P0)).2)),(31,.d (dI s))]) (fun s=>[.dead 0,.box [.d (mX N)]]) (fun s=>s<=3) (fun s=>3-s) [] [] 1000 1000 ?_ ?_
   ·simp only[go_sem,seval,-List.reduceReplicate];refine⟨0,by omega,?_⟩;simp[hil];exact ag (by omega)
   ·intro s hs;have hS:=hsw s;have hS1:(List.range (s+1)).foldl (l5 c cells) (P0,jK c cells P0)=l5 c cells ((List.range s).foldl (l5 c cells) (P0,jK c cells P0)) s:=uP;generalize hS9:(List.range s).foldl (l5 c cells) (P0,jK c cells P0)=S at *
    have hmid:=CJ (c:=c) hS;have hSd:l5 c cells S s=(List.range cells.length).foldl (fj c cells) S:=rfl;have hSl:=hS.len;by_cases hst:s<3
    ·repeat' first|simp (disch:=omega) only[go_sem,seval,-List.reduceReplicate,ag,aC,fZ]|(with_reducible first|apply aa|intro)|(try rw[ae]);omega
     refine cD (σ:=Nat) (fun i=>[(4,.fn 128 [.ptr 1 0]),(5,.d (aj ((List.range i).foldl (fj c cells) S).1)),(7,.d (dI ((List.range i).foldl (fj c cells) S).2)),(31,.d (dI s)),(34,.d (dI S.1.length)),(35,.d (dI i))]) (fun _=>[.dead 0,.box [.d (mX N)]]) (fun i=>i<=cells.length) (fun i=>cells.length-i) [] [] 1000 1000 ?_ ?_
     ·simp only[go_sem,seval,-List.reduceReplicate];exact⟨0,by omega,by simp⟩
     ·intro i hi;have hI:=hmid i hi;have hI1:(List.range (i+1)).foldl (fj c cells) S=fj c cells ((List.range i).foldl (fj c cells) S) i:=uP;by_cases hit:i<cells.length
      ·generalize (List.range i).foldl (fj c cells) S=M at *
       have hin:=BX (c:=c) hit hI;have hId:fj c cells M i=(List.range 25).foldl (lf c cells i) M:=rfl
       repeat' first|simp (disch:=omega) only[go_sem,seval,-List.reduceReplicate,ag,aC,fZ]|(with_reducible first|apply aa|intro)|(try rw[ae]);omega
       refine cD (σ:=Nat) (fun t=>[(4,.fn 128 [.ptr 1 0]),(5,.d (aj ((List.range t).foldl (lf c cells i) M).1)),(7,.d (dI ((List.range t).foldl (lf c cells i) M).2)),(8,.d (dI i)),(31,.d (dI s)),(34,.d (dI S.1.length)),(35,.d (dI i)),(38,.d (dI t))]) (fun _=>[.dead 0,.box [.d (mX N)]]) (fun t=>t<=25) (fun t=>25-t) [] [] 1000 1000 ?_ ?_
       ·simp only[go_sem,seval,-List.reduceReplicate];exact⟨0,by omega,by simp⟩
       ·intro t ht;have hT:=hin t ht;have hT1:(List.range (t+1)).foldl (lf c cells i) M=lf c cells i ((List.range t).foldl (lf c cells i) M) t:=uP;by_cases htt:t<25
        ·generalize (List.range t).foldl (lf c cells i) M=Z at *
         obtain⟨p,k⟩:=Z;simp only at hT;have hpl:=hT.len;have htr:=mp p i (t:Int) (by omega) (by omega);have hok:=hT.wX hit (tile:=(t:Int)) (by omega);have hco:=hcost _ hok;have hsd:lf c cells i (p,k) t=if jK c cells (ey p i (t:Int))<k then(ey p i (t:Int),jK c cells (ey p i (t:Int))) else(p,k):=rfl
         generalize ey p i (t:Int)=nx at *
         repeat' first|simp (disch:=omega) only[go_sem,seval,-List.reduceReplicate,ag,aC,fZ]|(with_reducible first|apply aa|intro)|(refine az htr ?_)|(refine az hco ?_)|(try rw[ae]);omega
         ·rename_i h9;refine⟨t+1,by omega,by omega,?_⟩;rw[hT1,hsd,if_pos h9];exact⟨rfl,rfl,rfl⟩
         ·rename_i h9;refine⟨t+1,by omega,by omega,?_⟩;rw[hT1,hsd,if_neg h9];exact⟨rfl,rfl,rfl⟩
        ·obtain rfl:t=25:=by omega
         rw[<-hId,<-hI1]
         repeat' first|simp (disch:=omega) only[go_sem,seval,-List.reduceReplicate,ag,aC,fZ]|(with_reducible first|apply aa|intro)|(try rw[ae]);omega
         refine⟨i+1,by omega,by omega,?_⟩;rw[kO];exact⟨rfl,rfl,rfl⟩
      ·obtain rfl:i=cells.length:=by omega
       rw[<-hSd,<-hS1]
       repeat' first|simp (disch:=omega) only[go_sem,seval,-List.reduceReplicate,ag,aC,fZ]|(with_reducible first|apply aa|intro)|(try rw[ae]);omega
       refine⟨s+1,by omega,by omega,?_⟩;rw[kO];exact⟨rfl,rfl,rfl⟩
    ·obtain rfl:s=3:=by omega
     repeat' first|simp (disch:=omega) only[go_sem,seval,-List.reduceReplicate,ag,aC,fZ]|(with_reducible first|apply aa|intro)|(try rw[ae]);omega
     all_goals rw[hpd,<-hS9]
end Go.Proofs

namespace Go.Proofs
open Go Go.VL
def y8 (l:List (Int×Bool)):Prop:=l.length=3/\∀ j,j<l.length->ji (l.getD j (0,false)).1=true
def aG.ok (c:aG):Prop:=c.tiles.length=25/\y8 c.pads/\∀ j,j<c.tiles.length->(c.tiles.getD j ba).ok (j:Int)=true
noncomputable instance (l:List (Int×Bool)):Decidable (y8 l):=Classical.propDecidable _
noncomputable instance (c:aG):Decidable c.ok:=Classical.propDecidable _
def Tryz.my (l:List (Int×Bool)):Pure prog 123 [jV l] (.bool (decide (y8 l))):=by
 refine bz func123 rfl ntmps123 fun ok=>?_
 simp only[go_sem,seval] at ok⊢;refine cQ (σ:=Nat) (fun i=>[(5,.d (jV l)),(6,.d (dI l.length)),(7,.d (dI i)),(0,.d (jV l))]) (fun _=>[]) (fun i=>i<=l.length/\∀ j,j<i->ji (l.getD j (0,false)).1=true) (fun i=>l.length-i) [] 1000 1000 ?_ ?_ ?_
 ·simp only[go_sem,seval]
 ·simp only[go_sem,seval];exact⟨0,⟨by omega,fun j hj=>absurd hj (by omega)⟩,rfl⟩
 ·rintro i ⟨hi,hinv⟩;by_cases hlt:i<l.length
  ·repeat' first|simp (disch:=omega) only[go_sem,seval,cE,bw]|(with_reducible first|apply aa|intro)|(refine az (lc _) ?_)|exact ah|(try rw[ae]);omega
   ·rename_i h1;simp only[false_eq_decide_iff];intro h2;have:=h2.2 i hlt;rw[h1] at this;exact absurd this (by simp)
   ·rename_i h1;refine⟨i+1,⟨by omega,fun j hj=>?_⟩,by omega,rfl⟩;by_cases hji:j=i
    ·subst hji;exact h1
    ·exact hinv j (by omega)
  ·repeat' first|simp (disch:=omega) only[go_sem,seval,cE,bw]|(with_reducible first|apply aa|intro)|exact ah|(try rw[ae]);omega
   have:y8 l↔(l.length:Int)=3:=⟨fun h=>by have:=h.1;omega,fun h=>⟨by omega,fun j hj=>hinv j (by omega)⟩⟩;by_cases h3:(l.length:Int)=3
   ·simp[h3,this.2 h3]
   ·simp[h3,show ¬ y8 l from fun h=>h3 (this.1 h)]
def Tryz.gq (c:aG):Pure prog 64 [dK c] (.bool (decide c.ok)):=by
 have hp:=my c.pads;refine bz func64 rfl ntmps64 fun ok=>?_
 simp only[go_sem,seval] at ok
 repeat' first|simp (disch:=omega) only[go_sem,seval,cE,bw]|(with_reducible first|apply aa|intro)|(refine iu (fun _=>hp) ?_)|exact ah|(try rw[ae]);omega
 ·rename_i h;simp only[false_eq_decide_iff];intro h2;rcases h with h|h
  ·exact h (by have:=h2.1;omega)
  ·exact h h2.2.1
 rename_i h;refine cQ (σ:=Nat) (fun i=>[(1,.ptr 0 0),(16,.d (dm c.tiles)),(17,.d (dI c.tiles.length)),(18,.d (dI i))]) (fun _=>[.box [.d (dm c.tiles),.d (jV c.pads)]]) (fun i=>i<=c.tiles.length/\∀ j,j<i->(c.tiles.getD j ba).ok (j:Int)=true) (fun i=>c.tiles.length-i) [] 1000 1000 ?_ ?_ ?_
 ·simp only[go_sem,seval]
 ·simp only[go_sem,seval];exact⟨0,⟨by omega,fun j hj=>absurd hj (by omega)⟩,rfl⟩
 ·rintro i ⟨hi,hinv⟩;by_cases hlt:i<c.tiles.length
  ·repeat' first|simp (disch:=omega) only[go_sem,seval,cE,bw]|(with_reducible first|apply aa|intro)|(refine az (mY _ (i:Int) (by omega)) ?_)|exact ah|(try rw[ae]);omega
   ·rename_i h1;simp only[false_eq_decide_iff];intro h2;have:=h2.2.2 i hlt;rw[h1] at this;exact absurd this (by simp)
   ·rename_i h1;refine⟨i+1,⟨by omega,fun j hj=>?_⟩,by omega,rfl⟩;by_cases hji:j=i
    ·subst hji;exact h1
    ·exact hinv j (by omega)
  ·repeat' first|simp (disch:=omega) only[go_sem,seval,cE,bw]|(with_reducible first|apply aa|intro)|exact ah|(try rw[ae]);omega
   simp only[true_eq_decide_iff];exact⟨by omega,h.2,fun j hj=>hinv j (by omega)⟩
def aG.cA {c:aG}(h:c.ok) {i:Nat}(hi:i<25):(c.tiles.getD i ba).select.length=3/\(c.tiles.getD i ba).drive.length=8:=by
 have:=ar.b6.1 (h.2.2 i (by have:=h.1;omega));exact⟨this.2.1,this.2.2.1⟩
def Tryz.jW (c:aG):Pure prog 118 [dK c] (.bool (decide c.ok)):=by
 refine bz func118 rfl ntmps118 fun ok=>?_
 simp only[go_sem,seval] at ok
 repeat' first|simp (disch:=omega) only[go_sem,seval,cE,bw]|(with_reducible first|apply aa|intro)|exact ah|(try rw[ae]);omega
 ·rename_i h;simp only[false_eq_decide_iff];intro h2;rcases h with h|h
  ·exact h (by have:=h2.1;omega)
  ·exact h (by have:=h2.2.1.1;omega)
 rename_i h;refine cQ (σ:=Nat) (fun i=>[(1,.ptr 0 0),(3,.d (dI i))]) (fun _=>[.box [.d (dm c.tiles),.d (jV c.pads)]]) (fun i=>i<=c.tiles.length/\∀ j,j<i->(c.tiles.getD j ba).ok (j:Int)=true) (fun i=>c.tiles.length-i) [] 1000 1000 ?_ ?_ ?_
 ·simp only[go_sem,seval]
 ·simp only[go_sem,seval];exact⟨0,⟨by omega,fun j hj=>absurd hj (by omega)⟩,rfl⟩
 ·rintro i ⟨hi,hinv⟩;by_cases hlt:i<c.tiles.length
  ·repeat' first|simp (disch:=omega) only[go_sem,seval,cE,bw]|(with_reducible first|apply aa|intro)|(refine az (r6 _ (i:Int) (by omega)) ?_)|exact ah|(try rw[ae]);omega
   ·rename_i h1;simp only[false_eq_decide_iff];intro h2;have:=h2.2.2 i hlt;rw[h1] at this;exact absurd this (by simp)
   ·rename_i h1;refine⟨i+1,⟨by omega,fun j hj=>?_⟩,by omega,rfl⟩;by_cases hji:j=i
    ·subst hji;exact h1
    ·exact hinv j (by omega)
  ·repeat' first|simp (disch:=omega) only[go_sem,seval,cE,bw]|(with_reducible first|apply aa|intro)|exact ah|(try rw[ae]);omega
   have ht : ∀ j,j<c.tiles.length->(c.tiles.getD j ba).ok (j:Int)=true:=fun j hj=>hinv j (by omega)
   clear hinv hi hlt;refine cQ (σ:=Nat) (fun i=>[(1,.ptr 0 0),(4,.d (dI i))]) (fun _=>[.box [.d (dm c.tiles),.d (jV c.pads)]]) (fun i=>i<=c.pads.length/\∀ j,j<i->ji (c.pads.getD j (0,false)).1=true) (fun i=>c.pads.length-i) [] 1000 1000 ?_ ?_ ?_
   ·simp only[go_sem,seval]
   ·simp only[go_sem,seval];exact⟨0,⟨by omega,fun j hj=>absurd hj (by omega)⟩,rfl⟩
   ·rintro i ⟨hi,hinv⟩;by_cases hlt:i<c.pads.length
    ·repeat' first|simp (disch:=omega) only[go_sem,seval,cE,bw]|(with_reducible first|apply aa|intro)|(refine az (ll _) ?_)|exact ah|(try rw[ae]);omega
     ·rename_i h1;simp only[false_eq_decide_iff];intro h2;have:=h2.2.1.2 i hlt;rw[h1] at this;exact absurd this (by simp)
     ·rename_i h1;refine⟨i+1,⟨by omega,fun j hj=>?_⟩,by omega,rfl⟩;by_cases hji:j=i
      ·subst hji;exact h1
      ·exact hinv j (by omega)
    ·repeat' first|simp (disch:=omega) only[go_sem,seval,cE,bw]|(with_reducible first|apply aa|intro)|exact ah|(try rw[ae]);omega
     simp only[true_eq_decide_iff];exact⟨by omega,⟨by omega,fun j hj=>hinv j (by omega)⟩,ht⟩
end Go.Proofs

namespace Go.Proofs
open Go Go.VL
variable {f:Nat}
def Tryz.shp_KDefect (y:D) (h:iI tyT (f+2) 171 y) : ∃ a:Int×Int,y=dP a:=by
 obtain⟨ys,rfl,k0⟩:=shp_struct ww h;obtain⟨y1,r1,rfl,h1,k1⟩:=vJ k0;obtain⟨y2,r2,rfl,h2,k2⟩:=vJ k1;obtain rfl:=Fg k2;obtain⟨n,rfl⟩:=shp_int yc h1;obtain⟨m,rfl⟩:=shp_int yc h2;exact⟨(n,m),rfl⟩
def Tryz.shp_KDefects (y:D) (h:iI tyT (f+3) 92 y) : ∃ l:List (Int×Int),y=aY l:=
 shp_slice Er ww shp_KDefect h
end Go.Proofs

namespace Go.Proofs
open Go Go.VL
def aG.small (c:aG):Prop:=c.tiles.length<=1048576/\c.pads.length<=1048576/\∀ j,j<c.tiles.length->(c.tiles.getD j ba).select.length<=1048576/\(c.tiles.getD j ba).drive.length<=1048576
end Go.Proofs

namespace Go.Proofs
open Go Go.VL
def EE (p:Int×ar):Bool:=(decide (0<=p.1)&&decide (p.1<=24))&&p.2.ok p.1
def v8 (l:List (Int×ar)):Prop:=∀ j,j<l.length->EE (l.getD j (0,ba))=true
noncomputable instance (l:List (Int×ar)):Decidable (v8 l):=Classical.propDecidable _
def I6 (l:List ar) (fs:List (Int×ar)):List ar:=fs.foldl (fun l f=>l.set f.1.toNat f.2) l
def tL (c:aG) (fs:List (Int×ar)) (ps:List (Int×Bool)):Prop:=c.ok/\y8 ps/\v8 fs
noncomputable instance (c:aG) (fs:List (Int×ar)) (ps:List (Int×Bool)):Decidable (tL c fs ps):=Classical.propDecidable _
end Go.Proofs

namespace Go.Proofs
open Go Go.VL
def Dd {α : Type}{f : α->D}{k n:Nat}{l:List α}{x c:D}{off:Nat}(h:l.length=n):dg k (l.map f ++ [x]) n off c=l.map f ++ [mF (decide (k=1)) k x off c]:=by subst h;exact OV
def k0:aG:=⟨[],[]⟩
def dY:ar:=⟨0,[15,15,15],false,[0,0,0,0,0,0,0,0]⟩
def er (fs:List (Int×ar)):List (Int×ar):=fs.map fun f=>(f.1,dY)
def Lq (t:List ar) (p:List (Int×Bool)) (fs:List (Int×ar)) (n:Nat):List aG:=(List.range n).map fun j=>⟨I6 t (fs.take (j+1)),p⟩
def steps (a:aG) (fs:List (Int×ar)):List aG:=Lq a.tiles a.pads (er fs) fs.length++Lq (I6 a.tiles (er fs)) a.pads fs fs.length
def Tryz.mn:Pure prog 120 [] (fO dY):=by
 refine bz func120 rfl ntmps120 fun ok=>?_
 simp only[go_sem,seval] at ok
 repeat' first|simp (disch:=omega) only[go_sem,seval,ag]|(with_reducible first|apply aa|intro)|(try rw[ae]);omega
 all_goals rfl
def Tryz.ke:Pure prog 142 [] (dK ⟨List.replicate 25 dY,List.replicate 3 (15,false)⟩):=by
 refine bz func142 rfl ntmps142 fun ok=>?_
 simp only[go_sem,seval] at ok
 repeat' first|simp (disch:=omega) only[go_sem,seval,ag]|(with_reducible first|apply aa|intro)|(try rw[ae]);omega
 refine cD (σ:=Nat) (fun i=>[(0,.ptr 0 0),(1,.ptr 1 0),(2,.d (dI i))])
  (fun i=>[.box [.d .nil,.d .nil],.box [.sl 2 i 4 0 i,.d .nil],.row i 4 true ((List.replicate i dY).map fun x=>fO x)]) (fun i=>i<=25) (fun i=>25-i) [(1,0,4,true)] [] 1000 1000 ?_ ?_
 ·simp only[go_sem,seval];exact⟨0,by omega,by simp⟩
 ·intro i hi;by_cases hlt:i<25
  ·repeat' first|simp (disch:=omega) only[go_sem,seval,ag]|(with_reducible first|apply aa|intro)|(try rw[ae]);omega
   refine cD (σ:=Nat) (fun n=>[(0,.ptr 0 0),(1,.ptr 1 0),(2,.d (dI i)),(3,.ptr 4 0),(4,.d (dI n))])
    (fun n=>[.box [.d .nil,.d .nil],.box [.sl 2 i 4 0 i,.d .nil],.row i 4 true ((List.replicate i dY).map fun x=>fO x),.row 0 1 true ((List.replicate 8 (0:Int)).map (D.int .i64)),.box [.d (dI 0),.sl 5 n 1 0 n,.d (dB false),.sl 3 0 1 0 8],.row n 1 true ((List.replicate n (15:Int)).map (D.int .i64))]) (fun n=>n<=3) (fun n=>3-n) [(4,1,1,true)] [] 1000 1000 ?_ ?_
   ·simp only[go_sem,seval];exact⟨0,by omega,by simp⟩
   ·intro n hn;by_cases hnt:n<3
    ·repeat' first|simp (disch:=omega) only[go_sem,seval,ag]|(with_reducible first|apply aa|intro)|(try rw[ae]);omega
     exact⟨n+1,by omega,by omega,rfl,rfl,rfl,by rw[yx]⟩
    ·obtain rfl:n=3:=by omega
     repeat' first|simp (disch:=omega) only[go_sem,seval,ag]|(with_reducible first|apply aa|intro)|(try rw[ae]);omega
     ·simp[NC]
     ·refine⟨i+1,by omega,by omega,rfl,rfl,rfl,?_⟩;rw[Dd (by simp),Dd (by simp),show List.replicate (i+1) dY=List.replicate i dY ++ [dY] from yx,gw];rfl
  ·obtain rfl:i=25:=by omega
   repeat' first|simp (disch:=omega) only[go_sem,seval,ag]|(with_reducible first|apply aa|intro)|(try rw[ae]);omega
   refine cD (σ:=Nat) (fun n=>[(0,.ptr 0 0),(1,.ptr 1 0),(5,.d (dI n))])
    (fun n=>[.box [.d .nil,.d .nil],.box [.sl 2 25 4 0 25,.sl 3 n 2 0 n],.row 25 4 true ((List.replicate 25 dY).map fun x=>fO x),.row n 2 true ((List.replicate n ((15:Int),false)).map fun x=>dQ x)]) (fun n=>n<=3) (fun n=>3-n) [(1,1,2,true)] [] 1000 1000 ?_ ?_
   ·simp only[go_sem,seval];exact⟨0,by omega,by simp⟩
   ·intro n hn;by_cases hnt:n<3
    ·repeat' first|simp (disch:=omega) only[go_sem,seval,ag]|(with_reducible first|apply aa|intro)|(try rw[ae]);omega
     refine⟨n+1,by omega,by omega,rfl,rfl,rfl,?_⟩;rw[yx,gw];rfl
    ·obtain rfl:n=3:=by omega
     repeat' first|simp (disch:=omega) only[go_sem,seval,ag]|(with_reducible first|apply aa|intro)|(try rw[ae]);omega
end Go.Proofs
