/- Contracts, plain definitions and lemmas. Conditions: none; lemmas. -/
import Derived.Test.YteikeianenfhaaaGreatC73
import Derived.Test.YteikeianenfhaaaGreatD2
import Derived.Test.YteikeianenfhaaaGreatO1
set_option maxRecDepth 20000
set_option linter.unusedSimpArgs false
set_option linter.unusedVariables false
set_option maxHeartbeats 2000000
set_option linter.defProp false
namespace Go.Proofs
open Go Go.VL Tryz
variable {l:ZB}{k:Nat}{n q:Int}
abbrev yP (x:Rt):D:=.agg [dI x.net,dI x.track,aY x.ab]
abbrev iK (l:List Rt):D:=.lst 3 (l.map fun x=>yP x)
def db {l:List Rt}{i:Nat}{z:D}(h:i<l.length):(l.map fun x=>yP x).getD i z=yP (l.getD i fC):=cn _ _ _ _ _ h
def Tryz.rH (t:Int) (h:0<=t/\t<=24):Pure prog 225 [dI t] (aj (dO t)):=by
 have hr:=aC (y:=5) h.1;refine bz func225 rfl ntmps225 fun ok=>?_
 simp only[go_sem,seval] at ok⊢
 repeat' first|simp (disch:=first|assumption|omega|simp;try omega) only[go_sem,seval,hr,ag,aC]|(with_reducible first|apply aa|intro)|(try rw[ae]);omega
 all_goals (unfold dO;repeat' split)
 all_goals first|rfl|(exfalso;omega)
def Tryz.wR (ab:List (Int×Int)) (t:Int):Pure prog 224 [aY ab,dI t] (.bool (decide (t∈a9 ab))):=by
 refine bz func224 rfl ntmps224 fun ok=>?_
 simp only[go_sem,seval] at ok
 repeat' first|simp (disch:=first|assumption|omega|simp;try omega) only[go_sem,seval,ag,aC]|(with_reducible first|apply aa|intro)|(try rw[ae]);omega
 refine cQ (σ:=Nat) (fun i=>[(0,.d (aY ab)),(1,.d (dI t)),(4,.d (dB false)),(5,.d (dI i))]) (fun _=>[]) (fun i=>i<=ab.length/\∀ j,j<i->(ab.getD j (0,0)).1≠t) (fun i=>ab.length-i) [] 1000 1000 ?_ ?_ ?_
 ·simp only[go_sem,seval]
 ·simp only[go_sem,seval];exact⟨0,⟨by omega,by omega⟩,rfl⟩
 ·rintro i ⟨hi,hinv⟩;by_cases hlt:i<ab.length
  ·repeat' first|simp (disch:=first|assumption|omega|simp;try omega) only[go_sem,seval,ag,aC]|(with_reducible first|apply aa|intro)|(try rw[ae]);omega
   ·rename_i h9;rw[decide_eq_true];exact List.mem_map.2 ⟨_,aO hlt,h9⟩
   ·rename_i h9;refine⟨i+1,⟨by omega,fun j hj=>?_⟩,by omega,rfl⟩;by_cases hji:j=i
    ·subst hji;exact h9
    ·exact hinv j (by omega)
  ·repeat' first|simp (disch:=first|assumption|omega|simp;try omega) only[go_sem,seval,ag,aC]|(with_reducible first|apply aa|intro)|(try rw[ae]);omega
   simp only[false_eq_decide_iff];intro hm;obtain⟨x,hx,he⟩:=List.mem_map.1 hm;obtain⟨j,hj,rfl⟩:=gm (0,0) hx;exact hinv j (by omega) he
def Tryz.rx (g:Nat) (ab:List (Int×Int)) (sink:Int) (busy:ZB) (hb:busy.length=25) (ht:bO busy ab) (hs:0<=sink/\sink<=24) :
  aA prog 216 [.d (aY ab),.d (dI sink),.sl 0 g 1 0 25] [.row g 1 true (busy.map D.bool)] (fun r H'=>r=.d (.tup [aY ((eI busy ab sink).getD ab),dB (eI busy ab sink).isSome])/\H'=[.row g 1 true (busy.map D.bool)]):=by
 have hon:=wR ab sink;refine i9 rfl 1000 func216 rfl rfl ntmps216 (by simp) ?_
 repeat' first|simp (disch:=first|assumption|omega|simp;try omega) only[go_sem,seval,ag,aC]|(with_reducible first|apply aa|intro)|(refine az hon ?_)|(try rw[ae]);omega
 ·rename_i h9;rw[eI,if_pos h9];refine sF (by simp) (by simp only[go_sem,seval]) ?_;simp only[go_sem,seval]
 rename_i h9;have hex:eI busy ab sink=if(jx ab sink busy).1.getD sink.toNat 0 = -2 then none else some (ab++i8 (jx ab sink busy).1 25 sink []):=if_neg h9;have hhl:=sG ht;refine nl (σ:=Nat) (fun i=>[(0,.d (aY ab)),(1,.d (dI sink)),(2,.sl 0 g 1 0 25),(8,.sl 1 0 1 0 25),(9,.d (dI i))]) (fun i=>[.row g 1 true (busy.map D.bool),.row 0 1 true ((List.replicate i (-2:Int)++List.replicate (25-i) 0).map (D.int .i64))])
  (fun i=>i<=25) (fun i=>25-i) [] [] 1000 1000 ?_ ?_
 ·simp only[go_sem,seval];exact⟨0,by omega,by simp⟩
 ·intro i hi;by_cases hit:i<25
  ·have hst:(List.replicate i (-2:Int)++List.replicate (25-i) 0).set i (-2)=List.replicate (i+1) (-2)++List.replicate (25-(i+1)) 0:=by
    rw[Kk (by simp) (by omega),yx,Nat.sub_sub]
   have hql:(List.replicate i (-2:Int)++List.replicate (25-i) 0).length=25:=by simp;omega
   generalize List.replicate i (-2:Int)++List.replicate (25-i) 0=q at *
   simp only[go_sem,seval]
   repeat' first|simp (disch:=first|assumption|omega|simp;try omega) only[go_sem,seval,hql,ag,aC]|(with_reducible first|apply aa|intro)|(try rw[ae]);omega
   refine⟨i+1,by omega,by omega,rfl,?_⟩;rw[hst]
  ·obtain rfl:i=25:=by omega
   rw[show List.replicate 25 (-2:Int)++List.replicate (25-25) 0=List.replicate 25 (-2) by simp];have hq25:(List.replicate 25 (-2:Int)).length=25:=by simp
   have hf0d:nL ab=ab.foldl (fun f h=>f.set h.1.toNat (-1)) (List.replicate 25 (-2)):=rfl;generalize List.replicate 25 (-2:Int)=q0 at *
   simp only[go_sem,seval]
   repeat' first|simp (disch:=first|assumption|omega|simp;try omega) only[go_sem,seval,hq25,ag,aC]|(with_reducible first|apply aa|intro)|(try rw[ae]);omega
   refine nl (σ:=Nat) (fun i=>[(0,.d (aY ab)),(1,.d (dI sink)),(2,.sl 0 g 1 0 25),(8,.sl 1 0 1 0 25),(10,.sl 2 i 1 0 i),(11,.d (dI i))]) (fun i=>[.row g 1 true (busy.map D.bool),.row 0 1 true (((ab.take i).foldl (fun f h=>f.set h.1.toNat (-1)) q0).map (D.int .i64)),.row i 1 true ((a9 (ab.take i)).map (D.int .i64))])
    (fun i=>i<=ab.length) (fun i=>ab.length-i) [] [] 1000 1000 ?_ ?_
   ·simp only[go_sem,seval];exact⟨0,by omega,by simp[a9]⟩
   ·intro i hi;have hfl:((ab.take i).foldl (fun f h=>f.set h.1.toNat (-1)) q0).length=25:=by
     have key : ∀ (l:List (Int×Int)) (f:ZA),(l.foldl (fun f h=>f.set h.1.toNat (-1)) f).length=f.length:=by
      intro l;induction l with
      | nil=>exact fun f=>rfl
      | cons x l ih=>intro f;rw[e6,ih,gh]
     rw[key,hq25]
    have htl:(a9 (ab.take i)).length=i:=by simp[a9];omega
    by_cases hit:i<ab.length
    ·have hfs:=iH (f:=fun(f:ZA) (h:Int×Int)=>f.set h.1.toNat (-1)) (b:=q0) ((0,0):Int×Int) hit;have hts:a9 (ab.take (i+1))=a9 (ab.take i) ++ [(ab.getD i (0,0)).1]:=nm (0,0) hit;have hr:=ht.rng _ (aO hit:ab.getD i (0,0)∈ab);generalize (ab.take i).foldl (fun f h=>f.set h.1.toNat (-1)) q0=fr at *
     generalize a9 (ab.take i)=tl at *
     simp only[go_sem,seval]
     repeat' first|simp (disch:=first|assumption|omega|simp;try omega) only[go_sem,seval,hfl,htl,ag,aC]|(with_reducible first|apply aa|intro)|(try rw[ae]);omega
     refine⟨i+1,by omega,by omega,?_⟩;rw[hfs,hts]
     repeat' apply And.intro
     all_goals first|rfl|(simp;done)
    ·have e:ab.take i=ab:=ag (by omega);rw[e,<-hf0d];rw[e] at htl;obtain rfl:i=ab.length:=by omega
     simp only[go_sem,seval]
     repeat' first|simp (disch:=first|assumption|omega|simp;try omega) only[go_sem,seval,hq25,ag,aC]|(with_reducible first|apply aa|intro)|(try rw[ae]);omega
     have hinv0:=zE (busy:=busy) ht.rng ht.nd;have hbc:jx ab sink busy=j9 busy sink 26 0 (nL ab,a9 ab):=rfl;have hfin:=H9 ht sink;have hl0:=MA (ab:=ab);refine nl (σ:=Nat×BS) (fun s=>[(0,.d (aY ab)),(1,.d (dI sink)),(2,.sl 0 g 1 0 25),(8,.sl 1 0 1 0 25),(10,.sl 2 s.2.2.length 1 0 s.2.2.length),(12,.d (dI s.1))]) (fun s=>[.row g 1 true (busy.map D.bool),.row 0 1 true (s.2.1.map (D.int .i64)),.row s.2.2.length 1 true (s.2.2.map (D.int .i64))])
      (fun s=>s.1<=s.2.2.length/\ci busy (a9 ab) s.2/\j9 busy sink (26-s.1) s.1 s.2=jx ab sink busy) (fun s=>26-s.1) [] [] 1000 1000 ?_ ?_
     ·simp only[go_sem,seval];refine⟨(0,(nL ab,a9 ab)),⟨by simp,hinv0,hbc.symm⟩,?_⟩;simp[htl]
     ·rintro⟨k,⟨fr,qu⟩⟩ ⟨hk,hbi,hbn⟩;simp only at hk hbi hbn;have hql:=hbi.nC;have hfl:=hbi.len;simp only at hql hfl;by_cases hkc:k<qu.length/\fr.getD sink.toNat 0 = -2
      ·have hqm:qu.getD k 0∈qu:=aO hkc.1;have hqr:=hbi.rng _ hqm;have hst:j9 busy sink (26-(k+1)) (k+1) (dq busy (fr,qu) (qu.getD k 0))=jx ab sink busy:=by
        rw[<-hbn,show 26-k=(26-(k+1))+1 by omega,j9,if_pos hkc]
       have hnx:=rH (qu.getD k 0) hqr;have hvis:dq busy (fr,qu) (qu.getD k 0)=(dO (qu.getD k 0)).foldl (iz busy (qu.getD k 0)) (fr,qu):=rfl;have hnb:=yW hqr;have hk1:=hkc.1;have hk2:=hkc.2;have hqg:=hqr;generalize hq9:qu.getD k 0=q at *
       repeat' first|simp (disch:=first|assumption|omega|simp;try omega) only[go_sem,seval,hq9,hk2,ag,aC]|(with_reducible first|apply aa|intro)|(refine az hnx ?_)|(try rw[ae]);omega
       have hvi:=hbi.visit hqm;rw[hvis] at hvi;have hsteps : ∀ i,ci busy (a9 ab) (((dO q).take i).foldl (iz busy q) (fr,qu)):=fun i=>hbi.steps _ hqm fun n hn=>kG hn
       have hpre : ∀ i,∃ r,(((dO q).take i).foldl (iz busy q) (fr,qu)).2=qu++r:=by
        intro i;have key : ∀ (l:ZA) (s:BS),∃ r,(l.foldl (iz busy q) s).2=s.2++r:=by
         intro l;induction l with
         | nil=>exact fun s=>⟨[],by simp⟩
         | cons n l ih=>
          intro s;obtain⟨r1,h1⟩:=E9 (busy:=busy) (q:=q) (n:=n) (s:=s);obtain⟨r2,h2⟩:=ih (iz busy q s n);exact⟨r1++r2,by rw[e6,h2,h1,fA]⟩
        exact key _ _
       refine nl (σ:=Nat) (fun i=>[(0,.d (aY ab)),(1,.d (dI sink)),(2,.sl 0 g 1 0 25),(8,.sl 1 0 1 0 25),(10,.sl 2 (((dO q).take i).foldl (iz busy q) (fr,qu)).2.length 1 0 (((dO q).take i).foldl (iz busy q) (fr,qu)).2.length),(12,.d (dI k)),(13,.d (aj (dO q))),(14,.d (dI i))])
        (fun i=>[.row g 1 true (busy.map D.bool),.row 0 1 true ((((dO q).take i).foldl (iz busy q) (fr,qu)).1.map (D.int .i64)),.row (((dO q).take i).foldl (iz busy q) (fr,qu)).2.length 1 true ((((dO q).take i).foldl (iz busy q) (fr,qu)).2.map (D.int .i64))])
        (fun i=>i<=(dO q).length) (fun i=>(dO q).length-i) [] [] 1000 1000 ?_ ?_
       ·simp only[go_sem,seval];exact⟨0,by omega,by simp⟩
       ·intro i hi;have hSi:=hsteps i;obtain⟨r,hr⟩:=hpre i;by_cases hit:i<(dO q).length
        ·have hfs:=iH (f:=iz busy q) (b:=(fr,qu)) (0:Int) hit;have hn:=hnb _ (aO hit:(dO q).getD i 0∈dO q);generalize ((dO q).take i).foldl (iz busy q) (fr,qu)=S at *
         obtain⟨f2,q2⟩:=S;have hq2l:=hSi.nC;have hf2l:=hSi.len;simp only at hr hq2l hf2l;have hk3:k<q2.length:=by rw[hr];simp;omega
         have hqk:q2.getD k 0=q:=by rw[hr,cW hk1];exact hq9
         have hsd:iz busy q (f2,q2) ((dO q).getD i 0)=if f2.getD ((dO q).getD i 0).toNat 0 = -2/\busy.getD ((dO q).getD i 0).toNat false=false then(f2.set ((dO q).getD i 0).toNat q,q2 ++ [(dO q).getD i 0]) else(f2,q2):=rfl
         generalize hn9:(dO q).getD i 0=n at *
         have hnl:(dO q).length<=4:=by unfold dO;repeat' split <;> simp
         simp only[go_sem,seval,hqk,hn9]
         repeat' first|simp (disch:=first|assumption|omega|simp;try omega) only[go_sem,seval,hqk,hf2l,hn9,ag,aC]|(with_reducible first|apply aa|intro)|(try rw[ae]);omega
         ·rename_i h7;refine co (n:=1) [10] (ax [0,1,2,3,5,6,7,4,8,9] (.one 10 .done)) ?_;simp only[go_sem,seval,hqk,hn9]
          repeat' first|simp (disch:=first|assumption|omega|simp;try omega) only[go_sem,seval,hqk,hf2l,hn9,ag,aC]|(with_reducible first|apply aa|intro)|(try rw[ae]);omega
          have e:((dO q).take (i+1)).foldl (iz busy q) (fr,qu)=(f2.set n.toNat q,q2 ++ [n]):=by rw[hfs,hsd,if_pos (by simpa using h7)]
          refine⟨i+1,by omega,by omega,?_⟩;rw[e]
          repeat' apply And.intro
          all_goals first|rfl|(simp;done)
         ·rename_i h7;have e:((dO q).take (i+1)).foldl (iz busy q) (fr,qu)=(f2,q2):=by rw[hfs,hsd,if_neg (by
           rintro⟨h1,h2⟩;rcases h7 with h7|h7
           ·exact h7 h1
           ·rw[h2] at h7;exact absurd h7 (by simp))]
          refine⟨i+1,by omega,by omega,?_⟩;rw[e];exact⟨⟨rfl,rfl⟩,rfl,rfl,rfl⟩
        ·have e:(dO q).take i=dO q:=ag (by omega);rw[e,<-hvis];rw[e,<-hvis] at hSi hr;have hgl:k+1<=(dq busy (fr,qu) q).2.length:=by rw[hr];simp;omega
         generalize dq busy (fr,qu) q=S at *
         repeat' first|simp (disch:=first|assumption|omega|simp;try omega) only[go_sem,seval,ag,aC]|(with_reducible first|apply aa|intro)|(try rw[ae]);omega
         exact⟨(k+1,S),⟨hgl,hSi,hst⟩,by simp only;omega,⟨rfl,rfl⟩,rfl,rfl,rfl⟩
      ·have hst:(fr,qu)=jx ab sink busy:=by
        rw[<-hbn,show 26-k=(25-k)+1 by omega,j9,if_neg hkc]
       rw[<-hst] at hfin hex;have hpd : ¬ fr.getD sink.toNat 0 = -2->eI busy ab sink=some (ab++i8 fr 25 sink []):=fun h=>by rw[hex,if_neg h]
       have hpn:fr.getD sink.toNat 0 = -2->eI busy ab sink=none:=fun h=>by rw[hex,if_pos h]
       repeat' first|simp (disch:=first|assumption|omega|simp;try omega) only[go_sem,seval,ag,aC]|(with_reducible first|apply aa|intro)|(try rw[ae]);omega
       ·rename_i h8;rw[hpn h8];refine sF (by simp) (by simp only[go_sem,seval]) ?_;simp only[go_sem,seval]
       rename_i h8;rw[hpd h8];have hsm:=(hfin.seen sink hs.1 hs.2).1 h8;obtain⟨p0,hp0,hpe⟩:=gm 0 hsm;simp only at hp0 hpe;clear hbn hst hpd hpn hex hkc;refine nl (σ:=Nat×Nat×List (Int×Int)) (fun s=>[(0,.d (aY ab)),(8,.sl 1 0 1 0 25),(15,.d (aY s.2.2)),(16,.d (dI (qu.getD s.2.1 0)))]) (fun s=>[.row g 1 true (busy.map D.bool),.row 0 1 true (fr.map (D.int .i64))])
        (fun s=>s.2.1<s.1/\s.2.1<qu.length/\s.1+s.2.2.length<=25/\i8 fr s.1 (qu.getD s.2.1 0) s.2.2=i8 fr 25 sink []) (fun s=>s.1) [] [] 1000 1000 ?_ ?_
       ·simp only[go_sem,seval];refine⟨(25,p0,[]),⟨by simp only;omega,hp0,by simp,by rw[hpe]⟩,?_⟩;simp only[List.map_nil,true_and,and_true];first|exact hpe.symm|exact⟨rfl,hpe.symm⟩|(rw[hpe];simp;done)|(rw[hpe])
       ·rintro⟨f,p,acc⟩ ⟨hpf,hpq,hfa,hch⟩;simp only at hpf hpq hfa hch;have hpm:=hbi.rng _ (aO hpq:qu.getD p 0∈qu);have hroot:=hbi.root p hpq;simp only at hroot;obtain⟨f',rfl⟩ : ∃ f',f=f'+1:=⟨f-1,by omega⟩;have hcs:i8 fr (f'+1) (qu.getD p 0) acc=if 0<=fr.getD (qu.getD p 0).toNat 0 then i8 fr f' (fr.getD (qu.getD p 0).toNat 0) ((qu.getD p 0,fr.getD (qu.getD p 0).toNat 0)::acc) else acc:=rfl
        rw[hcs] at hch;by_cases hge:0<=fr.getD (qu.getD p 0).toNat 0
        ·rw[if_pos hge] at hch;obtain⟨m,hm1,hm2⟩ : ∃ m,m<p/\qu.getD m 0=fr.getD (qu.getD p 0).toNat 0:=by
          rcases hroot with⟨h1,-⟩|⟨-,-,-,m,h4,h5,-⟩
          ·omega
          ·exact⟨m,h4,h5⟩
         generalize qu.getD p 0=tt at *
         generalize hv9:fr.getD tt.toNat 0=v at *
         repeat' first|simp (disch:=first|assumption|omega|simp;try omega) only[go_sem,seval,hv9,ag,aC]|(with_reducible first|apply aa|intro)|(try rw[ae]);omega
         refine⟨(f',m,(tt,v)::acc),⟨by simp only;omega,by simp only;omega,by simp only[eD];omega,by simp only;rw[hm2];exact hch⟩,by simp only;omega,?_⟩;exact⟨rfl,hm2.symm⟩
        ·rw[if_neg hge] at hch;generalize qu.getD p 0=tt at *
         repeat' first|simp (disch:=first|assumption|omega|simp;try omega) only[go_sem,seval,ag,aC]|(with_reducible first|apply aa|intro)|(try rw[ae]);omega
         refine sF (by simp) (by simp only[go_sem,seval]) ?_;simp only[go_sem,seval];rw[ag (by simp),hch]

def oT (s:BS):List (D×D):=s.2.map fun t=>(dI t,dI (s.1.getD t.toNat 0))
def bx (l:ZB):ZE:=l.map fun b=>.d (.bool b)
@[go_sem] def tX {K:ZF} : ∀ {l:ZB},kR K (bx l) (bx l)=True
 | []=>rfl
 | b::l=>by
  show(cZ K (.d (.bool b)) (.d (.bool b))/\kR K (bx l) (bx l))=True
  rw[tX];simp only[go_sem,and_true]
@[go_sem] def Rn {m:Nat} : ∀ {l:ZB},mD m (bx l)=True
 | []=>rfl
 | b::l=>by
  show((I.d (.bool b)).aJ m/\mD m (bx l))=True
  rw[Rn];simp only[go_sem,and_true]
@[go_sem] def uA {ρ : Nat->Nat} : ∀ {l:ZB},eT ρ (bx l)=bx l
 | []=>rfl
 | b::l=>by
  show aV ρ (.d (.bool b))::eT ρ (bx l)=_
  rw[uA];rfl
@[go_sem] def zru:(bx l).length=l.length:=by simp[bx]
def FO (h:k<l.length):(bx l).getD k .junk=.d (.bool (l.getD k false)):=cn _ _ _ _ _ h
def KL {b:Bool}:(bx l).set k (.d (.bool b))=bx (l.set k b):=by simp[bx,List.map_set]
def Fz (g:Int->D) (x:Int) : ∀ l:ZA,fR (l.map fun t=>(dI t,g t)) (dI x)=if x∈l then some (g x) else none
 | []=>rfl
 | y::l=>by
  have ih:=Fz g x l;show fR ((dI y,g y)::l.map fun t=>(dI t,g t)) _=_
  rw[Bs,zV];by_cases h:x=y
  ·subst h;simp
  ·rw[decide_eq_false h];simp only[eE,if_false,ih,jY,h,false_or]
def FC (g:Int->D) (x:Int) (v:D) : ∀ l:ZA,x∉l->bU (l.map fun t=>(dI t,g t)) (dI x) v=(l.map fun t=>(dI t,g t)) ++ [(dI x,v)]
 | [],_=>rfl
 | y::l,hx=>by
  rw[jY,not_or] at hx;have ih:=FC g x v l hx.2;show bU ((dI y,g y)::l.map fun t=>(dI t,g t)) _ _=_
  rw[bU,zV,decide_eq_false hx.1];simp only[eE,if_false,ih];rfl
def NM (g:Int->D) (l:ZA):jN (.int .i64) (l.map fun t=>(dI t,g t)):=by
 rw[y0];intro e he;obtain⟨x,_,rfl⟩:=List.mem_map.1 he;exact rfl
def zd (s:BS):jN (.int .i64) (oT s):=NM (fun t=>dI (s.1.getD t.toNat 0)) s.2
def RU {busy:ZB}{T:ZA}{s:BS}(h:ci busy T s) (hn:0<=n/\n<=24) (hm:n∉s.2):oT (s.1.set n.toNat q,s.2 ++ [n])=oT s ++ [(dI n,dI q)]:=by
 have hl:=h.len;have e : ∀ t,t∈s.2->(s.1.set n.toNat q).getD t.toNat 0=s.1.getD t.toNat 0:=fun t ht=>by
  have:=h.rng t ht;rw[sL (by omega),if_neg];intro e;have:t=n:=by omega
  subst this;exact hm ht
 unfold oT;rw[gw];congr 1
 ·exact sH fun t ht=>by
   show(dI t,dI ((s.1.set n.toNat q).getD t.toNat 0))=_
   rw[e t ht]
 ·show [(dI n,dI ((s.1.set n.toNat q).getD n.toNat 0))]=_
  rw[sL (by omega),if_pos rfl]
def sS (t:Int):ZA:=[gV t,oS t,oF t,oP t]
def nW (busy:ZB) (q:Int) (s:BS) (n:Int):BS:=if n<0 then s else iz busy q s n
def HW (hq:0<=q/\q<=24) (h:n∈sS q):n<0∨n∈dO q:=by
 simp only[sS,jY,List.not_mem_nil,or_false] at h;unfold dO gV oS oF oP at *
 simp only[gM];rcases h with h|h|h|h <;> split at h
 ·exact .inr (.inl (.inl (.inl (by simp[*]))))
 ·exact .inl (by omega)
 ·exact .inr (.inl (.inl (.inr (by simp[*]))))
 ·exact .inl (by omega)
 ·exact .inr (.inl (.inr (by simp[*])))
 ·exact .inl (by omega)
 ·exact .inr (.inr (by simp[*]))
 ·exact .inl (by omega)
def Qk (hq:0<=q/\q<=24) (busy:ZB) (s:BS):(sS q).foldl (nW busy q) s=dq busy s q:=by
 have e : ∀ (s:BS) (n:Int) (p:Prop) [Decidable p],(p->0<=n)->nW busy q s (if p then n else -1)=(if p then [n] else []).foldl (iz busy q) s:=by
  intro s n p _ h;split
  ·rename_i hp;have:=h hp;rw[nW,if_neg (by omega)];rfl
  ·rfl
 unfold dq dO sS gV oS oF oP;simp only[ng,e6,List.foldl_nil];rw[e _ _ _ (by omega),e _ _ _ (by omega),e _ _ _ (by omega),e _ _ _ (by omega)]
def E3 {busy:ZB}{T:ZA}{q:Int}(hq:0<=q/\q<=24) : ∀ (l:ZA) {s:BS},ci busy T s->q∈s.2->(∀ n∈l,n<0∨n∈dO q)->ci busy T (l.foldl (nW busy q) s)/\da s (l.foldl (nW busy q) s)
 | [],s,h,_,_=>⟨h,da.rfl s⟩
 | n::l,s,h,hm,hl=>by
  rw[e6];by_cases hn:n<0
  ·rw[nW,if_pos hn];exact E3 hq l h hm fun m hm2=>hl m (by simp[hm2])
  ·rw[nW,if_neg hn];have hnb:=(hl n (by simp)).resolve_left hn;have m1:=Jf h (q:=q) (yW hq n hnb).1;obtain⟨r,hr⟩:=m1.1;obtain⟨a1,a2⟩:=E3 hq l (h.step hm hnb) (by rw[hr];exact np _ hm) fun m hm2=>hl m (by simp[hm2])
   exact⟨a1,m1.trans a2⟩
def Tryz.yA (g:Nat) (busy:List ZB) (ab:List (Int×Int)) (sink:Int) (u:Nat) (hu:u<8) (ht:bO (busy.getD u []) ab) (hs:0<=sink/\sink<=24) :
  aA prog 211 [.ptr 0 0,.sl 1 g 2 0 ab.length,.d (dI sink),.d (dI u)] [.box (bx (fq busy)),.row g 2 true (ab.map fun x=>dP x)]
   (fun r H'=>r=.d (.tup [aY (((eI (busy.getD u []) ab sink).getD []).drop ab.length),dB (eI (busy.getD u []) ab sink).isSome])/\H'=[.box (bx (fq busy)),.row g 2 true (ab.map fun x=>dP x)]):=by
 have hhl:=sG ht;refine xN rfl 1000 func211 rfl rfl ntmps211 (by simp) ?_;simp only[go_sem,seval,-List.reduceReplicate]
 repeat' first|simp (disch:=first|assumption|omega|simp;try omega) only[ag];try simp only[go_sem,seval,-List.reduceReplicate]|(with_reducible first|apply aa|intro)|(try rw[ae]);omega
 refine A4 (σ:=Nat) (fun i=>[(0,.ptr 0 0),(2,.d (dI sink)),(3,.d (dI u)),(10,.map 2),(11,.sl 3 i 1 0 i),(22,.sl 1 g 2 0 ab.length),(23,.d (dI ab.length)),(24,.d (dI i))])
  (fun i=>[.box (bx (fq busy)),.row g 2 true (ab.map fun x=>dP x),.map ((a9 (ab.take i)).map fun t=>(dI t,dI (-1))),.row i 1 true ((a9 (ab.take i)).map (D.int .i64))]) (fun i=>i<=ab.length) (fun i=>ab.length-i) [] [(11,1,true)] 1000 1000 ?_ ?_
 ·simp only[go_sem,seval,-List.reduceReplicate];exact⟨0,by omega,by simp[a9]⟩
 ·intro i hi;have hql:(a9 (ab.take i)).length=i:=by simp[a9];omega
  by_cases hit:i<ab.length
  ·have hts:a9 (ab.take (i+1))=a9 (ab.take i) ++ [(ab.getD i (0,0)).1]:=nm (0,0) hit;have hni:(ab.getD i (0,0)).1∉a9 (ab.take i):=fun hm=>by
    obtain⟨x,hx,he⟩:=List.mem_map.1 hm;obtain⟨j,hj,rfl⟩:=gm (0,0) hx;have hj2:j<i:=by simp at hj;omega
    have e:(ab.take i).getD j (0,0)=ab.getD j (0,0):=by simp[List.getD,List.getElem?_take,hj2]
    rw[e] at he;have:=Pf ht.nd (by omega) hit he;omega
   have eu:=FC (fun _=>dI (-1)) _ (dI (-1)) _ hni;have hks:=NM (fun _=>dI (-1)) (a9 (ab.take i));have hr:=ht.rng _ (aO hit:ab.getD i (0,0)∈ab);generalize a9 (ab.take i)=q at *
   generalize hx9:ab.getD i (0,0)=x at *
   simp only[go_sem,seval,-List.reduceReplicate,hx9,eu]
   repeat' first|simp (disch:=first|assumption|omega|simp;try omega) only[ag];try simp only[go_sem,seval,-List.reduceReplicate,hx9,eu,hql]|(with_reducible first|apply aa|intro)|(try rw[ae]);omega
   refine⟨i+1,by omega,by omega,rfl,?_⟩;rw[hts];simp
  ·obtain rfl:i=ab.length:=by omega
   rw[ig];have e0:((a9 ab).map fun t=>(dI t,dI (-1)))=oT (cv ab):=by
    refine sH fun t ht2=>?_
    obtain⟨x,hx,rfl⟩:=List.mem_map.1 ht2;have:=ht.rng x hx;show _=(dI x.1,dI ((nL ab).getD x.1.toNat 0))
    rw[Cz ht.rng this.1 this.2,if_pos ht2]
   rw[e0];simp only[go_sem,seval,-List.reduceReplicate]
   repeat' first|simp (disch:=first|assumption|omega|simp;try omega) only[ag];try simp only[go_sem,seval,-List.reduceReplicate]|(with_reducible first|apply aa|intro)|(try rw[ae]);omega
   have hinv : ∀ k,(∀ j,j<k->j<(bn (busy.getD u []) (cv ab) j).2.length)->ci (busy.getD u []) (a9 ab) (bn (busy.getD u []) (cv ab) k):=fun k=>xg (zE ht.rng ht.nd) k
   refine A4 (σ:=Nat) (fun k=>[(0,.ptr 0 0),(2,.d (dI sink)),(3,.d (dI u)),(10,.map 2),(11,.sl 3 (bn (busy.getD u []) (cv ab) k).2.length 1 0 (bn (busy.getD u []) (cv ab) k).2.length),(14,.d (dI k))])
    (fun k=>[.box (bx (fq busy)),.row g 2 true (ab.map fun x=>dP x),.map (oT (bn (busy.getD u []) (cv ab) k)),.row (bn (busy.getD u []) (cv ab) k).2.length 1 true ((bn (busy.getD u []) (cv ab) k).2.map (D.int .i64))]) (fun k=>k<=(bn (busy.getD u []) (cv ab) k).2.length/\(∀ j,j<k->j<(bn (busy.getD u []) (cv ab) j).2.length)/\∀ j,j<k->(bn (busy.getD u []) (cv ab) k).2.getD j 0≠sink) (fun k=>26-k) [] [] 1000 1000 ?_ ?_
   ·simp only[go_sem,seval,-List.reduceReplicate];refine⟨0,⟨by omega,by omega,by omega⟩,?_⟩;have:(a9 ab).length=ab.length:=by simp[a9]
    simp[bn,cv,this]
   ·rintro k ⟨hk,hj,hne⟩;have hbi:=hinv k hj;have hql:=hbi.nC;have hxn:=ON ht hs hj;have hxs:=N8 ht hs hj;have hvs:bn (busy.getD u []) (cv ab) (k+1)=dq (busy.getD u []) (bn (busy.getD u []) (cv ab) k) ((bn (busy.getD u []) (cv ab) k).2.getD k 0):=rfl;generalize hS:bn (busy.getD u []) (cv ab) k=S at *
    obtain⟨fr,qu⟩:=S;simp only at hk hne hql hxn hxs hvs;by_cases hlt:k<qu.length
    ·have hqm:=aO hlt (z:=(0:Int));have hqr:=hbi.rng _ hqm;by_cases heq:qu.getD k 0=sink
     ·have hx:=hxs hlt heq;rw[hx];simp only[go_sem,seval,-List.reduceReplicate,heq]
      repeat' first|simp (disch:=first|assumption|omega|simp;try omega) only[ag];try simp only[go_sem,seval,-List.reduceReplicate,heq]|(with_reducible first|apply aa|intro)|(try rw[ae]);omega
      have hfE : ∀ x,x∈qu->fR (oT (fr,qu)) (dI x)=some (dI (fr.getD x.toNat 0)):=fun x hx=>by rw[oT,Fz,if_pos hx]
      clear hx hxs hxn hvs;refine A4 (σ:=Nat×Nat×List (Int×Int)) (fun s=>[(10,.map 2),(15,.d (aY s.2.2)),(16,.d (dI (qu.getD s.2.1 0)))]) (fun s=>[.box (bx (fq busy)),.row g 2 true (ab.map fun x=>dP x),.map (oT (fr,qu))])
       (fun s=>s.2.1<s.1/\s.2.1<qu.length/\s.1+s.2.2.length<=25/\i8 fr s.1 (qu.getD s.2.1 0) s.2.2=i8 fr 25 sink []) (fun s=>s.1) [] [] 1000 1000 ?_ ?_
      ·simp only[go_sem,seval,-List.reduceReplicate];refine⟨(25,k,[]),⟨by simp only;omega,hlt,by simp,by rw[heq]⟩,?_⟩;simp only[List.map_nil,true_and,and_true];exact heq.symm
      ·rintro⟨f,p,acc⟩ ⟨hpf,hpq,hfa,hch⟩;simp only at hpf hpq hfa hch;have hpm0:=aO hpq (z:=(0:Int));have hpm:=hbi.rng _ hpm0;have hroot:=hbi.root p hpq;have hff:=hfE _ hpm0;simp only at hroot;obtain⟨f',rfl⟩ : ∃ f',f=f'+1:=⟨f-1,by omega⟩;have hcs:i8 fr (f'+1) (qu.getD p 0) acc=if 0<=fr.getD (qu.getD p 0).toNat 0 then i8 fr f' (fr.getD (qu.getD p 0).toNat 0) ((qu.getD p 0,fr.getD (qu.getD p 0).toNat 0)::acc) else acc:=rfl
       rw[hcs] at hch;by_cases hge:0<=fr.getD (qu.getD p 0).toNat 0
       ·rw[if_pos hge] at hch;obtain⟨m,hm1,hm2⟩ : ∃ m,m<p/\qu.getD m 0=fr.getD (qu.getD p 0).toNat 0:=by
         rcases hroot with⟨h1,-⟩|⟨-,-,-,m,h4,h5,-⟩
         ·omega
         ·exact⟨m,h4,h5⟩
        generalize qu.getD p 0=tt at *
        generalize hv9:fr.getD tt.toNat 0=v at *
        simp only[go_sem,seval,-List.reduceReplicate,hv9,hff,cP]
        repeat' first|simp (disch:=first|assumption|omega|simp;try omega) only[ag];try simp only[go_sem,seval,-List.reduceReplicate,hv9,hff,cP]|(with_reducible first|apply aa|intro)|(try rw[ae]);omega
        all_goals first|exact zd _|skip
        refine⟨(f',m,(tt,v)::acc),⟨by simp only;omega,by simp only;omega,by simp only[eD];omega,by simp only;rw[hm2];exact hch⟩,by simp only;omega,?_⟩;exact⟨rfl,hm2.symm⟩
       ·rw[if_neg hge] at hch;generalize qu.getD p 0=tt at *
        simp only[go_sem,seval,-List.reduceReplicate,hff,cP]
        repeat' first|simp (disch:=first|assumption|omega|simp;try omega) only[ag];try simp only[go_sem,seval,-List.reduceReplicate,hff,cP]|(with_reducible first|apply aa|intro)|(try rw[ae]);omega
        all_goals first|exact zd _|skip
        rw[<-hch,List.drop_left];refine fI (r0:=.d (.tup [aY acc,dB true])) (H1:=[.box (bx (fq busy)),.row g 2 true (ab.map fun x=>dP x)]) ?_ ⟨rfl,rfl⟩;simp only[go_sem,seval,-List.reduceReplicate]
     ·have hnb:=cC (qu.getD k 0) hqr;generalize hq9:qu.getD k 0=q at *
      simp only[go_sem,seval,-List.reduceReplicate,hq9]
      repeat' first|simp (disch:=first|assumption|omega|simp;try omega) only[ag];try simp only[go_sem,seval,-List.reduceReplicate,hq9]|(with_reducible first|apply aa|intro)|(refine az hnb ?_;simp only[go_sem,seval,-List.reduceReplicate,hq9])|(try rw[ae]);omega
      have hfold:=Qk hqr (busy.getD u []) (fr,qu);have hsx:=fun i=>E3 (busy:=busy.getD u []) hqr ((sS q).take i) hbi hqm fun n hn=>HW hqr (kG hn)
      have hgn:(D.agg [dI (gV q),dI (oS q),dI (oF q),dI (oP q)])=.agg ((sS q).map fun x=>dI x):=rfl;have hnl:(sS q).length=4:=rfl;rw[hgn];generalize hnb4:sS q=N at *
      refine A4 (σ:=Nat) (fun i=>[(0,.ptr 0 0),(2,.d (dI sink)),(3,.d (dI u)),(10,.map 2),(11,.sl 3 ((N.take i).foldl (nW (busy.getD u []) q) (fr,qu)).2.length 1 0 ((N.take i).foldl (nW (busy.getD u []) q) (fr,qu)).2.length),(14,.d (dI k)),(70,.d (.agg (N.map fun x=>dI x))),(71,.d (dI i))])
       (fun i=>[.box (bx (fq busy)),.row g 2 true (ab.map fun x=>dP x),.map (oT ((N.take i).foldl (nW (busy.getD u []) q) (fr,qu))),.row ((N.take i).foldl (nW (busy.getD u []) q) (fr,qu)).2.length 1 true (((N.take i).foldl (nW (busy.getD u []) q) (fr,qu)).2.map (D.int .i64))]) (fun i=>i<=4) (fun i=>4-i) [] [] 1000 1000 ?_ ?_
      ·simp only[go_sem,seval,-List.reduceReplicate];exact⟨0,by omega,by simp⟩
      ·intro i hi;obtain⟨hSi,hSm⟩:=hsx i;obtain⟨⟨r,hr⟩,hSm2⟩:=hSm;by_cases hit:i<4
       ·have hfs:=iH (f:=nW (busy.getD u []) q) (b:=(fr,qu)) (0:Int) (by omega:i<N.length);have hnm:=HW hqr (by rw[hnb4];exact aO (by omega):N.getD i 0∈sS q);have hnr:=fun h=>yW hqr (N.getD i 0) h
        generalize hS2:(N.take i).foldl (nW (busy.getD u []) q) (fr,qu)=S at *
        obtain⟨f2,q2⟩:=S;have hq2l:=hSi.nC;simp only at hr hq2l;have hk3:k<q2.length:=by rw[hr];simp;omega
        have hqk:q2.getD k 0=q:=by rw[hr,cW hlt];exact hq9
        generalize hn9:N.getD i 0=n at *
        have hN:(N.map fun x=>dI x).getD i D.nil=dI n:=by rw[<-hn9];simp[List.getD,show i<N.length by omega]
        have hlook : ∀ x,fR (oT (f2,q2)) (dI x)=if x∈q2 then some (dI (f2.getD x.toNat 0)) else none:=fun x=>by rw[oT,Fz]
        have hse:nW (busy.getD u []) q (f2,q2) n=if n<0 then(f2,q2) else if f2.getD n.toNat 0 = -2/\(busy.getD u []).getD n.toNat false=false then(f2.set n.toNat q,q2 ++ [n]) else(f2,q2):=rfl
        have hlkn:=hlook n;rw[hse] at hfs;by_cases hneg:n<0
        ·rw[if_pos hneg] at hfs;have hd:decide (n<0)=true:=decide_eq_true hneg;have hbx:(bx (fq busy)).getD (n.toNat*8+u) I.junk=.d (.bool ((fq busy).getD u false)):=by
          have e0:n.toNat*8+u=u:=by omega
          rw[e0,FO (by rw[ol];omega)]
         simp only[go_sem,seval,-List.reduceReplicate,hqk,hN,jL,hd,hbx,hlkn]
         repeat' first|simp (disch:=first|assumption|omega|simp;try omega) only[ag];try simp only[go_sem,seval,-List.reduceReplicate,hqk,hN,jL,hd,hbx,hlkn]|(with_reducible first|apply aa|intro)|(try rw[ae]);omega
         all_goals first|exact zd _|skip
         refine⟨i+1,by omega,by omega,?_⟩;rw[hfs];exact⟨⟨rfl,rfl⟩,rfl,rfl,rfl⟩
        ·rw[if_neg hneg] at hfs;have hnb2:=hnm.resolve_left hneg;have hn2:=(hnr hnb2).1;have hbx:(bx (fq busy)).getD (n.toNat*8+u) I.junk=.d (.bool ((busy.getD u []).getD n.toNat false)):=by
          rw[FO (by rw[ol];omega),J7 (by omega) hu]
         have hd:decide (n<0)=false:=decide_eq_false hneg;have hseen:=hSi.seen n hn2.1 hn2.2;simp only at hseen;by_cases hb:(busy.getD u []).getD n.toNat false=true
         ·rw[if_neg (by rw[hb];simp)] at hfs;rw[hb] at hbx;simp only[go_sem,seval,-List.reduceReplicate,hqk,hN,jL,hd,hbx,ol]
          repeat' first|simp (disch:=first|assumption|omega|simp;try omega) only[ag];try simp only[go_sem,seval,-List.reduceReplicate,hqk,hN,jL,hd,hbx,ol]|(with_reducible first|apply aa|intro)|(try rw[ae]);omega
          all_goals first|exact zd _|skip
          refine⟨i+1,by omega,by omega,?_⟩;rw[hfs];exact⟨⟨rfl,rfl⟩,rfl,rfl,rfl⟩
         ·have hb2:(busy.getD u []).getD n.toNat false=false:=by simpa using hb
          rw[hb2] at hbx;by_cases hm:n∈q2
          ·rw[if_pos hm] at hlkn;rw[if_neg (fun h=>hseen.2 hm h.1)] at hfs;simp only[go_sem,seval,-List.reduceReplicate,hqk,hN,jL,hd,hbx,ol,hlkn]
           repeat' first|simp (disch:=first|assumption|omega|simp;try omega) only[ag];try simp only[go_sem,seval,-List.reduceReplicate,hqk,hN,jL,hd,hbx,ol,hlkn]|(with_reducible first|apply aa|intro)|(try rw[ae]);omega
           all_goals first|exact zd _|skip
           refine⟨i+1,by omega,by omega,?_⟩;rw[hfs];exact⟨⟨rfl,rfl⟩,rfl,rfl,rfl⟩
          ·rw[if_neg hm] at hlkn;rw[if_pos ⟨Decidable.byContradiction fun h=>hm (hseen.1 h),hb2⟩] at hfs;have hpush:=RU hSi (q:=q) hn2 hm;have hupd:bU (oT (f2,q2)) (dI n) (dI q)=oT (f2,q2) ++ [(dI n,dI q)]:=FC (fun t=>dI (f2.getD t.toNat 0)) n (dI q) q2 hm;simp only[go_sem,seval,-List.reduceReplicate,hqk,hN,jL,hd,hbx,ol,hlkn,hupd]
           repeat' first|simp (disch:=first|assumption|omega|simp;try omega) only[ag];try simp only[go_sem,seval,-List.reduceReplicate,hqk,hN,jL,hd,hbx,ol,hlkn,hupd]|(with_reducible first|apply aa|intro)|(try rw[ae]);omega
           all_goals first|exact zd _|skip
           refine⟨i+1,by omega,by omega,?_⟩;rw[hfs,hpush];exact⟨⟨by simp,rfl⟩,rfl,by simp,rfl⟩
       ·obtain rfl:i=4:=by omega
        have e:N.take 4=N:=ag (by omega);rw[e,hfold,<-hvs];rw[e,hfold,<-hvs] at hr;simp only at hr;simp only[go_sem,seval,-List.reduceReplicate]
        repeat' first|simp (disch:=first|assumption|omega|simp;try omega) only[ag];try simp only[go_sem,seval,-List.reduceReplicate]|(with_reducible first|apply aa|intro)|(try rw[ae]);omega
        refine⟨k+1,⟨by rw[hr];simp;omega,fun j hj2=>?_,fun j hj2 he=>?_⟩,by omega,⟨rfl,rfl⟩,rfl,rfl,rfl⟩
        ·by_cases e:j=k
         ·subst e;rw[hS];exact hlt
         ·exact hj j (by omega)
        ·rw[hr] at he;by_cases e:j=k
         ·subst e;rw[cW hlt,hq9] at he;exact heq he
         ·rw[cW (by omega)] at he;exact hne j (by omega) he
    ·have hke:k=qu.length:=by omega
     have hx:=hxn hke (fun hm=>by
      obtain⟨j,hj2,he⟩:=gm 0 hm;exact hne j (by omega) he)
     rw[hx];simp only[go_sem,seval,-List.reduceReplicate]
     repeat' first|simp (disch:=first|assumption|omega|simp;try omega) only[ag];try simp only[go_sem,seval,-List.reduceReplicate]|(with_reducible first|apply aa|intro)|(try rw[ae]);omega
     refine fI (r0:=.d (.tup [aY [],dB false])) (H1:=[.box (bx (fq busy)),.row g 2 true (ab.map fun x=>dP x)]) ?_ ⟨rfl,rfl⟩;simp only[go_sem,seval,-List.reduceReplicate]

def Sn (busy:List ZB) (o:Option (List (Int×Int))) (r:I) (H':ZF):Prop:=
 match o with
 | none=>r=.tup [.d .nil,.d (dB false)]/\H'=[.box (bx (fq busy))]
 | some h=>∃ g,r=.tup [.sl 1 g 2 0 h.length,.d (dB true)]/\H'=[.box (bx (fq busy)),.row g 2 true (h.map fun x=>dP x)]
def Tryz.xL (busy:List ZB) (tiles:ZA) (u:Nat) (hu:u<8) (hne:tiles≠[]) (hr : ∀ t∈tiles,0<=t/\t<=24) (htl:tiles.length<=1000) :
  aA prog 188 [.ptr 0 0,.d (aj tiles),.d (dI u)] [.box (bx (fq busy))] (Sn busy (ly (busy.getD u []) tiles)):=by
 obtain⟨t0,l,rfl⟩ : ∃ t0 l,tiles=t0::l:=by
  cases tiles with
  | nil=>exact absurd rfl hne
  | cons t0 l=>exact⟨t0,l,rfl⟩
 have h0:=hr t0 (by simp);have hl:l.length<=1000:=by simp at htl;omega
 have hT:ly (busy.getD u []) (t0::l)=if(busy.getD u []).getD t0.toNat false=true then none else l.foldl (fun o t=>o.bind fun ab=>eI (busy.getD u []) ab t) (some [(t0,-1)]):=rfl;have hbx:(bx (fq busy)).getD (t0.toNat*8+u) I.junk=.d (.bool ((busy.getD u []).getD t0.toNat false)):=by
  rw[FO (by rw[ol];omega),J7 (by omega) hu]
 rw[hT];refine i9 rfl 1000 func188 rfl rfl ntmps188 (by simp) ?_
 repeat' first|simp (disch:=omega) only[go_sem,seval,hbx,jL,ol,ag]|(with_reducible first|apply aa|intro)|exact ah|(try rw[ae]);omega
 ·rename_i hb;rw[if_pos hb];exact n5 ⟨rfl,rfl⟩
 rename_i hb;rw[if_neg (by rw[hb];simp)];have base:bO (busy.getD u []) [(t0,-1)]:=by
  refine⟨fun x hx=>?_,by simp[a9],fun x hx=>?_,by simp,fun j hj=>?_⟩
  ·obtain rfl:x=(t0,-1):=by simpa using hx
   exact h0
  ·obtain rfl:x=(t0,-1):=by simpa using hx
   simpa using hb
  ·obtain rfl:j=0:=by simpa using hj
   exact .inl ⟨rfl,rfl⟩
 have hrl : ∀ t∈l,0<=t/\t<=24:=fun t ht=>hr t (by simp[ht])
 refine nl (σ:=Nat×Nat×List (Int×Int)) (fun s=>[(0,.ptr 0 0),(2,.d (dI u)),(8,.sl 1 s.2.1 2 0 s.2.2.length),(29,.d (aj l)),(30,.d (dI l.length)),(31,.d (dI s.1))])
  (fun s=>[.box (bx (fq busy)),.row s.2.1 2 true (s.2.2.map fun x=>dP x)]) (fun s=>s.1<=l.length/\bO (busy.getD u []) s.2.2/\(l.take s.1).foldl (fun o t=>o.bind fun ab=>eI (busy.getD u []) ab t) (some [(t0,-1)])=some s.2.2) (fun s=>l.length-s.1) [] [] 1000 1000 ?_ ?_
 ·simp only[go_sem,seval];exact⟨(0,0,[(t0,-1)]),⟨by simp,base,by simp⟩,by simp⟩
 ·rintro⟨i,g,ab⟩ ⟨hi,ht,hf⟩;simp only at hi ht hf;have hhl:=sG ht;by_cases hlt:i<l.length
  ·have hfs:=iH (f:=fun(o:Option (List (Int×Int))) (t:Int)=>o.bind fun ab=>eI (busy.getD u []) ab t) (b:=some [(t0,-1)]) (0:Int) hlt;rw[hf,sZ] at hfs;have htr:=hrl _ (aO hlt:l.getD i 0∈l);generalize hx9:l.getD i 0=x at *
   have hpa:=yA g busy ab x u hu ht htr;have hdrop:l.foldl (fun o t=>o.bind fun ab=>eI (busy.getD u []) ab t) (some [(t0,-1)])=(l.drop (i+1)).foldl (fun o t=>o.bind fun ab=>eI (busy.getD u []) ab t) (eI (busy.getD u []) ab x):=by
    conv=>lhs;rw[<-xS (i+1) l]
    rw[ng,hfs]
   repeat' first|simp (disch:=omega) only[go_sem,seval,hx9,ag]|(with_reducible first|apply aa|intro)|exact ah|(try rw[ae]);omega
   refine c7 hpa [0,1] (by simp only[go_sem,seval]) ?_;rintro r0 H1 ⟨rfl,rfl⟩;cases hex:eI (busy.getD u []) ab x with
   | none=>
    rw[hex,CT] at hdrop;rw[hdrop]
    repeat' first|simp (disch:=omega) only[go_sem,seval,ag]|(with_reducible first|apply aa|intro)|exact ah|(try rw[ae]);omega
    refine fI (r0:=.tup [.d .nil,.d (dB false)]) (H1:=[.box (bx (fq busy))]) ?_ ⟨rfl,rfl⟩;simp only[go_sem,seval]
   | some h2=>
    obtain⟨a1,a2,r1,a3⟩:=Dx ht htr hex;have hl2:=sG a1;rw[hex] at hfs;subst a3
    repeat' first|simp (disch:=omega) only[go_sem,seval,cP,List.drop_left,ag]|(with_reducible first|apply aa|intro)|exact ah|(try rw[ae]);omega
    ·have hll:(ab++r1).length=ab.length+r1.length:=b8 ..;omega
    ·refine⟨(i+1,g+1,ab++r1),⟨by simp only;omega,a1,hfs⟩,by simp only;omega,⟨⟨rfl,by simp⟩,rfl⟩,rfl,rfl⟩
  ·obtain rfl:i=l.length:=by omega
   rw[ig] at hf;rw[hf]
   repeat' first|simp (disch:=omega) only[go_sem,seval,ag]|(with_reducible first|apply aa|intro)|exact ah|(try rw[ae]);omega
   exact n5 ⟨_,rfl,rfl⟩
end Go.Proofs
