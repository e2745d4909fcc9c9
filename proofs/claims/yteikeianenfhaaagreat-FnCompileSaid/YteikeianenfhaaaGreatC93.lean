/- Contracts, plain definitions and lemmas. Conditions: none; lemmas. -/
import Derived.Test.YteikeianenfhaaaGreatC61
import Derived.Test.YteikeianenfhaaaGreatC12
set_option maxRecDepth 20000
set_option linter.unusedSimpArgs false
set_option linter.unusedVariables false
set_option maxHeartbeats 2000000
set_option linter.defProp false
namespace Go.Proofs
open Go Go.VL Tryz
variable {c:ac}{leaves:ZA}{x i:Nat}{v:Int}{l:List ZA}{z:D}
abbrev Kn:=List (Int×Bool)
variable {m:Kn}
def kn (m:Kn) (k:Int):Option Bool:=(m.find? fun e=>decide (e.1=k)).map fun e=>e.2
def iB:Kn->Int->Bool->Kn
 | [],k,b=>[(k,b)]
 | e::r,k,b=>if e.1=k then(k,b)::r else e::iB r k b
def yp (k:Int) (b:Bool) (j:Int) : ∀ m,kn (iB m k b) j=if j=k then some b else kn m j
 | []=>by by_cases h:j=k <;> simp[kn,iB,h,eq_comm]
 | e::r=>by
  have ih:=yp k b j r;unfold iB;by_cases h:e.1=k
  ·rw[if_pos h];by_cases h2:j=k
   ·simp[kn,h2]
   ·have h3 : ¬ e.1=j:=fun h4=>h2 (by rw[<-h4,h])
    have h4 : ¬ k=j:=fun h5=>h2 h5.symm
    simp[kn,h2,h3,h4]
  ·rw[if_neg h];by_cases h3:e.1=j
   ·have h2 : ¬ j=k:=fun h4=>h (by rw[h3,h4])
    simp[kn,h2,h3]
   ·unfold kn at ih ⊢;simp only[List.find?_cons,decide_eq_false h3,ih]
def kS (m:Kn):List (D×D):=m.map fun e=>(dI e.1,D.bool e.2)
def Es (k:Int) : ∀ m,fR (kS m) (dI k)=(kn m k).map D.bool
 | []=>rfl
 | e::r=>by
  have ih:=Es k r;show fR ((dI e.1,D.bool e.2)::kS r) _=_
  rw[Bs,zV];by_cases h:e.1=k
  ·subst h;simp[kn]
  ·rw[decide_eq_false (fun h2=>h h2.symm)];simp only[eE,if_false,ih];simp[kn,h]
def C9 (k:Int) (b:Bool) : ∀ m,bU (kS m) (dI k) (D.bool b)=kS (iB m k b)
 | []=>rfl
 | e::r=>by
  have ih:=C9 k b r;show bU ((dI e.1,D.bool e.2)::kS r) _ _=_
  rw[bU,zV];by_cases h:e.1=k
  ·subst h;simp[iB,kS]
  ·rw[decide_eq_false (fun h2=>h h2.symm)];simp only[eE,if_false,ih];simp[iB,kS,h]
def Cl (m:Kn):jN (.int .i64) (kS m):=by
 rw[y0];intro e he;obtain⟨x,_,rfl⟩:=List.mem_map.1 he;exact rfl
structure ju (c:ac) (leaves:ZA) (x:Nat) (m:Kn):Prop where
 val : ∀ k b,kn m k=some b->b=gA c leaves x k
 leaf : ∀ z∈leaves,kn m z≠none
def ju.up (h:ju c leaves x m) (k:Int):ju c leaves x (iB m k (gA c leaves x k)):=by
 refine⟨fun j b hj=>?_,fun z hz=>?_⟩
 ·rw[yp] at hj;split at hj
  ·rename_i e;subst e;simpa using hj.symm
  ·exact h.val j b hj
 ·rw[yp];split
  ·simp
  ·exact h.leaf z hz
def Jn {X:Bool}{T:ZF}(hm:ju c leaves x m) (hX:X=gA c leaves x v) :
  gI 1 (fun r H'=>∃ m',ju c leaves x m'/\r=I.d (dB (gA c leaves x v))/\H'=[R.map (kS m')]) (I.d (D.bool X)) (.map (bU (kS m) (dI v) (D.bool X))::T):=by
 subst hX;rw[C9];refine fI (r0:=.d (dB (gA c leaves x v))) (H1:=[.map (kS (iB m v (gA c leaves x v)))]) ?_ ⟨_,hm.up v,rfl,rfl⟩;simp only[go_sem,seval]
set_option maxHeartbeats 4000000 in
def Tryz.mO (c:ac) (hc:c.Valid) (leaves:ZA) (x:Nat) : ∀ (n:Nat) (v:Int) (m:Kn),v.toNat<n->0<=v->v<c.vars->ju c leaves x m->
  aA prog 208 [.d (pC c),.d (dI v),.map 0] [.map (kS m)] (fun r H'=>∃ m',ju c leaves x m'/\r=.d (dB (gA c leaves x v))/\H'=[.map (kS m')]):=by
 have hf:=hc.al;have hi0:=hc.i0;have hi1:=hc.i1;have hvv:=hc.aN;have hfst:=bi c (by omega);intro n;induction n with
 | zero=>intro v m h;omega
 | succ n ih=>
  intro v m hvn hv0 hv hm;have ek:=Es v m;have hks:=Cl m;have hnl:kn m v=none->v∉leaves:=fun h hv=>hm.leaf v hv h
  cases hkn:kn m v with
  | some b=>
   rw[hkn] at ek;refine i9 rfl 1000 func208 rfl rfl ntmps208 (by simp) ?_;simp only[go_sem,seval,ek,dE]
   repeat' first|simp (disch:=omega) only[];try simp only[go_sem,seval,ek,dE]|(with_reducible first|apply aa|intro)|(refine az hfst ?_;simp only[go_sem,seval,ek,dE])|(refine iu (fun _=>hfst) ?_;simp only[go_sem,seval,ek,dE])|(try rw[ae]);omega
   refine fI (r0:=.d (dB (gA c leaves x v))) (H1:=[.map (kS m)]) ?_ ⟨m,hm,rfl,rfl⟩;rw[<-hm.val v b hkn];simp only[go_sem,seval]
  | none=>
   rw[hkn] at ek;have hvl:=hnl hkn;by_cases hlow:v<c.first
   ·have hval:gA c leaves x v=false:=by rw[BT hv0 hlow,n9,if_neg hvl]
    refine i9 rfl 1000 func208 rfl rfl ntmps208 (by simp) ?_;simp only[go_sem,seval,ek,dh]
    repeat' first|simp (disch:=omega) only[];try simp only[go_sem,seval,ek,dh]|(with_reducible first|apply aa|intro)|(refine az hfst ?_;simp only[go_sem,seval,ek,dh])|(refine iu (fun _=>hfst) ?_;simp only[go_sem,seval,ek,dh])|(try rw[ae]);omega
    refine fI (r0:=.d (dB (gA c leaves x v))) (H1:=[.map (kS m)]) ?_ ⟨m,hm,rfl,rfl⟩;rw[hval];simp only[go_sem,seval]
   ·obtain⟨i,rfl⟩ : ∃ i:Nat,v=c.first+(i:Int):=⟨(v-c.first).toNat,by omega⟩
    have hi:i<c.gates.length:=by unfold ac.vars at hv;omega
    obtain⟨g1,g2⟩:=hc.g i hi;have hval:=CO hc (leaves:=leaves) (x:=x) hi;rw[n9,if_neg hvl] at hval;have ei:(c.first+(i:Int)-c.first).toNat=i:=by omega
    have ea:cV c i=(c.gates.getD i (0,0)).1:=rfl;have eb:cU c i=(c.gates.getD i (0,0)).2:=rfl;rw[ea,eb] at hval;unfold bm at g1 g2;have iha:=fun m hm=>ih ((c.gates.getD i (0,0)).1/2) m (by omega) (by omega) (by unfold ac.vars;omega) hm
    have ihb:=fun m hm=>ih ((c.gates.getD i (0,0)).2/2) m (by omega) (by omega) (by unfold ac.vars;omega) hm
    have hg : ∀ z,(c.gates.map fun x=>dP x).getD i z=dP (c.gates.getD i (0,0)):=fun z=>cn _ _ _ _ _ hi
    generalize c.gates.getD i (0,0)=gg at *
    obtain⟨ga,gb⟩:=gg;simp only at hval g1 g2 iha ihb;have ha2:((ga.toNat &&& 1:Nat):Int)=ga%2:=by rw[Nat.and_one_is_mod];omega
    have hb2:((gb.toNat &&& 1:Nat):Int)=gb%2:=by rw[Nat.and_one_is_mod];omega
    have cva : ∀ {m:Kn}{T:ZF}{K:I->ZF->Prop},ju c leaves x m->(∀ m',ju c leaves x m'->K (.d (dB (gA c leaves x (ga/2)))) (.map (kS m')::T))->
      aA prog 208 [.d (pC c),.d (dI (ga/2)),.map 0] (.map (kS m)::T) K:=fun {m T K} hm hk=>by
     refine c7 (iha m hm) [0] (by simp only[go_sem,seval]) ?_;rintro r0 H1 ⟨m',hm',rfl,rfl⟩;have:=hk m' hm';simp only[go_sem,seval];simpa using this
    have cvb : ∀ {m:Kn}{T:ZF}{K:I->ZF->Prop},ju c leaves x m->(∀ m',ju c leaves x m'->K (.d (dB (gA c leaves x (gb/2)))) (.map (kS m')::T))->
      aA prog 208 [.d (pC c),.d (dI (gb/2)),.map 0] (.map (kS m)::T) K:=fun {m T K} hm hk=>by
     refine c7 (ihb m hm) [0] (by simp only[go_sem,seval]) ?_;rintro r0 H1 ⟨m',hm',rfl,rfl⟩;have:=hk m' hm';simp only[go_sem,seval];simpa using this
    refine i9 rfl 1000 func208 rfl rfl ntmps208 (by simp) ?_;simp only[go_sem,seval,ek,dh,ei,hg]
    repeat' first|simp (disch:=omega) only[];try simp only[go_sem,seval,ek,dh,ei,hg]|(with_reducible first|apply aa|intro)|(refine az hfst ?_;simp only[go_sem,seval,ek,dh,ei,hg])|(refine iu (fun _=>hfst) ?_;simp only[go_sem,seval,ek,dh,ei,hg])|(try rw[ae]);omega
    refine co (n:=1) [11] (ax [0,1,2,4,5,3] (.two 6 (ax [7,8] (.two 9 (.one 10 (.one 11 .done)) 10 (.one 9 (.one 11 .done)))) 10 (.one 6 (ax [7,8] (.one 9 (.one 11 .done)))))) ?_;simp only[go_sem,seval,ek,dh,ei,hg]
    repeat' first|simp (disch:=omega) only[];try simp only[go_sem,seval,ek,dh,ei,hg]|(with_reducible first|apply aa|intro)|(refine az hfst ?_;simp only[go_sem,seval,ek,dh,ei,hg])|(refine iu (fun _=>hfst) ?_;simp only[go_sem,seval,ek,dh,ei,hg])|(try rw[ae]);omega
    all_goals (
     refine co (n:=1) [5,17] (ax [0,1,4,6,2,3] (.two 5 (.one 7 (ax [8,9,10,11,12,13,16,18] (.two 14 (.fst 15 (.two 17 (.one 19 (ax [20,21,22,23,24] .done)) 19 (ax [20,21] (.one 17 (ax [22,23,24] .done))))) 19 (ax [20,21] (.one 14 (.fst 15 (.one 17 (ax [22,23,24] .done)))))))) 7 (ax [8,9] (.one 5 (ax [10,11,12,13,16,18] (.two 14 (.fst 15 (.two 17 (.one 19 (ax [20,21,22,23,24] .done)) 19 (ax [20,21] (.one 17 (ax [22,23,24] .done))))) 19 (ax [20,21] (.one 14 (.fst 15 (.one 17 (ax [22,23,24] .done))))))))))) ?_;simp only[go_sem,seval,ha2,hb2]
     repeat' first|simp (disch:=omega) only[];try simp only[go_sem,seval,ha2,hb2]|(with_reducible first|apply aa|intro)|(refine cva (by assumption) ?_;simp only[go_sem,seval,ha2,hb2])|(refine cvb (by assumption) ?_;simp only[go_sem,seval,ha2,hb2])|(refine @Exists.intro I _ (I.d (D.bool false)) ?_;simp only[go_sem,seval,ha2,hb2])|(try rw[ae]);omega)
    all_goals first
     | exact Cl _
     | exact Jn (by assumption) hval.symm
     | exact Jn (by assumption) (by rw[hval];simp_all)

abbrev cg (l:List ZA):D:=.lst 1 (l.map fun x=>aj x)
abbrev wn (l:List (List ZA)):D:=.lst 1 (l.map fun x=>cg x)
def cx (h:i<l.length):(l.map fun x=>aj x).getD i z=aj (l.getD i []):=cn _ _ _ _ _ h
def dJ {l:List (List ZA)}(h:i<l.length):(l.map fun x=>cg x).getD i z=cg (l.getD i []):=cn _ _ _ _ _ h
def nm {α β : Type}{f : α->β}{l:List α}(z : α) (h:i<l.length):(l.take (i+1)).map f=(l.take i).map f ++ [f (l.getD i z)]:=by
 rw[la h,gw];simp[List.getD,h]
def drop_cons {l:ZA}(h:i<l.length):l.drop i=l.getD i 0::l.drop (i+1):=by
 rw[qk h];simp[List.getD,h]
def Tryz.pg (a b:ZA) (ha:a.length<=100) (hb:b.length<=100):Pure prog 213 [aj a,aj b] (aj (cG a b)):=by
 refine bz func213 rfl ntmps213 fun ok=>?_
 simp only[go_sem,seval] at ok
 repeat' first|simp (disch:=first|assumption|omega|simp;try omega) only[go_sem,seval,ag,aC,cx,dJ]|(with_reducible first|apply aa|intro)|exact ah|(try rw[ae]);omega
 refine cQ (σ:=Nat×Nat×ZA) (fun s=>[(0,.d (aj a)),(1,.d (aj b)),(5,.sl 0 s.2.2.length 1 0 s.2.2.length),(6,.d (dI s.1)),(7,.d (dI s.2.1))]) (fun s=>[.row s.2.2.length 1 true (s.2.2.map (D.int .i64))])
  (fun s=>s.1<=a.length/\s.2.1<=b.length/\s.2.2.length<=s.1+s.2.1/\s.2.2++cG (a.drop s.1) (b.drop s.2.1)=cG a b) (fun s=>(a.length-s.1)+(b.length-s.2.1)) [] 1000 1000 ?_ ?_ ?_
 ·simp only[go_sem,seval]
 ·simp only[go_sem,seval];exact⟨(0,0,[]),⟨kM _,kM _,by simp,by simp⟩,⟨rfl,rfl,rfl⟩,rfl,rfl⟩
 ·rintro⟨i,j,out⟩ ⟨hi,hj,hl,hinv⟩;simp only at hi hj hl hinv;have stepA:i<a.length->(j=b.length∨j<b.length/\a.getD i 0<b.getD j 0)->(out ++ [a.getD i 0])++cG (a.drop (i+1)) (b.drop j)=cG a b:=by
   intro h1 h2;rw[<-hinv,drop_cons h1,fA];rcases h2 with h2|⟨h2,h3⟩
   ·rw[sj (by omega:b.length<=j),AO,AO];rfl
   ·rw[drop_cons h2,C2 h3];rfl
  have iz:j<b.length->(i=a.length∨i<a.length/\b.getD j 0<a.getD i 0)->(out ++ [b.getD j 0])++cG (a.drop i) (b.drop (j+1))=cG a b:=by
   intro h1 h2;rw[<-hinv,drop_cons h1,fA];rcases h2 with h2|⟨h2,h3⟩
   ·rw[sj (by omega:a.length<=i),yV,yV];rfl
   ·rw[drop_cons h2,Di h3];rfl
  have stepC:i<a.length->j<b.length->a.getD i 0=b.getD j 0->(out ++ [a.getD i 0])++cG (a.drop (i+1)) (b.drop (j+1))=cG a b:=by
   intro h1 h2 h3;rw[<-hinv,drop_cons h1,drop_cons h2,<-h3,Cq,fA];rfl
  have fin:i=a.length->j=b.length->out=cG a b:=by
   intro h1 h2;rw[<-hinv,sj (by omega:a.length<=i),sj (by omega:b.length<=j),yV,jq]
  repeat' first|simp (disch:=first|assumption|omega|simp;try omega) only[go_sem,seval,ag,aC,cx,dJ]|(with_reducible first|apply aa|intro)|exact ah|(try rw[ae]);omega
  ·exact⟨(i+1,j,out ++ [a.getD i 0]),⟨by simp only;omega,by simp only;omega,by simp;omega,stepA (by omega) (by omega)⟩,by simp only;omega,⟨by simp,rfl,rfl⟩,by simp,rfl⟩
  ·exact⟨(i,j+1,out ++ [b.getD j 0]),⟨by simp only;omega,by simp only;omega,by simp;omega,iz (by omega) (by omega)⟩,by simp only;omega,⟨by simp,rfl,rfl⟩,by simp,rfl⟩
  ·exact⟨(i+1,j+1,out ++ [a.getD i 0]),⟨by simp only;omega,by simp only;omega,by simp;omega,stepC (by omega) (by omega) (by omega)⟩,by simp only;omega,⟨by simp,rfl,rfl⟩,by simp,rfl⟩
  ·exact fin (by omega) (by omega)
def Tryz.u7 (cuts:List ZA) (cut:ZA) (h1:cuts.length<=100) (h2:cut.length<=100):Pure prog 214 [cg cuts,aj cut] (.bool (decide (cut∈cuts))):=by
 refine bz func214 rfl ntmps214 fun ok=>?_
 simp only[go_sem,seval] at ok
 repeat' first|simp (disch:=first|assumption|omega|simp;try omega) only[go_sem,seval,ag,aC,cx,dJ]|(with_reducible first|apply aa|intro)|exact ah|(try rw[ae]);omega
 refine cQ (σ:=Nat) (fun i=>[(0,.d (cg cuts)),(1,.d (aj cut)),(4,.d (dB false)),(5,.d (dI i))]) (fun _=>[]) (fun i=>i<=cuts.length/\∀ j,j<i->cuts.getD j []≠cut) (fun i=>cuts.length-i) [] 1000 1000 ?_ ?_ ?_
 ·simp only[go_sem,seval]
 ·simp only[go_sem,seval];exact⟨0,⟨by omega,by omega⟩,rfl⟩
 ·rintro i ⟨hi,hinv⟩;by_cases hlt:i<cuts.length
  ·repeat' first|simp (disch:=first|assumption|omega|simp;try omega) only[go_sem,seval,ag,aC,cx,dJ]|(with_reducible first|apply aa|intro)|exact ah|(try rw[ae]);omega
   have hx:=aO hlt (z:=([]:ZA));generalize hd9:cuts.getD i []=x at *
   refine cQ (σ:=Nat×Bool) (fun s=>[(0,.d (cg cuts)),(1,.d (aj cut)),(4,.d (dB false)),(5,.d (dI i)),(6,.d (dB s.2)),(7,.d (dI s.1))]) (fun _=>[]) (fun s=>(s.2=true->s.1<=cut.length)/\(s.2=true↔x.length=cut.length/\∀ j,j<s.1->x.getD j 0=cut.getD j 0)) (fun s=>cut.length-s.1) [] 1000 1000 ?_ ?_ ?_
   ·simp only[go_sem,seval]
   ·simp only[go_sem,seval];exact⟨(0,decide (x.length=cut.length)),⟨by simp,by simp⟩,rfl,rfl⟩
   ·rintro⟨k,b⟩ ⟨hk,hb⟩;simp only at hk hb;cases b with
    | true=>
     obtain⟨hl,hall⟩:=hb.1 rfl;have hk:=hk rfl;simp only[go_sem,seval]
     repeat' first|simp (disch:=first|assumption|omega|simp;try omega) only[go_sem,seval,hd9,ag,aC,cx,dJ]|(with_reducible first|apply aa|intro)|exact ah|(try rw[ae]);omega
     ·refine⟨(k+1,decide (x.getD k 0=cut.getD k 0)),⟨fun _=>by simp only;omega,?_⟩,by simp only;omega,rfl,rfl⟩;simp only[decide_eq_true_eq];refine⟨fun h=>⟨hl,fun j hj=>?_⟩,fun h=>h.2 k (by omega)⟩;by_cases hjk:j=k
      ·subst hjk;exact h
      ·exact hall j (by omega)
     ·have e:x=cut:=wq 0 hl fun j hj=>hall j (by omega)
      rw[<-e,decide_eq_true hx]
    | false=>
     simp only[go_sem,seval]
     repeat' first|simp (disch:=first|assumption|omega|simp;try omega) only[go_sem,seval,hd9,ag,aC,cx,dJ]|(with_reducible first|apply aa|intro)|exact ah|(try rw[ae]);omega
     refine⟨i+1,⟨by omega,fun j hj=>?_⟩,by omega,rfl⟩;by_cases hji:j=i
     ·subst hji;rw[hd9];rintro rfl;exact absurd (hb.2 ⟨rfl,fun _ _=>rfl⟩) (by simp)
     ·exact hinv j (by omega)
  ·repeat' first|simp (disch:=first|assumption|omega|simp;try omega) only[go_sem,seval,ag,aC,cx,dJ]|(with_reducible first|apply aa|intro)|exact ah|(try rw[ae]);omega
   simp only[false_eq_decide_iff];intro hm;obtain⟨j,hj,he⟩:=gm [] hm;exact hinv j (by omega) he
def Tryz.od (arr cut:ZA) (h : ∀ z∈cut,0<=z/\z<arr.length):Pure prog 212 [aj arr,aj cut] (dI (mc arr cut)):=by
 refine bz func212 rfl ntmps212 fun ok=>?_
 simp only[go_sem,seval] at ok
 repeat' first|simp (disch:=first|assumption|omega|simp;try omega) only[go_sem,seval,ag,aC,cx,dJ]|(with_reducible first|apply aa|intro)|exact ah|(try rw[ae]);omega
 refine cQ (σ:=Nat) (fun i=>[(0,.d (aj arr)),(1,.d (aj cut)),(5,.d (dI ((cut.take i).foldl (fun t v=>max t (arr.getD v.toNat 0)) 0))),(6,.d (dI i))]) (fun _=>[]) (fun i=>i<=cut.length) (fun i=>cut.length-i) [] 1000 1000 ?_ ?_ ?_
 ·simp only[go_sem,seval]
 ·simp only[go_sem,seval];exact⟨0,by omega,rfl,rfl⟩
 ·intro i hi;by_cases hlt:i<cut.length
  ·have e1:=iH (f:=fun t v=>max t (arr.getD v.toNat 0)) (b:=0) (0:Int) hlt;have e2:=h _ (aO hlt:cut.getD i 0∈cut)
   repeat' first|simp (disch:=first|assumption|omega|simp;try omega) only[go_sem,seval,ag,aC,cx,dJ]|(with_reducible first|apply aa|intro)|exact ah|(try rw[ae]);omega
   exact⟨i+1,by omega,by omega,e1.symm,rfl⟩
  ·repeat' first|simp (disch:=first|assumption|omega|simp;try omega) only[go_sem,seval,ag,aC,cx,dJ]|(with_reducible first|apply aa|intro)|exact ah|(try rw[ae]);omega
   rfl
def Tryz.rE (c:ac) (hc:c.Valid):bk prog 190 [dC c] (wn (iF c)):=by
 have hf:=hc.al;have hi0:=hc.i0;have hi1:=hc.i1;have hfst:=br c (by omega);have hl0:=lS (c:=c) hf.1 0;refine BE (E:=dM 0) tok rfl 1000 func190 rfl rfl ntmps190 (by simp) fun ok=>?_
 simp only[go_sem,seval] at ok
 repeat' first|simp (disch:=first|assumption|omega|simp;try omega) only[go_sem,seval,ag,aC,cx,dJ]|(with_reducible first|apply aa|intro)|(refine az hfst ?_)|exact ah|(try rw[ae]);omega
 refine om (E:=dM 0) tok (σ:=Nat) (fun v=>[(0,.d (dC c)),(1,.ptr 0 0),(3,.sl 3 (v-1) 1 0 v),(4,.d (dI v))]) (fun v=>[.box [.d (dI c.inputs),.d (aj c.next),.d (aY c.gates),.d (aj c.outs)],.dead 0,.dead 0,.row (v-1) 1 false (((bC c 0).take v).map fun x=>cg x)])
  (fun v=>1<=v/\(v:Int)<=c.first) (fun v=>c.first.toNat-v) [] [] 1000 1000 ?_ ?_
 ·simp only[go_sem,seval];exact⟨1,⟨by omega,by omega⟩,⟨⟨rfl,rfl⟩,rfl⟩,rfl,by simp[bC]⟩
 ·rintro v ⟨hv1,hv⟩;by_cases hlt:(v:Int)<c.first
  ·have hg:(bC c 0).getD v []=[[(v:Int)]]:=by
    obtain⟨m,rfl⟩ : ∃ m,v=m+1:=⟨v-1,by omega⟩;simp[bC,List.getD,show m<c.first.toNat-1 by omega]
   have hts:=nm (f:=fun x=>cg x) ([]:List ZA) (show v<(bC c 0).length by omega)
   repeat' first|simp (disch:=first|assumption|omega|simp;try omega) only[go_sem,seval,ag,aC,cx,dJ]|(with_reducible first|apply aa|intro)|(refine az hfst ?_)|exact ah|(try rw[ae]);omega
   ·simp;omega
   ·refine⟨v+1,⟨by omega,by omega⟩,by omega,⟨⟨by omega,rfl⟩,by omega⟩,by omega,?_⟩;rw[hts,hg];rfl
  ·repeat' first|simp (disch:=first|assumption|omega|simp;try omega) only[go_sem,seval,ag,aC,cx,dJ]|(with_reducible first|apply aa|intro)|(refine az hfst ?_)|exact ah|(try rw[ae]);omega
   have hv3:v=c.first.toNat:=by omega
   subst hv3;clear hlt hv hv1;have hlg:=hc.lg;refine om (E:=dM 0) tok (σ:=Nat) (fun i=>[(0,.d (dC c)),(1,.ptr 0 0),(3,.sl 3 (c.first.toNat-1+i) 1 0 (c.first.toNat+i)),(5,.d (dI i))]) (fun i=>[.box [.d (dI c.inputs),.d (aj c.next),.d (aY c.gates),.d (aj c.outs)],.dead 0,.dead 0,.row (c.first.toNat-1+i) 1 false ((bC c i).map fun x=>cg x)])
    (fun i=>i<=c.gates.length) (fun i=>c.gates.length-i) [] [] 1000 1000 ?_ ?_
   ·simp only[go_sem,seval];exact⟨0,by omega,⟨⟨rfl,rfl⟩,rfl⟩,rfl,rfl⟩
   ·intro i hi;have hli:=lS (c:=c) hf.1 i;by_cases hlt:i<c.gates.length
    ·obtain⟨g1,g2⟩:=hc.g i hlt;have hco:=qv hc i hi;unfold bm at g1 g2
     repeat' first|simp (disch:=first|assumption|omega|simp;try omega) only[go_sem,seval,ag,aC,cx,dJ]|(with_reducible first|apply aa|intro)|(refine az hfst ?_)|exact ah|(try rw[ae]);omega
     have hA:(cV c i/2).toNat<(bC c i).length:=by unfold cV;omega
     have hB:(cU c i/2).toNat<(bC c i).length:=by unfold cU;omega
     obtain⟨pa,-,-,pl⟩:=hco _ hA;obtain⟨qa,-,-,ql⟩:=hco _ hB;have hjn:(bC c (i+1))=bC c i ++ [nq ((bC c i).getD (cV c i/2).toNat []) ((bC c i).getD (cU c i/2).toNat []) ++ [[c.first+(i:Int)]]]:=rfl;have hgA:(c.gates.getD i (0,0)).1=cV c i:=rfl;have hgB:(c.gates.getD i (0,0)).2=cU c i:=rfl;rw[hgA,hgB];have hjl:=EY ((bC c i).getD (cV c i/2).toNat []) ((bC c i).getD (cU c i/2).toNat []);generalize (bC c i).getD (cV c i/2).toNat []=P at *
     generalize (bC c i).getD (cU c i/2).toNat []=Q at *
     refine om (E:=dM 0) tok (σ:=Nat) (fun a=>[(0,.d (dC c)),(1,.ptr 0 0),(3,.sl 3 (c.first.toNat-1+i) 1 0 (c.first.toNat+i)),(5,.d (dI i)),(6,.d (dI (c.first+(i:Int)))),(7,.sl 4 ((P.take a).foldl (fun l x=>bp x Q l) []).length 1 0 ((P.take a).foldl (fun l x=>bp x Q l) []).length),(8,.d (cg P)),(9,.d (cg Q)),(10,.d (dI a))])
      (fun a=>[.box [.d (dI c.inputs),.d (aj c.next),.d (aY c.gates),.d (aj c.outs)],.dead 0,.dead 0,.row (c.first.toNat-1+i) 1 false ((bC c i).map fun x=>cg x),.row ((P.take a).foldl (fun l x=>bp x Q l) []).length 1 false (((P.take a).foldl (fun l x=>bp x Q l) []).map fun x=>aj x)])
      (fun a=>a<=P.length/\((P.take a).foldl (fun l x=>bp x Q l) []).length<=8) (fun a=>P.length-a) [] [] 1000 1000 ?_ ?_
     ·simp only[go_sem,seval];exact⟨0,⟨by omega,by simp⟩,by simp⟩
     ·rintro a ⟨ha,hl8⟩;by_cases hat:a<P.length
      ·have hsa:=iH (f:=fun l x=>bp x Q l) (b:=[]) ([]:ZA) hat;have hpx:=pa _ (aO hat:P.getD a []∈P);generalize hx9:P.getD a []=X at *
       generalize (P.take a).foldl (fun l x=>bp x Q l) []=L0 at *
       simp only[go_sem,seval]
       repeat' first|simp (disch:=first|assumption|omega|simp;try omega) only[go_sem,seval,hx9,ag,aC,cx,dJ]|(with_reducible first|apply aa|intro)|exact ah|(try rw[ae]);omega
       refine om (E:=dM 0) tok (σ:=Nat) (fun b=>[(0,.d (dC c)),(1,.ptr 0 0),(3,.sl 3 (c.first.toNat-1+i) 1 0 (c.first.toNat+i)),(5,.d (dI i)),(6,.d (dI (c.first+(i:Int)))),(7,.sl 4 (bp X (Q.take b) L0).length 1 0 (bp X (Q.take b) L0).length),(8,.d (cg P)),(9,.d (cg Q)),(10,.d (dI a)),(11,.d (dI b))])
        (fun b=>[.box [.d (dI c.inputs),.d (aj c.next),.d (aY c.gates),.d (aj c.outs)],.dead 0,.dead 0,.row (c.first.toNat-1+i) 1 false ((bC c i).map fun x=>cg x),.row (bp X (Q.take b) L0).length 1 false ((bp X (Q.take b) L0).map fun x=>aj x)])
        (fun b=>b<=Q.length) (fun b=>Q.length-b) [] [] 1000 1000 ?_ ?_
       ·simp only[go_sem,seval];exact⟨0,by omega,by simp[bp]⟩
       ·intro b hb;have hr8:=zW (x:=X) (q:=Q.take b) hl8;by_cases hbt:b<Q.length
        ·have hsb:bp X (Q.take (b+1)) L0=gK (bp X (Q.take b) L0) (cG X (Q.getD b [])):=iH (f:=fun l y=>gK l (cG X y)) (b:=L0) ([]:ZA) hbt;have hqy:=qa _ (aO hbt:Q.getD b []∈Q);generalize hy9:Q.getD b []=Y at *
         generalize bp X (Q.take b) L0=L1 at *
         have hm:=pg X Y (by have:=hpx.len;omega) (by have:=hqy.len;omega);have hml:=Be X Y;have hh:=u7 L1 (cG X Y) (by omega) (by have:=hpx.len;have:=hqy.len;omega);have had:gK L1 (cG X Y)=if(cG X Y).length<=3/\L1.length<8/\cG X Y∉L1 then L1 ++ [cG X Y] else L1:=rfl;generalize cG X Y=Z at *
         simp only[go_sem,seval]
         repeat' first|simp (disch:=first|assumption|omega|simp;try omega) only[go_sem,seval,hx9,hy9,ag,aC,cx,dJ]|(with_reducible first|apply aa|intro)|exact ah|(try rw[ae]);omega
         refine z2 (E:=dM 0) tok Tryz.follows 1000 1000 [] (ax [0,1,2,4,5,6,3,7] (.one 8 (.fst 9 .done))) (by kernel_rfl) ?_
         repeat' first|simp (disch:=first|assumption|omega|simp;try omega) only[go_sem,seval,hx9,hy9,ag,aC,cx,dJ]|(with_reducible first|apply aa|intro)|(refine me hm ?_)|(refine iu (fun _=>hh) ?_)|exact ah|(try rw[ae]);omega
         ·rename_i h9;have e:bp X (Q.take (b+1)) L0=L1 ++ [Z]:=by rw[hsb,had,if_pos ⟨by omega,by omega,h9.2⟩]
          refine⟨b+1,by omega,by omega,?_⟩;rw[e];exact⟨⟨by simp,rfl⟩,by simp,by simp⟩
         ·rename_i h9;have e:bp X (Q.take (b+1)) L0=L1:=by
           rw[hsb,had,if_neg (by
            rintro⟨q1,q2,q3⟩;rcases h9 with(h9|h9)|h9
            ·omega
            ·omega
            ·exact q3 h9)]
          refine⟨b+1,by omega,by omega,?_⟩;rw[e];exact⟨⟨rfl,rfl⟩,rfl,rfl⟩
        ·repeat' first|simp (disch:=first|assumption|omega|simp;try omega) only[go_sem,seval,ag,aC,cx,dJ]|(with_reducible first|apply aa|intro)|exact ah|(try rw[ae]);omega
         refine⟨a+1,⟨by omega,?_⟩,by omega,?_⟩
         ·rw[hsa];exact zW hl8
         ·rw[hsa];exact⟨⟨rfl,rfl⟩,rfl,rfl⟩
      ·have e1:P.foldl (fun l x=>bp x Q l) []=nq P Q:=rfl
       repeat' first|simp (disch:=first|assumption|omega|simp;try omega) only[go_sem,seval,ag,aC,cx,dJ]|(with_reducible first|apply aa|intro)|exact ah|(try rw[ae]);omega
       ·rw[e1];omega
       ·refine⟨i+1,by omega,by omega,⟨⟨by omega,by omega⟩,rfl⟩,by omega,?_⟩;rw[hjn,e1,gw];simp
    ·repeat' first|simp (disch:=first|assumption|omega|simp;try omega) only[go_sem,seval,ag,aC,cx,dJ]|(with_reducible first|apply aa|intro)|(refine az hfst ?_)|exact ah|(try rw[ae]);omega
     rw[iF,show i=c.gates.length by omega]
def iZ (c:ac) (l:List ZA):ZD:=List.replicate c.first.toNat .nil++(l.drop c.first.toNat).map fun x=>aj x
def vL (h:c.first.toNat<=l.length):(iZ c l).length=l.length:=by simp[iZ];omega
def Lt {v:Nat}(h1:c.first.toNat<=v) (h2:v<l.length):(iZ c l).getD v z=aj (l.getD v []):=by
 unfold iZ;rw[List.getD_eq_getElem?_getD,List.getElem?_append_right (by rw[m9];exact h1)];simp[List.getD,h2,show c.first.toNat+(v-c.first.toNat)=v by omega]
def FA {x:ZA}(h:c.first.toNat<=l.length):iZ c (l ++ [x])=iZ c l ++ [aj x]:=by
 unfold iZ;rw[List.drop_append_of_le_length h,gw,fA];rfl
def Tryz.sg (c:ac) (hc:c.Valid):bk prog 189 [dC c,wn (iF c)] (.tup [.lst 1 (iZ c (cY c)),aj (tZ c)]):=by
 have hf:=hc.al;have hi0:=hc.i0;have hi1:=hc.i1;have hfst:=br c (by omega);refine BE (E:=dM 0) tok rfl 1000 func189 rfl rfl ntmps189 (by simp) fun ok=>?_
 simp only[go_sem,seval] at ok
 repeat' first|simp (disch:=first|assumption|omega|simp;try omega) only[go_sem,seval,ag,aC,cx,dJ]|(with_reducible first|apply aa|intro)|(refine az hfst ?_)|exact ah|(try rw[ae]);omega
 have hbd:=GP c (iF c);have hcl:=lS (c:=c) hf.1 c.gates.length;have hco:=qv hc c.gates.length (aD _);have hlg:=hc.lg;rw[<-iF] at hcl hco;have hgate : ∀ i,i<c.gates.length->∃ x r,(iF c).getD (c.first.toNat+i) []=x::r/\r≠[]:=fun i hi=>by
  have h1:=Gf hc hi;rw[iF,wE hf.1 hi];cases hj:nq ((bC c i).getD (cV c i/2).toNat []) ((bC c i).getD (cU c i/2).toNat []) with
  | nil=>rw[hj] at h1;simp at h1
  | cons x r=>exact⟨x,r ++ [[c.first+(i:Int)]],rfl,by simp⟩
 have hleaf : ∀ i,i<c.gates.length->∀ cut∈((iF c).getD (c.first.toNat+i) []).dropLast,∀ z∈cut,0<=z/\z<c.first+(i:Int):=fun i hi cut hcut z hz=>by
  rw[iF,wE hf.1 hi,List.dropLast_concat] at hcut;have hl:=lS (c:=c) hf.1 i;obtain⟨g1,g2⟩:=hc.g i hi;have ha:(cV c i/2).toNat<c.first.toNat+i:=by unfold cV;unfold bm at g1;omega
  have hb:(cU c i/2).toNat<c.first.toNat+i:=by unfold cU;unfold bm at g2;omega
  obtain⟨a1,-⟩:=qv hc i (by omega) _ (by rw[hl];exact ha);obtain⟨b1,-⟩:=qv hc i (by omega) _ (by rw[hl];exact hb);refine AM (P:=fun cut=>∀ z∈cut,0<=z/\z<c.first+(i:Int)) (fun x hx y hy hle z hz=>?_) cut hcut z hz;rcases(pQ _ _).1 hz with h2|h2
  ·have:=(a1 x hx).rng z h2;omega
  ·have:=(b1 y hy).rng z h2;omega
 have efin:cY c=(cc c (iF c) c.gates.length).1/\tZ c=(cc c (iF c) c.gates.length).2:=⟨rfl,rfl⟩;rw[efin.1,efin.2];generalize iF c=cuts at *
 have hbl:=wZ c cuts;refine om (E:=dM 0) tok (σ:=Nat) (fun i=>[(0,.d (dC c)),(1,.d (wn cuts)),(2,.ptr 0 0),(6,.sl 1 i 1 0 (c.first.toNat+i)),(7,.sl 2 i 1 0 (c.first.toNat+i)),(8,.d (dI i))])
  (fun i=>[.box [.d (dI c.inputs),.d (aj c.next),.d (aY c.gates),.d (aj c.outs)],.row i 1 true ((cc c cuts i).2.map (D.int .i64)),.row i 1 false (iZ c (cc c cuts i).1)])
  (fun i=>i<=c.gates.length) (fun i=>c.gates.length-i) [] [] 1000 1000 ?_ ?_
 ·simp only[go_sem,seval];exact⟨0,by omega,by simp[cc,iZ]⟩
 ·intro i hi;have hbli:=hbl i;by_cases hlt:i<c.gates.length
  ·have hsu:cc c cuts (i+1)=((cc c cuts i).1 ++ [gU (cc c cuts i).2 (cuts.getD (c.first.toNat+i) []).dropLast],(cc c cuts i).2 ++ [1+mc (cc c cuts i).2 (gU (cc c cuts i).2 (cuts.getD (c.first.toNat+i) []).dropLast)]):=rfl;have hlf:=hleaf i hlt;obtain⟨x,r,hxr,hr0⟩:=hgate i hlt;have hle:=(hco (c.first.toNat+i) (by omega)).2.2.2;have hbdi:=hbd i;generalize hL:cuts.getD (c.first.toNat+i) []=L at *
   have harr:=fun cut hcut=>od (cc c cuts i).2 cut (fun z hz=>by have:=hlf cut hcut z hz;omega)
   generalize (cc c cuts i).2=A at *
   generalize (cc c cuts i).1=B at *
   have eL:(c.first+(i:Int)).toNat=c.first.toNat+i:=by omega
   have hL2:2<=L.length:=by
    rw[hxr];cases r with
    | nil=>exact absurd rfl hr0
    | cons y r=>simp
   have hmem : ∀ j,j<L.length-1->L.getD j []∈L.dropLast:=fun j hj=>by
    have e:L.dropLast.getD j []=L.getD j []:=by rw[List.getD_eq_getElem?_getD,List.getD_eq_getElem?_getD,List.getElem?_dropLast,if_pos hj]
    rw[<-e];exact aO (by simp;omega)
   have harb:=fun j (hj:j<L.length-1)=>AS (arr:=A) (cut:=L.getD j []) (m:=i) (fun z _=>(hbdi z.toNat).2) (by omega)
   repeat' first|simp (disch:=first|assumption|omega|simp;try omega) only[go_sem,seval,eL,hL,ag,aC,cx,dJ]|(with_reducible first|apply aa|intro)|(refine az hfst ?_)|exact ah|(try rw[ae]);omega
   refine om (E:=dM 0) tok (σ:=Nat×Nat) (fun s=>[(0,.d (dC c)),(1,.d (wn cuts)),(2,.ptr 0 0),(6,.sl 1 i 1 0 (c.first.toNat+i)),(7,.sl 2 i 1 0 (c.first.toNat+i)),(8,.d (dI i)),(9,.d (cg L)),(10,.d (dI s.2)),(11,.d (dI s.1))])
    (fun s=>[.box [.d (dI c.inputs),.d (aj c.next),.d (aY c.gates),.d (aj c.outs)],.row i 1 true (A.map (D.int .i64)),.row i 1 false (iZ c B)])
    (fun s=>1<=s.1/\s.1<=L.length-1/\s.2<s.1/\L.getD s.2 []=gU A (L.take s.1)) (fun s=>L.length-s.1) [] [] 1000 1000 ?_ ?_
   ·simp only[go_sem,seval];exact⟨(1,0),⟨by simp,by simp only;omega,by simp,by rw[hxr];rfl⟩,by simp⟩
   ·rintro⟨j,k⟩ ⟨hj1,hj2,hk,hinv⟩;simp only at hj1 hj2 hk hinv;by_cases hjt:j<L.length-1
    ·have hsn:gU A (L.take (j+1))=if kU A (L.getD j []) (L.getD k []) then L.getD j [] else L.getD k []:=by
      have eg:L.getD j []=L[j]'(by omega):=by rw[List.getD_eq_getElem?_getD,List.getElem?_eq_getElem (by omega)];rfl
      rw[la (by omega),LG (by simp;omega),<-hinv,eg]
     have q1:=harr _ (hmem j hjt);have q2:=harr _ (hmem k (by omega));have r1:=harb j hjt;have r2:=harb k (by omega)
     repeat' first|simp (disch:=first|assumption|omega|simp;try omega) only[go_sem,seval,eL,hL,ag,aC,cx,dJ]|(with_reducible first|apply aa|intro)|(refine az q1 ?_)|(refine az q2 ?_)|exact ah|(try rw[ae]);omega
     ·exact⟨(j+1,j),⟨by simp only;omega,by simp only;omega,by simp only;omega,by rw[hsn,if_pos (show kU _ _ _ by unfold kU;omega)]⟩,by simp only;omega,rfl,rfl⟩
     ·exact⟨(j+1,k),⟨by simp only;omega,by simp only;omega,by simp only;omega,by rw[hsn,if_neg (show ¬ kU _ _ _ by unfold kU;omega)]⟩,by simp only;omega,rfl,rfl⟩
    ·have q2:=harr _ (hmem k (by omega));have r2:=harb k (by omega);have hbDl:(iZ c B).length=c.first.toNat+i:=by rw[vL (by omega)];omega
     repeat' first|simp (disch:=first|assumption|omega|simp;try omega) only[go_sem,seval,eL,hL,hbDl,ag,aC,cx,dJ]|(with_reducible first|apply aa|intro)|(refine az q2 ?_)|exact ah|(try rw[ae]);omega
     have hd:L.getD k []=gU A L.dropLast:=by rw[hinv,List.dropLast_eq_take,show j=L.length-1 by omega]
     refine⟨i+1,by omega,by omega,⟨⟨rfl,by omega⟩,⟨rfl,by omega⟩,rfl⟩,⟨rfl,?_⟩,rfl,?_⟩
     ·rw[hsu,hd]
     ·rw[hsu,hd,FA (by omega)]
  ·obtain rfl:i=c.gates.length:=by omega
   repeat' first|simp (disch:=first|assumption|omega|simp;try omega) only[go_sem,seval,ag,aC,cx,dJ]|(with_reducible first|apply aa|intro)|(refine az hfst ?_)|exact ah|(try rw[ae]);omega
   all_goals first|rfl|(exact ag (by rw[vL (by omega)];omega))
def MC (hc:c.Valid) (h0:0<=v) (hv:v<c.vars) (hm:v∈leaves):gA c leaves x v=x.testBit (leaves.idxOf v):=by
 have hf:=hc.al;have hvv:c.vars=c.first+(c.gates.length:Int):=rfl
 by_cases h:v<c.first
 ·rw[BT h0 h,n9,if_pos hm]
 ·obtain⟨i,rfl⟩ : ∃ i:Nat,v=c.first+(i:Int):=⟨(v-c.first).toNat,by omega⟩
  rw[CO hc (by omega),n9,if_pos hm]
def GJ : ∀ {l:ZA}{v:Int}{k:Nat},k<l.length->l.getD k 0=v->(∀ j,j<k->l.getD j 0≠v)->l.idxOf v=k
 | [],v,k,h,_,_=>by simp at h
 | y::l,v,0,h,e,_=>by
  obtain rfl:y=v:=e;simp
 | y::l,v,k+1,h,e,hn=>by
  have hy:y≠v:=hn 0 (by omega);have ih:=GJ (k:=k) (l:=l) (v:=v) (by simpa using h) e (fun j hj=>hn (j+1) (by omega));rw[List.idxOf_cons,ih,show(y == v)=false by simpa using hy];rfl
def N2 {k:Nat}:decide (jn ((x:Int)/2 ^ k) 2=1)=x.testBit k:=by
 have e:((x:Int)/2 ^ k)=((x/2 ^ k:Nat):Int):=by simp
 rw[e,aC (Int.natCast_nonneg _),Nat.testBit_eq_decide_div_mod_eq];generalize x/2 ^ k=m;exact decide_eq_decide.2 (by omega)
def Tryz.qQ (c:ac) (hc:c.Valid) (leaves:ZA) (hl:leaves.length<=3) (x:Nat) (hx:x<8) : ∀ (n:Nat) (v:Int),v.toNat<n->0<=v->v<c.vars->Pure prog 215 [dC c,dI v,aj leaves,dI x] (dB (gA c leaves x v)):=by
 have hf:=hc.al;have hi0:=hc.i0;have hi1:=hc.i1;have hvv:=hc.aN;have hfst:=br c (by omega);intro n;induction n with
 | zero=>intro v h;omega
 | succ n ih=>
  intro v hvn hv0 hv;refine bz func215 rfl ntmps215 fun ok=>?_
  simp only[go_sem,seval] at ok
  repeat' first|simp (disch:=first|assumption|omega|simp;try omega) only[go_sem,seval,ag,aC,cx,dJ]|(with_reducible first|apply aa|intro)|exact ah|(try rw[ae]);omega
  refine cQ (σ:=Nat) (fun k=>[(0,.d (dC c)),(1,.d (dI v)),(2,.d (aj leaves)),(3,.d (dI x)),(4,.ptr 0 0),(8,.d (dB false)),(9,.d (dI k))]) (fun _=>[.box [.d (dI c.inputs),.d (aj c.next),.d (aY c.gates),.d (aj c.outs)]]) (fun k=>k<=leaves.length/\∀ j,j<k->leaves.getD j 0≠v) (fun k=>leaves.length-k) [] 1000 1000 ?_ ?_ ?_
  ·simp only[go_sem,seval]
  ·simp only[go_sem,seval];exact⟨0,⟨by omega,by omega⟩,rfl⟩
  ·rintro k ⟨hk,hinv⟩;by_cases hlt:k<leaves.length
   ·repeat' first|simp (disch:=first|assumption|omega|simp;try omega) only[go_sem,seval,ag,aC,cx,dJ]|(with_reducible first|apply aa|intro)|exact ah|(try rw[ae]);omega
    ·rename_i h9;rw[N2,MC hc hv0 hv (by rw[<-h9];exact aO hlt),GJ hlt h9 hinv]
    ·rename_i h9;refine⟨k+1,⟨by omega,fun j hj=>?_⟩,by omega,rfl⟩;by_cases hjk:j=k
     ·subst hjk;exact h9
     ·exact hinv j (by omega)
   ·have hnm:v∉leaves:=fun h=>by
     obtain⟨j,hj,e⟩:=gm 0 h;exact hinv j (by omega) e
    have hvv2:c.vars=c.first+(c.gates.length:Int):=rfl
    repeat' first|simp (disch:=first|assumption|omega|simp;try omega) only[go_sem,seval,ag,aC,cx,dJ]|(with_reducible first|apply aa|intro)|(refine az hfst ?_)|exact ah|(try rw[ae]);omega
    ·rename_i h9;rw[BT hv0 h9,n9,if_neg hnm]
    ·rename_i h9;obtain⟨i,rfl⟩ : ∃ i:Nat,v=c.first+(i:Int):=⟨(v-c.first).toNat,by omega⟩
     have hi:i<c.gates.length:=by omega
     obtain⟨g1,g2⟩:=hc.g i hi;rw[CO hc hi,n9,if_neg hnm];have qa:=ih (cV c i/2) (by unfold cV;unfold bm at g1;omega) (by unfold cV;unfold bm at g1;omega) (by unfold cV;unfold bm at g1;omega);have qb:=ih (cU c i/2) (by unfold cU;unfold bm at g2;omega) (by unfold cU;unfold bm at g2;omega) (by unfold cU;unfold bm at g2;omega);have ga0:0<=(c.gates.getD i (0,0)).1:=g1.1;have gb0:0<=(c.gates.getD i (0,0)).2:=g2.1;have ei:(c.first+(i:Int)-c.first).toNat=i:=by omega
     refine co (n:=0) [9] (ax [0,2,1,3] (.two 4 (ax [5,6] (.two 7 (.one 8 (.one 9 .done)) 8 (.one 7 (.one 9 .done)))) 8 (.one 4 (ax [5,6] (.one 7 (.one 9 .done)))))) ?_
     repeat' first|simp (disch:=first|assumption|omega|simp;try omega) only[go_sem,seval,ei,ag,aC,cx,dJ]|(with_reducible first|apply aa|intro)|(refine az hfst ?_)|(refine qD (fun _=>⟨qa,trivial⟩) ?_)|(refine qD (fun _=>⟨qb,trivial⟩) ?_)|exact ah|(try rw[ae]);omega
     all_goals rfl

def uq (x k:Nat):((((x:Int)/2 ^ k).toNat &&& 1:Nat):Int)=if x.testBit k then 1 else 0:=by
 have e:((x:Int)/2 ^ k).toNat=x/2 ^ k:=by
  have:((x:Int)/2 ^ k)=((x/2 ^ k:Nat):Int):=by simp
  rw[this,wc]
 rw[e,Nat.and_one_is_mod,Nat.testBit_eq_decide_div_mod_eq];by_cases h:x/2 ^ k%2=1
 ·simp[h]
 ·have h2:x/2 ^ k%2=0:=by omega
  simp[h2]
structure lF (c:ac) (leaves:ZA) (x:Nat) (n:Nat) (m:Kn):Prop where
 val : ∀ k b,kn m k=some b->b=gA c leaves x k
 leaf : ∀ j,j<n->kn m (leaves.getD j 0)≠none
def lF.zero (h0:gA c leaves x 0=false):lF c leaves x 0 [(0,false)]:=by
 refine⟨fun k b hk=>?_,fun j hj=>by omega⟩;by_cases h:(0:Int)=k
 ·subst h;cases b with
  | false=>exact h0.symm
  | true=>simp[kn] at hk
 ·simp[kn,h] at hk
def lF.up {n:Nat}(h:lF c leaves x n m) {b:Bool}(hb:b=gA c leaves x (leaves.getD n 0)):lF c leaves x (n+1) (iB m (leaves.getD n 0) b):=by
 refine⟨fun k b' hk=>?_,fun j hj=>?_⟩
 ·rw[yp] at hk;split at hk
  ·rename_i e;rw[e,<-hb];simpa using hk.symm
  ·exact h.val k b' hk
 ·rw[yp];split
  ·simp
  ·rename_i hne;by_cases hjn:j=n
   ·subst hjn;exact absurd rfl hne
   ·exact h.leaf j (by omega)
def lF.ok (h:lF c leaves x leaves.length m):ju c leaves x m:=by
 refine⟨h.val,fun z hz=>?_⟩;obtain⟨j,hj,rfl⟩:=gm (0:Int) hz;exact h.leaf j hj
def Tryz.mw (c:ac) (hc:c.Valid) (v:Int) (hv0:0<=v) (hv:v<c.vars) (leaves:ZA) (hl:leaves.length<=3) (ha:iq leaves) (hz : ∀ z∈leaves,1<=z/\z<c.vars) :
  Pure prog 174 [pC c,dI v,aj leaves] (dI (uY c v leaves)):=by
 have hvv:=hc.aN;refine bz func174 rfl ntmps174 fun ok=>?_
 simp only[go_sem,seval] at ok
 repeat' first|simp (disch:=omega) only[go_sem,seval]|(with_reducible first|apply aa|intro)|(try rw[ae]);omega
 ·rw[ae];match leaves.length,hl with
  | 0,_|1,_|2,_|3,_=>decide
 have hN:(2:Int) ^ leaves.length=((2 ^ leaves.length:Nat):Int):=by simp
 have hN8:2 ^ leaves.length<=8:=by
  match leaves.length,hl with
  | 0,_|1,_|2,_|3,_=>decide
 rw[hN];refine cQ (σ:=Nat) (fun x=>[(7,.d (dI (mj c v leaves x:Nat))),(15,.d (dI x)),(14,.d (dI (2 ^ leaves.length:Nat))),(0,.d (pC c)),(1,.d (dI v)),(2,.d (aj leaves))]) (fun _=>[])
  (fun x=>x<=2 ^ leaves.length) (fun x=>2 ^ leaves.length-x) [] 1000 1000 ?_ ?_ ?_
 ·simp only[go_sem,seval]
 ·simp only[go_sem,seval];exact⟨0,kM _,rfl,rfl⟩
 ·intro x hx;have htl:=z7 c v leaves x;by_cases hlt:x<2 ^ leaves.length
  ·repeat' first|simp (disch:=omega) only[go_sem,seval]|(with_reducible first|apply aa|intro)|(try rw[ae]);omega
   have hc0:gA c leaves x 0=false:=by
    rw[BT (Int.le_refl 0) (by have:=hc.al;omega),n9,if_neg (fun h=>by have:=(hz 0 h).1;omega)]
   refine cQ (σ:=Nat×Kn) (fun s=>[(9,.map 0),(22,.d (dI s.1)),(20,.d (aj leaves)),(21,.d (dI leaves.length)),(8,.d (dI x)),(7,.d (dI (mj c v leaves x:Nat))),(15,.d (dI x)),(14,.d (dI (2 ^ leaves.length:Nat))),(0,.d (pC c)),(1,.d (dI v)),(2,.d (aj leaves))]) (fun s=>[.map (kS s.2)])
    (fun s=>s.1<=leaves.length/\lF c leaves x s.1 s.2) (fun s=>leaves.length-s.1) [] 1000 1000 ?_ ?_ ?_
   ·simp only[go_sem,seval]
   ·simp only[go_sem,seval];exact⟨(0,[(0,false)]),⟨kM _,lF.zero hc0⟩,rfl,rfl⟩
   ·rintro⟨k,m⟩ ⟨hk,hm⟩;simp only at hk hm;have hks:=Cl m;by_cases hlk:k<leaves.length
    ·have hzk:=hz _ (aO hlk:leaves.getD k 0∈leaves);have hid:leaves.idxOf (leaves.getD k 0)=k:=by
      refine GJ hlk rfl fun j hj=>?_
      have h1:leaves.getD j 0=leaves[j]:=by simp[List.getD,show j<leaves.length by omega]
      have h2:leaves.getD k 0=leaves[k]:=by simp[List.getD,hlk]
      rw[h1,h2];have:=List.pairwise_iff_getElem.1 ha j k (by omega) hlk hj;omega
     have hcl:=MC hc (leaves:=leaves) (x:=x) (by omega) hzk.2 (aO hlk);rw[hid] at hcl;have hsa:=uq x k;have eu:=C9 (leaves.getD k 0) (x.testBit k) m;have hup:=hm.up (b:=x.testBit k) hcl.symm;generalize hz9:leaves.getD k 0=z at *
     repeat' first|simp (disch:=omega) only[go_sem,seval,hz9]|(with_reducible first|apply aa|intro)|(try rw[ae]);omega
     ·exact Int.ediv_nonneg (by omega) (Int.pow_nonneg (by decide))
     ·refine⟨(k+1,iB m z (x.testBit k)),⟨by omega,hup⟩,by omega,rfl,?_⟩;have hb:decide (((((x:Int)/2 ^ k).toNat &&& 1:Nat):Int)=1)=x.testBit k:=by
       rw[hsa];cases x.testBit k <;> simp
      rw[hb,eu]
    ·obtain rfl:k=leaves.length:=by omega
     have hok:=hm.ok
     repeat' first|simp (disch:=omega) only[go_sem,seval]|(with_reducible first|apply aa|intro)|(try rw[ae]);omega
     refine c7 (mO c hc leaves x (v.toNat+1) v m (by omega) hv0 hv hok) [0] (by simp only[go_sem,seval]) ?_;rintro r0 H1 ⟨m2,hm2,rfl,rfl⟩;simp only[go_sem,seval]
     repeat' first|simp (disch:=omega) only[go_sem,seval]|(with_reducible first|apply aa|intro)|(try rw[ae]);omega
     ·rw[ae];have h2:2 ^ x<=2 ^ 8:=vw (by decide) (by omega);have hc2:(2:Int) ^ x=((2 ^ x:Nat):Int):=by simp
      rw[hc2];omega
     ·exact Int.pow_nonneg (by decide)
     ·have hp2:(2:Int) ^ x=((2 ^ x:Nat):Int):=by simp
      refine⟨x+1,hlt,by omega,?_,rfl⟩;rw[hp2,wc,mj];rw[if_pos (by assumption)];have:=Nat.two_pow_add_eq_or_of_lt htl 1;simp only[jL] at this;rw[Nat.or_comm,<-this,Nat.add_comm]
     ·refine⟨x+1,hlt,by omega,?_,rfl⟩;rw[mj,if_neg (by simp_all)];rfl
  ·obtain rfl:x=2 ^ leaves.length:=by omega
   repeat' first|simp (disch:=omega) only[go_sem,seval]|(with_reducible first|apply aa|intro)|(try rw[ae]);omega
   rfl
end Go.Proofs
