/- Contracts: configurations without cycles, the reference's; the law. Conditions: none; lemmas. -/
import Derived.Test.YteikeianenfhaaaGreatC12
import Derived.Test.YteikeianenfhaaaGreatC90
import Derived.Test.YteikeianenfhaaaGreatK5
import Derived.Test.YteikeianenfhaaaGreatC50
set_option maxRecDepth 20000
set_option linter.unusedVariables false
set_option linter.unusedSimpArgs false
set_option maxHeartbeats 2000000
namespace Go.Proofs
set_option linter.defProp false
open Go Go.VL Tryz
def zM (n:Nat):Mrk:=List.replicate n (List.replicate 8 0)
def zM_succ (n:Nat):zM (n+1)=zM n ++ [List.replicate 8 0]:=yba
def qs0 (n:Nat):(zM n).length=n:=by simp[zM]
def zM_get (u:Wr):gM (zM 25) u=0:=by
 unfold gM zM;have e : ∀ (n m i j:Nat),((List.replicate n (List.replicate m (0:Int))).getD i []).getD j 0=0:=by
  intro n m i j;rw[List.getD_eq_getElem?_getD (l:=List.replicate n _),List.getElem?_replicate];split
  ·show(List.replicate m (0:Int)).getD j 0=0
   rw[List.getD_eq_getElem?_getD,List.getElem?_replicate];split <;> rfl
  ·rfl
 exact e 25 8 _ _
def zM_sz:Msz (zM 25):=⟨qs0 25,fun t ht=>by
 unfold zM;rw[List.getD_eq_getElem?_getD,List.getElem?_replicate,if_pos ht];simp⟩
noncomputable instance (k:Kcfg):Decidable (Wf k):=Classical.propDecidable _
def Tryz.c_l10Acyclic (k:Kcfg) (hk:k.ok):Pure prog 119 [dK k] (.bool (decide (Wf k))):=by
 refine qm8 (E:=envd 0) tok rfl 1000 func119 rfl rfl ntmps119 (by simp) fun ok=>?_
 simp only[go_sem,seval,-List.reduceReplicate] at ok
 repeat' first|assumption|(simp (disch:=first|assumption|omega|(simp;done)|(simp;omega)) only[go_sem,seval,-List.reduceReplicate,yaa])|(with_reducible first|apply And.intro|intro _)|((try rw[qaa]);omega)
 refine qah (E:=envd 0) tok (σ:=Nat) (fun i=>[(0,.d (dK k)),(1,.ptr 0 0),(3,.sl 1 i 1 0 i),(4,.d (dI i))]) (fun i=>[.box [.d (dTcs k.tiles),.d (dQs k.pads)],.row i 1 true ((zM i).map fun x=>dIs x)]) (fun i=>i<=25) (fun i=>25-i) [] [] 1000 1000 ?_ ?_
 ·simp only[go_sem,seval,-List.reduceReplicate];exact⟨0,by omega,⟨rfl,rfl⟩,rfl,rfl⟩
 ·intro i hi;by_cases hlt:i<25
  ·have hzs:=zM_succ i;have hzl:=qs0 i;generalize zM i=q at *
   simp only[go_sem,seval,-List.reduceReplicate]
   repeat' first|assumption|(simp (disch:=first|assumption|omega|(simp;done)|(simp;omega)) only[go_sem,seval,-List.reduceReplicate,hzl,yaa])|(with_reducible first|apply And.intro|intro _)|((try rw[qaa]);omega)
   refine⟨i+1,by omega,by omega,rfl,rfl,?_⟩;rw[hzs,yaA];rfl
  ·obtain rfl:i=25:=by omega
   repeat' first|assumption|(simp (disch:=first|assumption|omega|(simp;done)|(simp;omega)) only[go_sem,seval,-List.reduceReplicate,yaa])|(with_reducible first|apply And.intro|intro _)|((try rw[qaa]);omega)
   have hzsz:=zM_sz;have hzg:=zM_get;generalize zM 25=Z at *
   refine qah (E:=envd 0) tok (σ:=Nat×Mrk) (fun s=>[(0,.d (dK k)),(1,.ptr 0 0),(3,.sl 1 25 1 0 25),(5,.d (dI s.1))]) (fun s=>[.box [.d (dTcs k.tiles),.d (dQs k.pads)],.row 25 1 true (s.2.map fun x=>dIs x)])
    (fun s=>s.1<=25/\Msz s.2/\MarkM k s.2/\(∀ u,wOk u->gM s.2 u≠1)/\∀ u,wOk u->u.1<s.1->gM s.2 u=2) (fun s=>25-s.1) [] [] 1000 1000 ?_ ?_
   ·simp only[go_sem,seval,-List.reduceReplicate];refine⟨(0,Z),⟨by simp only;omega,hzsz,⟨fun u _=>.inl (hzg u),fun u _ h=>?_⟩,fun u _=>?_,fun u hu h=>?_⟩,rfl,rfl⟩
    ·rw[hzg] at h;omega
    ·simp only;rw[hzg];decide
    ·have:=hu.1;simp only at h;omega
   ·rintro⟨i,M⟩ ⟨hi,hM,hm,h1,h2⟩;simp only at hi hM hm h1 h2;by_cases hlt:i<25
    ·repeat' first|assumption|(simp (disch:=first|assumption|omega|(simp;done)|(simp;omega)) only[go_sem,seval,-List.reduceReplicate,yaa])|(with_reducible first|apply And.intro|intro _)|((try rw[qaa]);omega)
     refine qah (E:=envd 0) tok (σ:=Nat×Mrk) (fun s=>[(0,.d (dK k)),(1,.ptr 0 0),(3,.sl 1 25 1 0 25),(5,.d (dI i)),(6,.d (dI s.1))]) (fun s=>[.box [.d (dTcs k.tiles),.d (dQs k.pads)],.row 25 1 true (s.2.map fun x=>dIs x)])
      (fun s=>s.1<=8/\Msz s.2/\MarkM k s.2/\(∀ u,wOk u->gM s.2 u≠1)/\∀ u,wOk u->u.1<i∨(u.1=i/\u.2<s.1)->gM s.2 u=2) (fun s=>8-s.1) [] [] 1000 1000 ?_ ?_
     ·simp only[go_sem,seval,-List.reduceReplicate];refine⟨(0,M),⟨by simp only;omega,hM,hm,h1,fun u hu h=>h2 u hu ?_⟩,rfl,rfl⟩;have:=hu.2;simp only at h;omega
     ·rintro⟨t,M2⟩ ⟨ht,hM2,hm2,g1,g2⟩;simp only at ht hM2 hm2 g1 g2;by_cases hlt2:t<8
      ·have hwo:wOk ((i:Int),(t:Int)):=⟨⟨by simp only;omega,by simp only;omega⟩,by simp only;omega,by simp only;omega⟩;have hvis:=c_l10Mark 25 k hk _ M2 ((i:Int),(t:Int)) (ybi _) hwo hM2 hm2 (fun u hu h=>absurd h (g1 u hu))
       repeat' first|assumption|(simp (disch:=first|assumption|omega|(simp;done)|(simp;omega)) only[go_sem,seval,-List.reduceReplicate,yaa])|(with_reducible first|apply And.intro|intro _)|((try rw[qaa]);omega)
       refine qas hvis [1] (by simp only[go_sem,seval,-List.reduceReplicate]) ?_;rintro r0 H1 ⟨b,M3,⟨v0,v1,v2⟩,rfl,rfl⟩;cases b with
       | true=>
        obtain⟨q1,q2,q3,q4⟩:=v2 rfl
        repeat' first|assumption|(simp (disch:=first|assumption|omega|(simp;done)|(simp;omega)) only[go_sem,seval,-List.reduceReplicate,yaa])|(with_reducible first|apply And.intro|intro _)|((try rw[qaa]);omega)
        refine⟨(t+1,M3),⟨by simp only;omega,v0,q4,fun u hu h=>g1 u hu ((q2 u hu).1 h),fun u hu h=>?_⟩,by simp only;omega,rfl,rfl⟩;by_cases he:u=((i:Int),(t:Int))
        ·rw[he];exact q1
        ·refine q3 u hu (g2 u hu ?_);simp only at h;rcases h with h|⟨h,h3⟩
         ·exact .inl h
         ·refine .inr ⟨h,?_⟩;have:u.2≠(t:Int):=fun e=>he (Prod.ext h e)
          omega
       | false=>
        have hnw : ¬ Wf k:=fun h=>v1 rfl (h _ hwo)
        repeat' first|assumption|(simp (disch:=first|assumption|omega|(simp;done)|(simp;omega)) only[go_sem,seval,-List.reduceReplicate,yaa])|(with_reducible first|apply And.intro|intro _)|((try rw[qaa]);omega)
        exact(decide_eq_false hnw).symm
      ·obtain rfl:t=8:=by omega
       repeat' first|assumption|(simp (disch:=first|assumption|omega|(simp;done)|(simp;omega)) only[go_sem,seval,-List.reduceReplicate,yaa])|(with_reducible first|apply And.intro|intro _)|((try rw[qaa]);omega)
       refine⟨(i+1,M2),⟨by simp only;omega,hM2,hm2,g1,fun u hu h=>g2 u hu ?_⟩,by simp only;omega,rfl,rfl⟩;have:=hu.2;simp only at h;omega
    ·obtain rfl:i=25:=by omega
     repeat' first|assumption|(simp (disch:=first|assumption|omega|(simp;done)|(simp;omega)) only[go_sem,seval,-List.reduceReplicate,yaa])|(with_reducible first|apply And.intro|intro _)|((try rw[qaa]);omega)
     exact(decide_eq_true (p:=Wf k) fun w hw=>hm.fin w hw (h2 w hw (by have:=hw.1;omega))).symm
def Tryz.c_sConfigAcyclic (k:Kcfg):Pure prog 58 [dK k] (.bool (decide (k.ok/\Wf k))):=by
 have hc:=c_sConfigValid k;by_cases hk:k.ok
 ·have ha:=c_l10Acyclic k hk;rw[decide_eq_true hk] at hc;have e:decide (k.ok/\Wf k)=decide (Wf k):=by
   by_cases h:Wf k
   ·rw[decide_eq_true h,decide_eq_true ⟨hk,h⟩]
   ·rw[decide_eq_false h,decide_eq_false (fun x=>h x.2)]
  rw[e];generalize decide (Wf k)=b at *
  refine qaC func58 rfl ntmps58 fun ok=>?_
  simp only[go_sem,seval,-List.reduceReplicate] at ok
  repeat' first|assumption|(simp (disch:=first|assumption|omega|(simp;done)|(simp;omega)) only[go_sem,seval,-List.reduceReplicate,yaa])|(with_reducible first|apply And.intro|intro _)|(refine qad hc ?_)|(refine qaK (fun _=>ha) ?_)|((try rw[qaa]);omega)
 ·rw[decide_eq_false hk] at hc;rw[decide_eq_false (fun h=>hk h.1)];refine qaC func58 rfl ntmps58 fun ok=>?_
  simp only[go_sem,seval,-List.reduceReplicate] at ok
  repeat' first|assumption|(simp (disch:=first|assumption|omega|(simp;done)|(simp;omega)) only[go_sem,seval,-List.reduceReplicate,yaa])|(with_reducible first|apply And.intro|intro _)|(refine qad hc ?_)|(refine qaK (x:=.bool false) (fun h=>by cases h) ?_)|((try rw[qaa]);omega)
end Go.Proofs
