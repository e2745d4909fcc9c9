/- Laws: what the clock period covers. Conditions: none; lemmas. -/
import Derived.Test.YtoanmdnkgjdinaaG4
import Derived.Test.YtoanmdnkgjdinaaF1
import Derived.Test.YtoanmdnkgjdinaaG6
set_option maxRecDepth 20000
set_option linter.unusedVariables false
set_option linter.unusedSimpArgs false
namespace Go.Proofs
open Go Go.VL
set_option maxHeartbeats 2000000 in
theorem Try.c_FnClockPeriod (code:List Int):Pure Try.prog 10 [dUs code] (.bool true):=by
 refine qan (E:=Try.env 0) Try.tok rfl 1000 Try.func10 rfl rfl Try.ntmps10 (by simp) fun ok=>?_
 simp only[go_sem,seval,-List.reduceReplicate] at ok
 simp only[go_sem,seval,-List.reduceReplicate,Try.results10]
 repeat' first|assumption|(simp (disch:=first|assumption|omega|(simp;done)|(simp;omega)) only[qaa,qac,List.take_of_length_le,qab,qae,qaf,qag,qah,qak];try simp only[go_sem,seval,-List.reduceReplicate,Try.results10])|(with_reducible refine And.intro ?_ ?_)|(with_reducible intro _)|((with_reducible (show Region.lexB _ _=true));kernel_rfl)|((try rw[qad]);omega)
 refine qdm (Try.c_DrawClockPeriod code) ?_
 rintro x ⟨c,place,rfl,hc,hpl⟩
 have hD:=Try.c_ClockPeriod c place
 have hDs:=Try.c_sClockPeriod c place
 have hR:=Try.c_Route c place
 have hA:=Try.c_Arrivals c place
 have hRd:=fun n t=>Try.c_RouteDelay c place n t
 cases hra:qaI c place [] with
 | none=>
  have hp:qcO c place = -1:=by unfold qcO;rw[hra]
  rw[hra] at hR
  rw[hp] at hD hDs
  have hR:Pure Try.prog 12 [dC c,dIs place] (.tup [.nil,dB false]):=hR
  simp only[go_sem,seval,-List.reduceReplicate,Try.results10]
  repeat' first|assumption|(simp (disch:=first|assumption|omega|(simp;done)|(simp;omega)) only[qaa,qac,List.take_of_length_le,qab,qae,qaf,qag,qah,qak];try simp only[go_sem,seval,-List.reduceReplicate,Try.results10])|(with_reducible refine And.intro ?_ ?_)|(with_reducible intro _)|(refine qai hD ?_;simp only[go_sem,seval,-List.reduceReplicate,Try.results10])|(refine qai hDs ?_;simp only[go_sem,seval,-List.reduceReplicate,Try.results10])|(refine qai hR ?_;simp only[go_sem,seval,-List.reduceReplicate,Try.results10])|(refine qbl (fun _=>Try.c_alive) ?_;simp only[go_sem,seval,-List.reduceReplicate,Try.results10])|(refine qa1 (fun _=>⟨Try.c_alive,trivial⟩) ?_;simp only[go_sem,seval,-List.reduceReplicate,Try.results10])|((with_reducible (show Region.lexB _ _=true));kernel_rfl)|((try rw[qad]);omega)
 | some rs=>
  have hp:qcO c place=qce c (qaj c) place rs:=by unfold qcO;rw[hra]
  have ha:arrO c place=dIs (qaS c (qaj c) place rs):=by unfold arrO;rw[hra]
  have hdo : ∀ n t,qd6 c place n t=qbQ rs n t:=fun n t=>by unfold qd6;rw[hra]
  rw[hra] at hR
  rw[hp] at hD hDs
  rw[ha] at hA
  have hR:Pure Try.prog 12 [dC c,dIs place] (.tup [dRts rs,dB true]):=hR
  have hro:=qb4 hra
  obtain⟨hv,hpo,-,busy,hRo⟩:=qcN hra
  have hce:=Try.c_Cells c hv
  obtain⟨p0,p1,p2,p3⟩:=qeY hv (place:=place) hro
  replace p3:=fun _:True=>p3
  simp only[go_sem,seval,-List.reduceReplicate,Try.results10]
  repeat' first|assumption|(simp (disch:=first|assumption|omega|(simp;done)|(simp;omega)) only[qaa,qac,List.take_of_length_le,qab,qae,qaf,qag,qah,qak];try simp only[go_sem,seval,-List.reduceReplicate,Try.results10])|(with_reducible refine And.intro ?_ ?_)|(with_reducible intro _)|(refine qai hD ?_;simp only[go_sem,seval,-List.reduceReplicate,Try.results10])|(refine qai hDs ?_;simp only[go_sem,seval,-List.reduceReplicate,Try.results10])|(refine qai hR ?_;simp only[go_sem,seval,-List.reduceReplicate,Try.results10])|(refine qai hA ?_;simp only[go_sem,seval,-List.reduceReplicate,Try.results10])|((with_reducible (show Region.lexB _ _=true));kernel_rfl)|((try rw[qad]);omega)
  have hvb:=hv.vars_bd
  have hfb:=hv.first_bd
  have hlo:=hv.lo
  have hln:=hv.ln
  have hcl:=qbi hv
  have hcin:=qcD hv
  have hpn:=hpo.len
  have hrl:=hro.len
  have hAl:(qaS c (qaj c) place rs).length=c.vars.toNat:=qdB _
  have hAb:=fun v=>qes (cells:=qaj c) (place:=place) hro (N:=c.vars.toNat) (qaj c).length v
  have hAd:arrT (qaj c) place rs c.vars.toNat (qaj c).length=qaS c (qaj c) place rs:=rfl
  rw[hAd] at hAb
  have hA0:=qrK hv place rs
  have hdu:=fun net t h1 h2 ht=>qmT hv hRo (net:=net) (t:=t) h1 h2 ht
  have hcl2:c.next.length≤(qaj c).length:=by simp[qaj]
  have hlat:=fun i (hi:i<c.next.length)=>qfK hi
  have hnn:qaW rs 0=fun _=>0:=funext fun t=>qfa fun r hr2=>by have:=hro.net r hr2;omega
  generalize hf0:(decide (qce c (qaj c) place rs=0)&&decide ((c.outs.length:Int)+c.next.length=0))=f0 at *
  have hf1:f0=true↔qce c (qaj c) place rs=0∧c.outs.length+c.next.length=0:=by
   rw[←hf0,Bool.and_eq_true,decide_eq_true_eq,decide_eq_true_eq]
   exact and_congr_right fun _=>by omega
  generalize hcs:qaj c=cells at *
  generalize hTT:qce c cells place rs=T at *
  generalize qaS c cells place rs=A at *
  refine qao (E:=Try.env 0) Try.tok (σ:=Nat×Bool) (fun s=>[(3,.ptr 0 0),(4,.d (dIs place)),(5,.d (dI T)),(8,.d (dIs A)),(9,.d (dB s.2)),(10,.d (dI s.1))]) (fun _=>[.box [.d (dI c.inputs),.d (dIs c.next),.d (dPs c.gates),.d (dIs c.outs)]])
   (fun s=>s.1≤c.outs.length∧(s.2=true↔f0=true∨∃ j,j<s.1∧atO c rs A j=T)) (fun s=>c.outs.length-s.1) [] [] 1000 1000 ?_ ?_
  ·simp only[go_sem,seval,-List.reduceReplicate]
   exact⟨(0,f0),⟨by simp only;omega,by simp⟩,rfl,rfl⟩
  ·rintro⟨o,f⟩ ⟨ho,hfo⟩
   simp only at ho hfo
   by_cases hot:o<c.outs.length
   ·have hoo:=hv.o _ (qal hot:c.outs.getD o 0∈c.outs)
    unfold qbc at hoo
    have hp1:=p1 o hot
    have hnext : ∀ f':Bool,(f'=true↔f=true∨atO c rs A o=T)→(f'=true↔f0=true∨∃ j,j<o+1∧atO c rs A j=T):=fun f' h=>by
     rw[h,hfo]
     constructor
     ·rintro((h1|⟨j,h1,h2⟩)|h1)
      ·exact .inl h1
      ·exact .inr ⟨j,by omega,h2⟩
      ·exact .inr ⟨o,by omega,h1⟩
     ·rintro(h1|⟨j,h1,h2⟩)
      ·exact .inl (.inl h1)
      ·by_cases e:j=o
       ·subst e;exact .inr h2
       ·exact .inl (.inr ⟨j,by omega,h2⟩)
    have hao:atO c rs A o=A.getD (c.outs.getD o 0/2).toNat 0+qaW rs (c.outs.getD o 0/2) ((o:Int)*5+4):=rfl
    have hrd:=hRd (c.outs.getD o 0/2) ((o:Int)*5+4)
    rw[hdo] at hrd
    have hduo:1<c.outs.getD o 0→qbQ rs (c.outs.getD o 0/2) ((o:Int)*5+4)=qaW rs (c.outs.getD o 0/2) ((o:Int)*5+4):=fun h=>
     hdu _ _ (by omega) (by omega) (qcB.2 (.inr ⟨o,hot,rfl,rfl⟩))
    have e5:(o:Int)*5+5-1=(o:Int)*5+4:=by omega
    generalize atO c rs A o=at_ at *
    generalize hx9:c.outs.getD o 0=x at *
    have hAx:=hAb (x/2).toNat
    have hxl:x/2<(A.length:Int):=by omega
    have hhx:=qbD (net:=x/2) (tile:=(o:Int)*5+4) hro.hops
    have hsc:scal (dI (qaW rs (x/2) ((o:Int)*5+4))):=by show InK .i64 _;rw[qad];omega
    have hr:=qab (y:=2) hoo.1
    by_cases hx1:1<x
    ·rw[hduo hx1] at hrd
     simp only[go_sem,seval,-List.reduceReplicate,Try.results10,hx9,e5]
     repeat' first|assumption|(simp (disch:=first|assumption|omega|(simp;done)|(simp;omega)) only[qaa,qac,List.take_of_length_le,qab,qae,qaf,qag,qah,qak];try simp only[go_sem,seval,-List.reduceReplicate,Try.results10,hx9,hr,e5])|(with_reducible refine And.intro ?_ ?_)|(with_reducible intro _)|(refine qa1 (fun _=>⟨hrd,hsc⟩) ?_;simp only[go_sem,seval,-List.reduceReplicate,Try.results10,hx9,hr,e5])|((with_reducible (show Region.lexB _ _=true));kernel_rfl)|((try rw[qad]);omega)
     refine⟨(o+1,f || decide (A.getD (x/2).toNat 0+qaW rs (x/2) ((o:Int)*5+4)=T)),⟨by simp only;omega,hnext _ ?_⟩,by simp only;omega,rfl,rfl⟩
     rw[Bool.or_eq_true,decide_eq_true_eq]
     exact or_congr_right (by rw[hao])
    ·have hx2:x/2=0:=by omega
     have hz:qaW rs (x/2) ((o:Int)*5+4)=0:=by rw[hx2,hnn]
     simp only[go_sem,seval,-List.reduceReplicate,Try.results10,hx9,e5]
     repeat' first|assumption|(simp (disch:=first|assumption|omega|(simp;done)|(simp;omega)) only[qaa,qac,List.take_of_length_le,qab,qae,qaf,qag,qah,qak];try simp only[go_sem,seval,-List.reduceReplicate,Try.results10,hx9,hr,e5])|(with_reducible refine And.intro ?_ ?_)|(with_reducible intro _)|((with_reducible (show Region.lexB _ _=true));kernel_rfl)|((try rw[qad]);omega)
     refine⟨(o+1,f || decide (A.getD (x/2).toNat 0=T)),⟨by simp only;omega,hnext _ ?_⟩,by simp only;omega,rfl,rfl⟩
     rw[Bool.or_eq_true,decide_eq_true_eq]
     exact or_congr_right (by rw[hao,hz,Int.add_zero])
   ·obtain rfl:o=c.outs.length:=by omega
    simp only[go_sem,seval,-List.reduceReplicate,Try.results10]
    repeat' first|assumption|(simp (disch:=first|assumption|omega|(simp;done)|(simp;omega)) only[qaa,qac,List.take_of_length_le,qab,qae,qaf,qag,qah,qak];try simp only[go_sem,seval,-List.reduceReplicate,Try.results10])|(with_reducible refine And.intro ?_ ?_)|(with_reducible intro _)|(refine qbk hce ?_;simp only[go_sem,seval,-List.reduceReplicate,Try.results10])|((with_reducible (show Region.lexB _ _=true));kernel_rfl)|((try rw[qad]);omega)
    have hb12 : ∀ x:Prop,(x↔x):=fun _=>Iff.rfl
    refine qao (E:=Try.env 0) Try.tok (σ:=Nat×Bool) (fun s=>[(3,.ptr 0 0),(4,.d (dIs place)),(5,.d (dI T)),(8,.d (dIs A)),(9,.d (dB s.2)),(12,.d (dCes cells)),(13,.d (dI s.1))]) (fun _=>[.box [.d (dI c.inputs),.d (dIs c.next),.d (dPs c.gates),.d (dIs c.outs)]])
     (fun s=>s.1≤c.next.length∧(s.2=true↔f=true∨∃ j,j<s.1∧atL cells place rs A j=T)) (fun s=>c.next.length-s.1) [] [] 1000 1000 ?_ ?_
    ·simp only[go_sem,seval,-List.reduceReplicate]
     exact⟨(0,f),⟨by simp only;omega,by simp⟩,rfl,rfl⟩
    ·rintro⟨i,f2⟩ ⟨hi,hfi⟩
     simp only at hi hfi
     by_cases hit:i<c.next.length
     ·have hp2:=p2 i hit
      have hic:i<cells.length:=by omega
      have hcm:=hcin _ (qal hic:cells.getD i ce0∈cells)
      have hla:=hlat i hit
      have hnext : ∀ f':Bool,(f'=true↔f2=true∨atL cells place rs A i=T)→(f'=true↔f=true∨∃ j,j<i+1∧atL cells place rs A j=T):=fun f' h=>by
       rw[h,hfi]
       constructor
       ·rintro((h1|⟨j,h1,h2⟩)|h1)
        ·exact .inl h1
        ·exact .inr ⟨j,by omega,h2⟩
        ·exact .inr ⟨i,by omega,h1⟩
       ·rintro(h1|⟨j,h1,h2⟩)
        ·exact .inl (.inl h1)
        ·by_cases e:j=i
         ·subst e;exact .inr h2
         ·exact .inl (.inr ⟨j,by omega,h2⟩)
      have hal:atL cells place rs A i=latT A rs (cells.getD i ce0).inputs (place.getD i 0)+3:=rfl
      have hpi:=hpo.get (i:=i) (by omega)
      by_cases hv0:c.next.getD i 0/2 > 0
      ·have hin:(cells.getD i ce0).inputs=[c.next.getD i 0/2]:=by rw[hla];unfold qaU;rw[if_pos hv0]
       have hno:=hv.n _ (qal hit:c.next.getD i 0∈c.next)
       unfold qbc at hno
       have hrd:=hRd (c.next.getD i 0/2) (place.getD i 0)
       rw[hdo,hdu _ _ (by omega) (by omega) (qcB.2 (.inl ⟨i,hic,by rw[hin];simp,rfl⟩))] at hrd
       rw[hin] at hal
       have hlv:latT A rs [c.next.getD i 0/2] (place.getD i 0)=max 0 (A.getD (c.next.getD i 0/2).toNat 0+qaW rs (c.next.getD i 0/2) (place.getD i 0)):=rfl
       generalize atL cells place rs A i=at_ at *
       have hvv2:c.next.getD i 0/2<c.vars:=by omega
       have hvv3:0≤c.next.getD i 0/2:=by omega
       generalize c.next.getD i 0/2=v at *
       have hAx:=hAb v.toNat
       have hxl:v<(A.length:Int):=by omega
       have hhx:=qbD (net:=v) (tile:=place.getD i 0) hro.hops
       have hsc:scal (dI (qaW rs v (place.getD i 0))):=by show InK .i64 _;rw[qad];omega
       generalize hx9:cells.getD i ce0=x at *
       simp only[go_sem,seval,-List.reduceReplicate,Try.results10,hx9,hin]
       repeat' first|assumption|(simp (disch:=first|assumption|omega|(simp;done)|(simp;omega)) only[qaa,qac,List.take_of_length_le,qab,qae,qaf,qag,qah,qak];try simp only[go_sem,seval,-List.reduceReplicate,Try.results10,hx9,hin])|(with_reducible refine And.intro ?_ ?_)|(with_reducible intro _)|(refine qa1 (fun _=>⟨hrd,hsc⟩) ?_;simp only[go_sem,seval,-List.reduceReplicate,Try.results10,hx9,hin])|((with_reducible (show Region.lexB _ _=true));kernel_rfl)|((try rw[qad]);omega)
       refine⟨(i+1,f2 || decide (3+A.getD v.toNat 0+qaW rs v (place.getD i 0)=T)),⟨by simp only;omega,hnext _ ?_⟩,by simp only;omega,rfl,rfl⟩
       rw[Bool.or_eq_true,decide_eq_true_eq]
       have e8:at_=3+A.getD v.toNat 0+qaW rs v (place.getD i 0):=by omega
       exact or_congr_right (by rw[e8])
      ·have hin:(cells.getD i ce0).inputs=[]:=by rw[hla];unfold qaU;rw[if_neg hv0]
       rw[hin] at hal
       have hlv:latT A rs [] (place.getD i 0)=0:=rfl
       generalize atL cells place rs A i=at_ at *
       generalize hx9:cells.getD i ce0=x at *
       simp only[go_sem,seval,-List.reduceReplicate,Try.results10,hx9,hin]
       repeat' first|assumption|(simp (disch:=first|assumption|omega|(simp;done)|(simp;omega)) only[qaa,qac,List.take_of_length_le,qab,qae,qaf,qag,qah,qak];try simp only[go_sem,seval,-List.reduceReplicate,Try.results10,hx9,hin])|(with_reducible refine And.intro ?_ ?_)|(with_reducible intro _)|((with_reducible (show Region.lexB _ _=true));kernel_rfl)|((try rw[qad]);omega)
       refine⟨(i+1,f2 || decide ((3:Int)=T)),⟨by simp only;omega,hnext _ ?_⟩,by simp only;omega,rfl,rfl⟩
       rw[Bool.or_eq_true,decide_eq_true_eq]
       have e8:at_=3:=by omega
       exact or_congr_right (by rw[e8])
     ·obtain rfl:i=c.next.length:=by omega
      simp only[go_sem,seval,-List.reduceReplicate,Try.results10]
      repeat' first|assumption|(simp (disch:=first|assumption|omega|(simp;done)|(simp;omega)) only[qaa,qac,List.take_of_length_le,qab,qae,qaf,qag,qah,qak];try simp only[go_sem,seval,-List.reduceReplicate,Try.results10])|(with_reducible refine And.intro ?_ ?_)|(with_reducible intro _)|((with_reducible (show Region.lexB _ _=true));kernel_rfl)|((try rw[qad]);omega)
      rw[hfi,hfo,hf1]
      rcases p3 trivial with h|⟨j,h1,h2⟩|⟨j,h1,h2⟩
      ·exact .inl (.inl h)
      ·exact .inl (.inr ⟨j,h1,h2⟩)
      ·exact .inr ⟨j,h1,h2⟩
end Go.Proofs
