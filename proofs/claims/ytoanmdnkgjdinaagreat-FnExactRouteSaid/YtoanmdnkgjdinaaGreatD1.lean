/- Contracts, plain definitions and lemmas. Conditions: none; lemmas. -/
import Derived.Test.YtoanmdnkgjdinaaGreatC98
import Derived.Test.YtoanmdnkgjdinaaGreatC72
set_option maxRecDepth 20000
set_option linter.unusedVariables false
set_option linter.unusedSimpArgs false
namespace Go.Proofs
open Go Go.VL
theorem Tryz.c_MapLuts (c:Circ) (hc:c.Valid):PureF Tryz.prog 51 [dC c] (dLus (qdu c)):=by
 have hf:=hc.first_bd
 have hi0:=hc.i0
 have hi1:=hc.i1
 have hlo:=hc.lo
 have hln:=hc.ln
 have hlg:=hc.lg
 have hfst:=Tryz.c_firstGate c (by omega)
 have hvs:=Tryz.c_vars c (by omega)
 have hcv:=Tryz.c_CircuitValid c
 have hbe:=Tryz.c_bestCuts c hc
 have hro:=Tryz.c_roots c (by omega)
 have hvv:c.vars=c.first+(c.gates.length:Int):=rfl
 have hrv:=qfq hc
 have hn0:=qk5 (c:=c) (fun z hz=>(hrv z hz).1)
 have hr2 : ∀ z∈c.roots,0≤z/2∧z/2<c.vars:=fun z hz=>hrv _ (by
  simp only[qbb,List.mem_map,List.mem_append]
  exact⟨z,by simpa [Circ.roots,or_comm] using hz,rfl⟩)
 have hrl:c.roots.length≤2000000:=by unfold Circ.roots;simp;omega
 refine qbI (E:=Tryz.env 0) Tryz.tok rfl 1000 Tryz.func51 rfl rfl Tryz.ntmps51 (by simp) fun ok=>?_
 simp only[go_sem,seval] at ok
 simp only[go_sem,seval,Tryz.results51]
 repeat' first|assumption|(simp (disch:=first|assumption|omega|(simp;done)|(simp;omega)) only[qaa,qac,List.take_of_length_le,qab,qae,qaf,qag];try simp only[go_sem,seval,Tryz.results51])|(with_reducible refine And.intro ?_ ?_)|(with_reducible intro _)|(refine qai hfst ?_;simp only[go_sem,seval,Tryz.results51])|(refine qai hcv ?_;simp only[go_sem,seval,Tryz.results51])|(refine qai hvs ?_;simp only[go_sem,seval,Tryz.results51])|(refine qai hro ?_;simp only[go_sem,seval,Tryz.results51])|((try rw[qad]);omega)
 ·rename_i h9;exact absurd hc h9
 refine qax hbe [0] (by simp only[go_sem,seval]) ?_
 rintro r0 H1 ⟨rfl,rfl⟩
 simp only[go_sem,seval]
 repeat' first|assumption|(simp (disch:=first|assumption|omega|(simp;done)|(simp;omega)) only[qaa,qac,List.take_of_length_le,qab,qae,qaf,qag];try simp only[go_sem,seval,Tryz.results51])|(with_reducible refine And.intro ?_ ?_)|(with_reducible intro _)|(refine qai hvs ?_;simp only[go_sem,seval,Tryz.results51])|(refine qai hro ?_;simp only[go_sem,seval,Tryz.results51])|((try rw[qad]);omega)
 have hrd:(c.roots.map (· / 2)).length=c.roots.length:=by simp
 generalize hroots:c.roots=roots at *
 refine qaq (E:=Tryz.env 0) Tryz.tok (σ:=Nat) (fun i=>[(23,.d (dI i)),(22,.d (dI roots.length)),(21,.d (dIs roots)),(5,.sl 1 0 1 0 c.vars.toNat),(3,.d (.lst 1 (qcR c (qbK c)))),(1,.ptr 0 0)])
  (fun i=>[.box [.d (dI c.inputs),.d (dIs c.next),.d (dPs c.gates),.d (dIs c.outs)],.row 0 1 true ((qba (List.replicate c.vars.toNat false) ((roots.map (· / 2)).take i)).map D.bool)])
  (fun i=>i≤roots.length) (fun i=>roots.length-i) [] [] 1000 1000 ?_ ?_
 ·simp only[go_sem,seval]
  refine⟨0,by omega,?_⟩
  simp[qba]
 ·intro i hi
  have hsl:=qcj ((roots.map (· / 2)).take i) (List.replicate c.vars.toNat false)
  rw[List.length_replicate] at hsl
  by_cases hlt:i<roots.length
  ·have hrg:(roots.map (· / 2)).getD i 0=roots.getD i 0/2:=by simp[List.getD,hlt]
   have hbd:=hr2 _ (qak hlt:roots.getD i 0∈roots)
   have hst:qba (List.replicate c.vars.toNat false) ((roots.map (· / 2)).take (i+1))=(qba (List.replicate c.vars.toNat false) ((roots.map (· / 2)).take i)).set (roots.getD i 0/2).toNat true:=by
    rw[←hrg]
    exact qaH (f:=fun(n:List Bool) (v:Int)=>n.set v.toNat true) (b:=List.replicate c.vars.toNat false) (0:Int) (by rw[hrd];exact hlt)
   simp only[go_sem,seval,Tryz.results51]
   repeat' first|assumption|(simp (disch:=first|assumption|omega|(simp;done)|(simp;omega)) only[qaa,qac,List.take_of_length_le,qab,qae,qaf,qag];try simp only[go_sem,seval,Tryz.results51])|(with_reducible refine And.intro ?_ ?_)|(with_reducible intro _)|((try rw[qad]);omega)
   exact⟨i+1,by omega,by omega,rfl,by rw[hst]⟩
  ·have hst:qba (List.replicate c.vars.toNat false) ((roots.map (· / 2)).take i)=qeF c:=by rw[←hn0,List.take_of_length_le (by rw[hrd];omega)]
   rw[hst]
   simp only[go_sem,seval,Tryz.results51]
   repeat' first|assumption|(simp (disch:=first|assumption|omega|(simp;done)|(simp;omega)) only[qaa,qac,List.take_of_length_le,qab,qae,qaf,qag];try simp only[go_sem,seval,Tryz.results51])|(with_reducible refine And.intro ?_ ?_)|(with_reducible intro _)|(refine qai hvs ?_;simp only[go_sem,seval,Tryz.results51])|((try rw[qad]);omega)
   have hne0:=qhO c
   have hlu:qdu c=mapD c c.gates.length (qeF c) []:=rfl
   refine qaq (E:=Tryz.env 0) Tryz.tok (σ:=Nat×List Bool×List Lut) (fun s=>[(9,.d (dI (c.first+(s.1:Int)-1))),(8,.sl 2 s.2.2.length 3 0 s.2.2.length),(5,.sl 1 0 1 0 c.vars.toNat),(3,.d (.lst 1 (qcR c (qbK c)))),(1,.ptr 0 0)])
    (fun s=>[.box [.d (dI c.inputs),.d (dIs c.next),.d (dPs c.gates),.d (dIs c.outs)],.row 0 1 true (s.2.1.map D.bool),.row s.2.2.length 3 false (s.2.2.reverse.map fun x=>dLu x)])
    (fun s=>s.1≤c.gates.length∧s.2.1.length=c.vars.toNat∧s.2.2.length+s.1≤c.gates.length∧mapD c s.1 s.2.1 s.2.2=qdu c) (fun s=>s.1) [] [(8,3,false)] 1000 1000 ?_ ?_
   ·simp only[go_sem,seval]
    refine⟨(c.gates.length,qeF c,[]),⟨by simp,hne0,by simp,hlu.symm⟩,?_⟩
    simp;omega
   ·rintro⟨j,need,out⟩ ⟨hj,hnl,hol,hinv⟩
    simp only at hj hnl hol hinv
    cases j with
    | zero=>
     simp only[go_sem,seval,Tryz.results51]
     repeat' first|assumption|(simp (disch:=first|assumption|omega|(simp;done)|(simp;omega)) only[qaa,qac,List.take_of_length_le,qab,qae,qaf,qag];try simp only[go_sem,seval,Tryz.results51])|(with_reducible refine And.intro ?_ ?_)|(with_reducible intro _)|(refine qai hfst ?_;simp only[go_sem,seval,Tryz.results51])|((try rw[qad]);omega)
     have hrl9:out.length=out.reverse.length:=by simp
     rw[hrl9]
     refine qax (Tryz.c_ReverseL out.reverse.length out.reverse (by simp;omega)) [2] (by simp only[go_sem,seval]) ?_
     ·rintro r0 H1 rfl
      rw[List.reverse_reverse]
      have hmd:mapD c 0 need out=out:=rfl
      rw[←hinv,hmd]
      simp only[go_sem,seval,Tryz.results51]
      repeat' first|assumption|(simp (disch:=first|assumption|omega|(simp;done)|(simp;omega)) only[qaa,qac,List.take_of_length_le,qab,qae,qaf,qag];try simp only[go_sem,seval,Tryz.results51])|(with_reducible refine And.intro ?_ ?_)|(with_reducible intro _)|((try rw[qad]);omega)
    | succ m=>
     have hbo:=qd8 hc (i:=m) (by omega)
     have hbl:=qkc c
     have ev:(c.first+((m+1:Nat):Int)-1)=c.first+(m:Int):=by omega
     have ev2:(c.first+(m:Int)).toNat=c.first.toNat+m:=by omega
     have hbg : ∀ z,(qcR c (qbK c)).getD (c.first.toNat+m) z=dIs ((qbK c).getD (c.first.toNat+m) []):=fun z=>qke (by omega) (by omega)
     have hstep:mapD c (m+1) need out=if need.getD (c.first.toNat+m) false=true then
       mapD c m (qba need ((qbK c).getD (c.first.toNat+m) [])) (⟨c.first+(m:Int),(qbK c).getD (c.first.toNat+m) [],qfV c (c.first+(m:Int)) ((qbK c).getD (c.first.toNat+m) [])⟩::out)
      else mapD c m need out:=rfl
     have htb:=Tryz.c_coneTable c hc (c.first+(m:Int)) (by omega) (by omega) ((qbK c).getD (c.first.toNat+m) []) hbo.2.1 hbo.1 (fun z hz=>by have:=hbo.2.2 z hz;omega)
     have hcl:=Tryz.c_CloneI ((qbK c).getD (c.first.toNat+m) []) (by have:=hbo.2.1;omega)
     have hbD:(qcR c (qbK c)).length=c.first.toNat+c.gates.length:=by rw[qcQ (by omega)];exact hbl
     rw[ev]
     generalize hL:(qbK c).getD (c.first.toNat+m) []=L at *
     by_cases hnd:need.getD (c.first.toNat+m) false=true
     ·rw[if_pos hnd] at hstep
      simp only[go_sem,seval,Tryz.results51,ev2,hnd,hbg]
      repeat' first|assumption|(simp (disch:=first|assumption|omega|(simp;done)|(simp;omega)) only[qaa,qac,List.take_of_length_le,qab,qae,qaf,qag];try simp only[go_sem,seval,Tryz.results51,ev2,hnd,hbg])|(with_reducible refine And.intro ?_ ?_)|(with_reducible intro _)|(refine qai hfst ?_;simp only[go_sem,seval,Tryz.results51,ev2,hnd,hbg])|((try rw[qad]);omega)
      refine qaq (E:=Tryz.env 0) Tryz.tok (σ:=Nat) (fun k=>[(49,.d (dI k)),(48,.d (dI L.length)),(47,.d (dIs L)),(9,.d (dI (c.first+(m:Int)))),(8,.sl 2 out.length 3 0 out.length),(5,.sl 1 0 1 0 c.vars.toNat),(3,.d (.lst 1 (qcR c (qbK c)))),(1,.ptr 0 0)])
       (fun k=>[.box [.d (dI c.inputs),.d (dIs c.next),.d (dPs c.gates),.d (dIs c.outs)],.row 0 1 true ((qba need (L.take k)).map D.bool),.row out.length 3 false (out.reverse.map fun x=>dLu x)])
       (fun k=>k≤L.length) (fun k=>L.length-k) [] [] 1000 1000 ?_ ?_
      ·simp only[go_sem,seval]
       exact⟨0,by omega,rfl,rfl⟩
      ·intro k hk
       have hsl:=qcj (L.take k) need
       by_cases hkt:k<L.length
       ·have hst:qba need (L.take (k+1))=(qba need (L.take k)).set (L.getD k 0).toNat true:=qaH (f:=fun(n:List Bool) (v:Int)=>n.set v.toNat true) (b:=need) (0:Int) hkt
        have hz:=hbo.2.2 _ (qak hkt:L.getD k 0∈L)
        simp only[go_sem,seval,Tryz.results51,ev2,hbg]
        repeat' first|assumption|(simp (disch:=first|assumption|omega|(simp;done)|(simp;omega)) only[qaa,qac,List.take_of_length_le,qab,qae,qaf,qag];try simp only[go_sem,seval,Tryz.results51,ev2,hbg])|(with_reducible refine And.intro ?_ ?_)|(with_reducible intro _)|((try rw[qad]);omega)
        exact⟨k+1,by omega,by omega,rfl,hst.symm⟩
       ·have hst:qba need (L.take k)=qba need L:=by rw[List.take_of_length_le (by omega)]
        rw[hst]
        rw[hst] at hsl
        simp only[go_sem,seval,Tryz.results51,ev2,hbg]
        repeat' first|assumption|(simp (disch:=first|assumption|omega|(simp;done)|(simp;omega)) only[qaa,qac,List.take_of_length_le,qab,qae,qaf,qag];try simp only[go_sem,seval,Tryz.results51,ev2,hbg])|(with_reducible refine And.intro ?_ ?_)|(with_reducible intro _)|((try rw[qad]);omega)
        refine qdd (E:=Tryz.env 0) Tryz.tok Tryz.follows 1000 1000 [] (.fst 0 (.fst 1 (.fst 2 (.fst 3 (.fst 4 (.fst 7 (.fst 8 (.fst 9 (.fst 10 (.fst 5 (.fst 11 (.one 6 (.one 12 (.fst 13 (.one 14 (.one 15 (.fst 16 (.done)))))))))))))))))) (by kernel_rfl) ?_
        simp only[go_sem,seval,Tryz.results51,ev2,hbg]
        repeat' first|assumption|(simp (disch:=first|assumption|omega|(simp;done)|(simp;omega)) only[qaa,qac,List.take_of_length_le,qab,qae,qaf,qag];try simp only[go_sem,seval,Tryz.results51,ev2,hbg])|(with_reducible refine And.intro ?_ ?_)|(with_reducible intro _)|(refine qai htb ?_;simp only[go_sem,seval,Tryz.results51,ev2,hbg])|(refine qai hcl ?_;simp only[go_sem,seval,Tryz.results51,ev2,hbg])|((try rw[qad]);omega)
        ·simp
        ·exact⟨(m,qba need L,⟨c.first+(m:Int),L,qfV c (c.first+(m:Int)) L⟩::out),⟨by simp only;omega,hsl.trans hnl,by simp only[List.length_cons];omega,by rw[←hinv,hstep]⟩,by simp only;omega,⟨rfl,by simp⟩,rfl,by simp,by simp⟩
     ·rw[if_neg hnd] at hstep
      rw[Bool.not_eq_true] at hnd
      simp only[go_sem,seval,Tryz.results51,ev2,hnd,hbg]
      repeat' first|assumption|(simp (disch:=first|assumption|omega|(simp;done)|(simp;omega)) only[qaa,qac,List.take_of_length_le,qab,qae,qaf,qag];try simp only[go_sem,seval,Tryz.results51,ev2,hnd,hbg])|(with_reducible refine And.intro ?_ ?_)|(with_reducible intro _)|(refine qai hfst ?_;simp only[go_sem,seval,Tryz.results51,ev2,hnd,hbg])|((try rw[qad]);omega)
      exact⟨(m,need,out),⟨by simp only;omega,hnl,by simp only;omega,by rw[←hinv,hstep]⟩,by simp only;omega,⟨rfl,rfl⟩,rfl,rfl,rfl⟩
end Go.Proofs

set_option maxRecDepth 20000
set_option linter.unusedVariables false
set_option linter.unusedSimpArgs false
namespace Go.Proofs
open Go Go.VL
theorem Tryz.c_Cells (c:Circ) (hc:c.Valid):PureF Tryz.prog 25 [dC c] (dCes (qan c)):=by
 have hmp:=Tryz.c_MapLuts c hc
 have hcv:=Tryz.c_CircuitValid c
 have hln:=hc.ln
 have hll:=qhP hc
 have hlg:=hc.lg
 have hlk:=qd9 hc
 have hi0:=hc.i0
 have hi1:=hc.i1
 refine PureF.res ?_ (qlH c)
 refine qbI (E:=Tryz.env 0) Tryz.tok rfl 1000 Tryz.func25 rfl rfl Tryz.ntmps25 (by simp) fun ok=>?_
 simp only[go_sem,seval] at ok
 simp only[go_sem,seval,Tryz.results25]
 repeat' first|assumption|(simp (disch:=first|assumption|omega|(simp;done)|(simp;omega)) only[qaa,qac,List.take_of_length_le,qab,qae,qaf,qag,qah];try simp only[go_sem,seval,Tryz.results25])|(with_reducible refine And.intro ?_ ?_)|(with_reducible intro _)|(refine qai hcv ?_;simp only[go_sem,seval,Tryz.results25])|((try rw[qad]);omega)
 ·rename_i h9
  exact absurd hc h9
 refine qaq (E:=Tryz.env 0) Tryz.tok (σ:=Nat) (fun i=>[(0,.d (dC c)),(1,.ptr 0 0),(3,.sl 1 i 4 0 i),(13,.d (dIs c.next)),(14,.d (dI c.next.length)),(15,.d (dI i))]) (fun i=>[.box [.d (dI c.inputs),.d (dIs c.next),.d (dPs c.gates),.d (dIs c.outs)],.row i 4 true ((List.range i).map (dLat c))]) (fun i=>i≤c.next.length) (fun i=>c.next.length-i) [] [(3,4,true)] 1000 1000 ?_ ?_
 ·simp only[go_sem,seval]
  exact⟨0,by omega,by simp⟩
 ·intro i hi
  have hrl:((List.range i).map (dLat c)).length=i:=by simp
  have hrs:(List.range (i+1)).map (dLat c)=(List.range i).map (dLat c) ++ [dLat c i]:=by rw[List.range_succ,List.map_append];rfl
  by_cases hlt:i<c.next.length
  ·have hno:=hc.n _ (qak hlt:c.next.getD i 0∈c.next)
   unfold qbe at hno
   have hld:dLat c i=if(c.next.getD i 0)/2 > 0 then dCe (qbw c i) else .agg [dI (c.inputs+1+(i:Int)),.nil,dI ((c.next.getD i 0)%2),dB true]:=rfl
   have hlc:qbw c i=if(c.next.getD i 0)/2 > 0 then⟨c.inputs+1+i,[(c.next.getD i 0)/2],2-(c.next.getD i 0)%2,true⟩ else⟨c.inputs+1+i,[],(c.next.getD i 0)%2,true⟩:=rfl
   generalize (List.range i).map (dLat c)=q at *
   generalize hl9:c.next.getD i 0=l at *
   have hr:=qab (y:=2) hno.1
   have e2:((l.toNat &&& 1:Nat):Int)=l%2:=by rw[Nat.and_one_is_mod];omega
   have e3:1+c.inputs+(i:Int)=c.inputs+1+(i:Int):=by omega
   simp only[go_sem,seval,Tryz.results25,hl9,e2]
   repeat' first|assumption|(simp (disch:=first|assumption|omega|(simp;done)|(simp;omega)) only[qaa,qac,List.take_of_length_le,qab,qae,qaf,qag,qah];try simp only[go_sem,seval,Tryz.results25,hr,hrl,hl9,e2])|(with_reducible refine And.intro ?_ ?_)|(with_reducible intro _)|((try rw[qad]);omega)
   ·rename_i h9
    refine⟨i+1,by omega,by omega,rfl,rfl,?_⟩
    rw[hrs,hld,if_pos (by omega),hlc,if_pos (by omega),e3]
    rfl
   ·rename_i h9
    refine⟨i+1,by omega,by omega,rfl,rfl,?_⟩
    rw[hrs,hld,if_neg (by omega),e3]
  ·obtain rfl:i=c.next.length:=by omega
   simp only[go_sem,seval,Tryz.results25]
   repeat' first|assumption|(simp (disch:=first|assumption|omega|(simp;done)|(simp;omega)) only[qaa,qac,List.take_of_length_le,qab,qae,qaf,qag,qah];try simp only[go_sem,seval,Tryz.results25])|(with_reducible refine And.intro ?_ ?_)|(with_reducible intro _)|(refine qbt hmp ?_;simp only[go_sem,seval,Tryz.results25])|((try rw[qad]);omega)
   generalize (List.range c.next.length).map (dLat c)=q at *
   have hlv : ∀ l∈qdu c,l.leaves.length≤3:=fun l hl=>by
    obtain⟨m,hm,rfl⟩:=hlk.each l hl
    exact(qd8 hc hm).2.1
   generalize qdu c=luts at *
   refine qpA 1 rfl rfl ?_
   simp only[go_sem,seval]
   refine qaq (E:=Tryz.env 0) Tryz.tok (σ:=Nat) (fun i=>[(3,.sl 1 (c.next.length+i) 4 0 (c.next.length+i)),(44,.d (dLus luts)),(45,.d (dI luts.length)),(46,.d (dI i))]) (fun i=>[.dead 0,.row (c.next.length+i) 4 false (q++(luts.take i).map fun l=>dCe (qbn l))]) (fun i=>i≤luts.length) (fun i=>luts.length-i) [] [] 1000 1000 ?_ ?_
   ·simp only[go_sem,seval]
    exact⟨0,by omega,by simp⟩
   ·intro i hi
    by_cases hlt:i<luts.length
    ·have hlv2:=hlv _ (qak hlt:luts.getD i lu0∈luts)
     have hts:(luts.take (i+1)).map (fun l=>dCe (qbn l))=(luts.take i).map (fun l=>dCe (qbn l)) ++ [dCe (qbn (luts.getD i lu0))]:=qaV lu0 hlt
     have hql:(q++(luts.take i).map fun l=>dCe (qbn l)).length=c.next.length+i:=by simp[hrl];omega
     have hqa:q++(luts.take (i+1)).map (fun l=>dCe (qbn l))=(q++(luts.take i).map fun l=>dCe (qbn l)) ++ [dCe (qbn (luts.getD i lu0))]:=by rw[hts,List.append_assoc]
     generalize hd9:luts.getD i lu0=x at *
     generalize (q++(luts.take i).map fun l=>dCe (qbn l))=q2 at *
     simp only[go_sem,seval,Tryz.results25,hd9,hql]
     repeat' first|assumption|(simp (disch:=first|assumption|omega|(simp;done)|(simp;omega)) only[qaa,qac,List.take_of_length_le,qab,qae,qaf,qag,qah];try simp only[go_sem,seval,Tryz.results25,hd9,hql])|(with_reducible refine And.intro ?_ ?_)|(with_reducible intro _)|((try rw[qad]);omega)
     refine⟨i+1,by omega,by omega,⟨by omega,rfl⟩,by omega,?_⟩
     rw[hqa]
     rfl
    ·simp only[go_sem,seval,Tryz.results25]
     repeat' first|assumption|(simp (disch:=first|assumption|omega|(simp;done)|(simp;omega)) only[qaa,qac,List.take_of_length_le,qab,qae,qaf,qag,qah];try simp only[go_sem,seval,Tryz.results25])|(with_reducible refine And.intro ?_ ?_)|(with_reducible intro _)|((try rw[qad]);omega)
theorem Tryz.c_Index (l:List Int) (x:Int) (hl:l.length≤1000):PureE Tryz.prog 114 [dIs l,dI x] (fun y=>∃ n:Int,y=dI n∧(0≤n↔x∈l)):=by
 refine qfP (E:=Tryz.env 0) Tryz.tok rfl 1000 Tryz.func114 rfl rfl Tryz.ntmps114 (by simp) fun ok=>?_
 simp only[go_sem,seval] at ok
 simp only[go_sem,seval,Tryz.results114]
 repeat' first|assumption|(simp (disch:=first|assumption|omega|(simp;done)|(simp;omega)) only[qaa,qac,List.take_of_length_le,qab,qae,qaf,qag,qah];try simp only[go_sem,seval,Tryz.results114])|(with_reducible refine And.intro ?_ ?_)|(with_reducible intro _)|((try rw[qad]);omega)
 refine qaB (E:=Tryz.env 0) Tryz.tok (σ:=Nat) (fun i=>[(8,.d (dI i)),(7,.d (dI l.length)),(6,.d (dIs l)),(0,.d (dIs l)),(1,.d (dI x))]) (fun _=>[])
  (fun i=>i≤l.length∧x∉l.take i) (fun i=>l.length-i) [] 1000 1000 ?_ ?_ ?_
 ·simp only[go_sem,seval]
 ·simp only[go_sem,seval]
  exact⟨0,⟨by omega,by simp⟩,rfl⟩
 ·rintro i ⟨hi,hinv⟩
  by_cases hlt:i<l.length
  ·have hts:l.take (i+1)=l.take i ++ [l.getD i 0]:=by simpa using qaV (f:=fun x:Int=>x) 0 hlt
   have hmm:=qak hlt (z:=(0:Int))
   generalize hz9:l.getD i 0=z at *
   simp only[go_sem,seval,Tryz.results114,hz9]
   repeat' first|assumption|(simp (disch:=first|assumption|omega|(simp;done)|(simp;omega)) only[qaa,qac,List.take_of_length_le,qab,qae,qaf,qag,qah];try simp only[go_sem,seval,Tryz.results114,hz9])|(with_reducible refine And.intro ?_ ?_)|(with_reducible intro _)|((try rw[qad]);omega)
   ·rename_i h1
    exact⟨_,rfl,_,rfl,by rw[h1];exact⟨fun _=>hmm,fun _=>by omega⟩⟩
   ·rename_i h1
    refine⟨i+1,⟨by omega,?_⟩,by omega,rfl⟩
    rw[hts,List.mem_append,List.mem_singleton]
    rintro(h2|h2)
    ·exact hinv h2
    ·exact h1 h2
  ·obtain rfl:i=l.length:=by omega
   rw[List.take_length] at hinv
   simp only[go_sem,seval,Tryz.results114]
   repeat' first|assumption|(simp (disch:=first|assumption|omega|(simp;done)|(simp;omega)) only[qaa,qac,List.take_of_length_le,qab,qae,qaf,qag,qah];try simp only[go_sem,seval,Tryz.results114])|(with_reducible refine And.intro ?_ ?_)|(with_reducible intro _)|((try rw[qad]);omega)
   exact⟨_,rfl,_,rfl,⟨fun h=>absurd h (by decide),fun h=>absurd h hinv⟩⟩
theorem Tryz.c_Contains (l:List Int) (x:Int) (hl:l.length≤1000):Pure Tryz.prog 101 [dIs l,dI x] (.bool (decide (x∈l))):=by
 refine qam (E:=Tryz.env 0) Tryz.tok rfl 1000 Tryz.func101 rfl rfl Tryz.ntmps101 (by simp) fun ok=>?_
 simp only[go_sem,seval] at ok
 simp only[go_sem,seval,Tryz.results101]
 refine qfM (Tryz.c_Index l x hl) ?_
 rintro y ⟨n,rfl,hn⟩
 simp only[go_sem,seval,Tryz.results101]
 repeat' first|assumption|(simp (disch:=first|assumption|omega|(simp;done)|(simp;omega)) only[qaa,qac,List.take_of_length_le,qab,qae,qaf,qag,qah];try simp only[go_sem,seval,Tryz.results101])|(with_reducible refine And.intro ?_ ?_)|(with_reducible intro _)|((try rw[qad]);omega)
 exact decide_eq_decide.2 hn
end Go.Proofs
