/- Contracts: the reference's lookup tables and cells. Conditions: none; lemmas. -/
import Derived.Test.YtbnocdngcmimaaaC70
import Derived.Test.YtbnocdngcmimaaaC65
set_option maxRecDepth 20000
set_option linter.unusedVariables false
set_option linter.unusedSimpArgs false
namespace Go.Proofs
open Go Go.VL
theorem Try.c_l5Table (c:Circ) (hc:c.Valid) (leaves:List Int) (hl:leaves.length≤3) (v:Int) (hv0:0≤v) (hv:v<c.vars):Pure Try.prog 135 [dC c,dI v,dIs leaves] (dI (qiy c v leaves)):=by
 have hpw:=Nat.pow_le_pow_right (n:=2) (by omega) hl
 have hI:(2:Int) ^ leaves.length=((2 ^ leaves.length:Nat):Int):=by simp
 have hfin:qiy c v leaves=((qfQ c v leaves (2 ^ leaves.length):Nat):Int):=rfl
 rw[hfin]
 generalize 2 ^ leaves.length=N at *
 refine qap (E:=Try.env 0) Try.tok rfl 1000 Try.func135 rfl rfl Try.ntmps135 (by simp) fun ok=>?_
 simp only[go_sem,seval] at ok
 simp only[go_sem,seval,Try.results135]
 repeat' first|assumption|(simp (disch:=first|assumption|omega|(simp;done)|(simp;omega)) only[qab,qad,List.take_of_length_le,qac,qaf,qag];try simp only[go_sem,seval,Try.results135])|(with_reducible refine And.intro ?_ ?_)|(with_reducible intro _)|(refine @Exists.intro I _ (I.d D.nil) ?_;simp only[go_sem,seval,Try.results135])|((with_reducible (show Region.lexB _ _=true));kernel_rfl)|((try rw[qae]);omega)
 refine qaB (E:=Try.env 0) Try.tok (σ:=Nat) (fun x=>[(0,.d (dC c)),(1,.d (dI v)),(2,.d (dIs leaves)),(3,.ptr 0 0),(7,.d (dI (qfQ c v leaves x:Nat))),(8,.d (dI x))]) (fun _=>[.box [.d (dI c.inputs),.d (dIs c.next),.d (dPs c.gates),.d (dIs c.outs)]]) (fun x=>x≤N) (fun x=>N-x) [] 1000 1000 ?_ ?_ ?_
 ·simp only[go_sem,seval]
 ·simp only[go_sem,seval]
  exact⟨0,by omega,rfl,rfl⟩
 ·intro x hx
  have htl:=qjZ c v leaves x
  have htp:=Nat.pow_le_pow_right (n:=2) (by omega) (show x≤8 by omega)
  have hI2:(2:Int) ^ x=((2 ^ x:Nat):Int):=by simp
  have hts:qfQ c v leaves (x+1)=qfQ c v leaves x+(if qfP c leaves x v then 2 ^ x else 0):=rfl
  generalize 2 ^ x=M at *
  by_cases hlt:x<N
  ·have q:=Try.c_l5Cone c hc leaves hl x (by omega) (v.toNat+1) v (by omega) hv0 hv
   simp only[go_sem,seval,Try.results135,hI,hI2]
   repeat' first|assumption|(simp (disch:=first|assumption|omega|(simp;done)|(simp;omega)) only[qab,qad,List.take_of_length_le,qac,qaf,qag];try simp only[go_sem,seval,Try.results135,hI,hI2])|(with_reducible refine And.intro ?_ ?_)|(with_reducible intro _)|(refine qaj q ?_;simp only[go_sem,seval,Try.results135,hI,hI2])|(refine @Exists.intro I _ (I.d D.nil) ?_;simp only[go_sem,seval,Try.results135,hI,hI2])|((with_reducible (show Region.lexB _ _=true));kernel_rfl)|((try rw[qae]);omega)
   ·rename_i h9
    exact⟨x+1,by omega,by omega,by rw[hts,if_pos h9];omega,rfl⟩
   ·rename_i h9
    exact⟨x+1,by omega,by omega,by rw[hts,if_neg (by rw[h9];simp)];omega,rfl⟩
  ·simp only[go_sem,seval,Try.results135,hI,hI2]
   repeat' first|assumption|(simp (disch:=first|assumption|omega|(simp;done)|(simp;omega)) only[qab,qad,List.take_of_length_le,qac,qaf,qag];try simp only[go_sem,seval,Try.results135,hI,hI2])|(with_reducible refine And.intro ?_ ?_)|(with_reducible intro _)|(refine @Exists.intro I _ (I.d D.nil) ?_;simp only[go_sem,seval,Try.results135,hI,hI2])|((with_reducible (show Region.lexB _ _=true));kernel_rfl)|((try rw[qae]);omega)
   rw[show x=N by omega]
abbrev dLu (l:Lut):D:=.agg [dI l.var,dIs l.leaves,dI l.table]
abbrev dLus (l:List Lut):D:=.lst 3 (l.map fun x=>dLu x)
def lu0:Lut:=⟨0,[],0⟩
theorem qal {l:List Lut}{i:Nat}{z:D}(h:i<l.length):(l.map fun x=>dLu x).getD i z=dLu (l.getD i lu0):=getD_lt _ _ _ _ _ h
theorem Try.c_l5Map (c:Circ) (hc:c.Valid):PureF Try.prog 126 [dC c] (dLus (qgc c)):=by
 have hf:=hc.first_bd
 have hi0:=hc.i0
 have hi1:=hc.i1
 have hfst:=Try.c_l1First c (by omega)
 have hcu:=Try.c_l5Cuts c hc
 have hbe:=Try.c_l5Best c hc
 have hlo:=hc.lo
 have hln:=hc.ln
 have hlg:=hc.lg
 refine qdj (E:=Try.envf 0) Try.tok rfl 1000 Try.func126 rfl rfl Try.ntmps126 (by simp) fun ok=>?_
 simp only[go_sem,seval] at ok
 simp only[go_sem,seval,Try.results126]
 refine qbN (E:=Try.envf 0) Try.tok Try.follows 1000 1000 [] (.fst 0 (.fst 1 (.one 2 (.one 3 (.fst 4 (.fst 5 (.fst 6 (.fst 7 (.fst 8 (.done)))))))))) (by kernel_rfl) ?_
 simp only[go_sem,seval,Try.results126]
 repeat' first|assumption|(simp (disch:=first|assumption|omega|(simp;done)|(simp;omega)) only[qab,qad,List.take_of_length_le,qac,qaf,qag];try simp only[go_sem,seval,Try.results126])|(with_reducible refine And.intro ?_ ?_)|(with_reducible intro _)|(refine qaj hfst ?_;simp only[go_sem,seval,Try.results126])|(refine qci hcu ?_;simp only[go_sem,seval,Try.results126])|(refine qci hbe ?_;simp only[go_sem,seval,Try.results126])|(refine @Exists.intro I _ (I.d D.nil) ?_;simp only[go_sem,seval,Try.results126])|((with_reducible (show Region.lexB _ _=true));kernel_rfl)|((try rw[qae]);omega)
 refine qbN (E:=Try.envf 0) Try.tok Try.follows 1000 1000 [] (.fst 1 (.fst 4 (.fst 2 (.fst 5 (.one 0 (.one 3 (.one 6 (.fst 7 (.done))))))))) (by kernel_rfl) ?_
 simp only[go_sem,seval,Try.results126]
 repeat' first|assumption|(simp (disch:=first|assumption|omega|(simp;done)|(simp;omega)) only[qab,qad,List.take_of_length_le,qac,qaf,qag];try simp only[go_sem,seval,Try.results126])|(with_reducible refine And.intro ?_ ?_)|(with_reducible intro _)|(refine qaj hfst ?_;simp only[go_sem,seval,Try.results126])|(refine @Exists.intro I _ (I.d D.nil) ?_;simp only[go_sem,seval,Try.results126])|((with_reducible (show Region.lexB _ _=true));kernel_rfl)|((try rw[qae]);omega)
 have hvr:(c.first+(c.gates.length:Int)).toNat=c.vars.toNat:=rfl
 have hvv:c.vars=c.first+(c.gates.length:Int):=rfl
 have hrl:(c.outs++c.next).length=c.outs.length+c.next.length:=by simp
 have hrv:=qkT hc
 have hrd:qck c=(c.outs++c.next).map (· / 2):=rfl
 have hn0:qjb c=qcg (List.replicate c.vars.toNat false) (qck c):=rfl
 rw[hvr]
 generalize hroots:c.outs++c.next=roots at *
 refine qaw (E:=Try.envf 0) Try.tok (σ:=Nat) (fun i=>[(0,.d (dC c)),(1,.ptr 0 0),(3,.d (.lst 1 (qeC c (qcK c)))),(5,.d (dI c.first)),(6,.sl 1 0 1 0 c.vars.toNat),(7,.d (dIs roots)),(8,.d (dI i))])
  (fun i=>[.box [.d (dI c.inputs),.d (dIs c.next),.d (dPs c.gates),.d (dIs c.outs)],.row 0 1 true ((qcg (List.replicate c.vars.toNat false) ((qck c).take i)).map D.bool)])
  (fun i=>i≤roots.length) (fun i=>roots.length-i) [] [] 1000 1000 ?_ ?_
 ·simp only[go_sem,seval]
  refine⟨0,by omega,?_⟩
  simp[qcg,←hrl]
 ·intro i hi
  have hsl:=qdQ ((qck c).take i) (List.replicate c.vars.toNat false)
  rw[List.length_replicate] at hsl
  by_cases hlt:i<roots.length
  ·have hrg:(qck c).getD i 0=roots.getD i 0/2:=by rw[hrd];simp[List.getD,hlt]
   have hbd:=hrv _ (qao (by rw[hrd];simpa using hlt):(qck c).getD i 0∈qck c)
   have hst:qcg (List.replicate c.vars.toNat false) ((qck c).take (i+1))=(qcg (List.replicate c.vars.toNat false) ((qck c).take i)).set (roots.getD i 0/2).toNat true:=by
    rw[←hrg]
    exact qa3 (f:=fun(n:List Bool) (v:Int)=>n.set v.toNat true) (b:=List.replicate c.vars.toNat false) (0:Int) (by rw[hrd];simpa using hlt)
   rw[hrg] at hbd
   simp only[go_sem,seval,Try.results126]
   repeat' first|assumption|(simp (disch:=first|assumption|omega|(simp;done)|(simp;omega)) only[qab,qad,List.take_of_length_le,qac,qaf,qag];try simp only[go_sem,seval,Try.results126])|(with_reducible refine And.intro ?_ ?_)|(with_reducible intro _)|(refine @Exists.intro I _ (I.d D.nil) ?_;simp only[go_sem,seval,Try.results126])|((with_reducible (show Region.lexB _ _=true));kernel_rfl)|((try rw[qae]);omega)
   exact⟨i+1,by omega,by omega,rfl,by rw[hst]⟩
  ·have hst:qcg (List.replicate c.vars.toNat false) ((qck c).take i)=qjb c:=by rw[hn0,List.take_of_length_le (by rw[hrd];simp;omega)]
   rw[hst]
   simp only[go_sem,seval,Try.results126]
   repeat' first|assumption|(simp (disch:=first|assumption|omega|(simp;done)|(simp;omega)) only[qab,qad,List.take_of_length_le,qac,qaf,qag];try simp only[go_sem,seval,Try.results126])|(with_reducible refine And.intro ?_ ?_)|(with_reducible intro _)|(refine @Exists.intro I _ (I.d D.nil) ?_;simp only[go_sem,seval,Try.results126])|((with_reducible (show Region.lexB _ _=true));kernel_rfl)|((try rw[qae]);omega)
   have hne0:=qj0 c
   have hlu:qgc c=mapD c c.gates.length (qjb c) []:=rfl
   refine qaw (E:=Try.envf 0) Try.tok (σ:=Nat×List Bool×List Lut) (fun s=>[(0,.d (dC c)),(1,.ptr 0 0),(3,.d (.lst 1 (qeC c (qcK c)))),(5,.d (dI c.first)),(6,.sl 1 0 1 0 c.vars.toNat),(9,.d (dLus s.2.2)),(10,.d (dI (c.first+(s.1:Int)-1)))])
    (fun s=>[.box [.d (dI c.inputs),.d (dIs c.next),.d (dPs c.gates),.d (dIs c.outs)],.row 0 1 true (s.2.1.map D.bool)])
    (fun s=>s.1≤c.gates.length∧s.2.1.length=c.vars.toNat∧s.2.2.length+s.1≤c.gates.length∧mapD c s.1 s.2.1 s.2.2=qgc c) (fun s=>s.1) [] [] 1000 1000 ?_ ?_
   ·simp only[go_sem,seval]
    refine⟨(c.gates.length,qjb c,[]),⟨by simp,hne0,by simp,hlu.symm⟩,?_⟩
    simp;omega
   ·rintro⟨j,need,out⟩ ⟨hj,hnl,hol,hinv⟩
    simp only at hj hnl hol hinv
    cases j with
    | zero=>
     simp only[go_sem,seval,Try.results126]
     repeat' first|assumption|(simp (disch:=first|assumption|omega|(simp;done)|(simp;omega)) only[qab,qad,List.take_of_length_le,qac,qaf,qag];try simp only[go_sem,seval,Try.results126])|(with_reducible refine And.intro ?_ ?_)|(with_reducible intro _)|(refine @Exists.intro I _ (I.d D.nil) ?_;simp only[go_sem,seval,Try.results126])|((with_reducible (show Region.lexB _ _=true));kernel_rfl)|((try rw[qae]);omega)
     rw[←hinv];rfl
    | succ m=>
     have hbo:=qeV hc (i:=m) (by omega)
     have hbl:=qnS c
     have ev:(c.first+((m+1:Nat):Int)-1)=c.first+(m:Int):=by omega
     have ev2:(c.first+(m:Int)).toNat=c.first.toNat+m:=by omega
     have hbg : ∀ z,(qeC c (qcK c)).getD (c.first.toNat+m) z=dIs ((qcK c).getD (c.first.toNat+m) []):=fun z=>qnT (by omega) (by omega)
     have hstep:mapD c (m+1) need out=if need.getD (c.first.toNat+m) false=true then
       mapD c m (qcg need ((qcK c).getD (c.first.toNat+m) [])) (⟨c.first+(m:Int),(qcK c).getD (c.first.toNat+m) [],qiy c (c.first+(m:Int)) ((qcK c).getD (c.first.toNat+m) [])⟩::out)
      else mapD c m need out:=rfl
     have htb:=Try.c_l5Table c hc ((qcK c).getD (c.first.toNat+m) []) hbo.2.1 (c.first+(m:Int)) (by omega) (by omega)
     have hbD:(qeC c (qcK c)).length=c.first.toNat+c.gates.length:=by rw[qhM (by omega)];exact hbl
     rw[ev]
     generalize hL:(qcK c).getD (c.first.toNat+m) []=L at *
     by_cases hnd:need.getD (c.first.toNat+m) false=true
     ·rw[if_pos hnd] at hstep
      simp only[go_sem,seval,Try.results126,ev2,hnd,hbg]
      repeat' first|assumption|(simp (disch:=first|assumption|omega|(simp;done)|(simp;omega)) only[qab,qad,List.take_of_length_le,qac,qaf,qag];try simp only[go_sem,seval,Try.results126,ev2,hnd,hbg])|(with_reducible refine And.intro ?_ ?_)|(with_reducible intro _)|(refine @Exists.intro I _ (I.d D.nil) ?_;simp only[go_sem,seval,Try.results126,ev2,hnd,hbg])|((with_reducible (show Region.lexB _ _=true));kernel_rfl)|((try rw[qae]);omega)
      refine qaw (E:=Try.envf 0) Try.tok (σ:=Nat) (fun k=>[(0,.d (dC c)),(1,.ptr 0 0),(3,.d (.lst 1 (qeC c (qcK c)))),(5,.d (dI c.first)),(6,.sl 1 0 1 0 c.vars.toNat),(9,.d (dLus out)),(10,.d (dI (c.first+(m:Int)))),(11,.d (dI k))])
       (fun k=>[.box [.d (dI c.inputs),.d (dIs c.next),.d (dPs c.gates),.d (dIs c.outs)],.row 0 1 true ((qcg need (L.take k)).map D.bool)])
       (fun k=>k≤L.length) (fun k=>L.length-k) [] [] 1000 1000 ?_ ?_
      ·simp only[go_sem,seval]
       exact⟨0,by omega,rfl,rfl⟩
      ·intro k hk
       have hsl:=qdQ (L.take k) need
       by_cases hkt:k<L.length
       ·have hst:qcg need (L.take (k+1))=(qcg need (L.take k)).set (L.getD k 0).toNat true:=qa3 (f:=fun(n:List Bool) (v:Int)=>n.set v.toNat true) (b:=need) (0:Int) hkt
        have hz:=hbo.2.2 _ (qao hkt:L.getD k 0∈L)
        simp only[go_sem,seval,Try.results126,ev2,hbg]
        repeat' first|assumption|(simp (disch:=first|assumption|omega|(simp;done)|(simp;omega)) only[qab,qad,List.take_of_length_le,qac,qaf,qag];try simp only[go_sem,seval,Try.results126,ev2,hbg])|(with_reducible refine And.intro ?_ ?_)|(with_reducible intro _)|(refine @Exists.intro I _ (I.d D.nil) ?_;simp only[go_sem,seval,Try.results126,ev2,hbg])|((with_reducible (show Region.lexB _ _=true));kernel_rfl)|((try rw[qae]);omega)
        exact⟨k+1,by omega,by omega,rfl,hst.symm⟩
       ·have hst:qcg need (L.take k)=qcg need L:=by rw[List.take_of_length_le (by omega)]
        rw[hst]
        rw[hst] at hsl
        simp only[go_sem,seval,Try.results126,ev2,hbg]
        repeat' first|assumption|(simp (disch:=first|assumption|omega|(simp;done)|(simp;omega)) only[qab,qad,List.take_of_length_le,qac,qaf,qag];try simp only[go_sem,seval,Try.results126,ev2,hbg])|(with_reducible refine And.intro ?_ ?_)|(with_reducible intro _)|(refine @Exists.intro I _ (I.d D.nil) ?_;simp only[go_sem,seval,Try.results126,ev2,hbg])|((with_reducible (show Region.lexB _ _=true));kernel_rfl)|((try rw[qae]);omega)
        refine qbN (E:=Try.envf 0) Try.tok Try.follows 1000 1000 [] (.fst 0 (.fst 2 (.fst 3 (.fst 4 (.fst 8 (.fst 9 (.fst 10 (.fst 11 (.fst 16 (.fst 5 (.fst 7 (.fst 12 (.one 1 (.one 6 (.one 13 (.fst 14 (.one 15 (.one 17 (.fst 18 (.done)))))))))))))))))))) (by kernel_rfl) ?_
        simp only[go_sem,seval,Try.results126,ev2,hbg]
        repeat' first|assumption|(simp (disch:=first|assumption|omega|(simp;done)|(simp;omega)) only[qab,qad,List.take_of_length_le,qac,qaf,qag];try simp only[go_sem,seval,Try.results126,ev2,hbg])|(with_reducible refine And.intro ?_ ?_)|(with_reducible intro _)|(refine qaj htb ?_;simp only[go_sem,seval,Try.results126,ev2,hbg])|(refine @Exists.intro I _ (I.d D.nil) ?_;simp only[go_sem,seval,Try.results126,ev2,hbg])|((with_reducible (show Region.lexB _ _=true));kernel_rfl)|((try rw[qae]);omega)
        exact⟨(m,qcg need L,⟨c.first+(m:Int),L,qiy c (c.first+(m:Int)) L⟩::out),⟨by simp only;omega,hsl.trans hnl,by simp only[List.length_cons];omega,by rw[←hinv,hstep]⟩,by simp only;omega,⟨rfl,by simp only⟩,rfl⟩
     ·rw[if_neg hnd] at hstep
      rw[Bool.not_eq_true] at hnd
      simp only[go_sem,seval,Try.results126,ev2,hnd,hbg]
      repeat' first|assumption|(simp (disch:=first|assumption|omega|(simp;done)|(simp;omega)) only[qab,qad,List.take_of_length_le,qac,qaf,qag];try simp only[go_sem,seval,Try.results126,ev2,hnd,hbg])|(with_reducible refine And.intro ?_ ?_)|(with_reducible intro _)|(refine @Exists.intro I _ (I.d D.nil) ?_;simp only[go_sem,seval,Try.results126,ev2,hnd,hbg])|((with_reducible (show Region.lexB _ _=true));kernel_rfl)|((try rw[qae]);omega)
      exact⟨(m,need,out),⟨by simp only;omega,hnl,by simp only;omega,by rw[←hinv,hstep]⟩,by simp only;omega,⟨rfl,by simp only⟩,rfl⟩
end Go.Proofs
