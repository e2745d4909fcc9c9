/- Contracts, plain definitions and lemmas. Conditions: none; lemmas. -/
import Derived.Test.YtagfdhingigaoaaC61
import Derived.Test.YtagfdhingigaoaaC70
set_option linter.unusedVariables false
set_option linter.unusedSimpArgs false
namespace Go.VL
section vals
variable {c:Circ}{st ins:List Bool}
end vals
noncomputable def qgS (c:Circ) (i:Nat):Lut:=⟨c.first+(i:Int),(qb9 c).getD (c.first.toNat+i) [],qhy c (c.first+(i:Int)) ((qb9 c).getD (c.first.toNat+i) [])⟩
structure MapOk (c:Circ) (j:Nat) (need:List Bool) (new:List Lut):Prop where
 each : ∀ l∈new,∃ i,i<j∧l=qgS c i
 asc:new.Pairwise fun a b=>a.var<b.var
 all : ∀ i,i<j→((∃ l∈new,l.var=c.first+(i:Int))↔need.getD (c.first.toNat+i) false=true∨∃ l∈new,c.first+(i:Int)∈l.leaves)
theorem qjU {c:Circ}(hc:c.Valid) : ∀ (j:Nat),j≤c.gates.length→∀ (need:List Bool) (out:List Lut),need.length=c.vars.toNat→∃ new,mapD c j need out=new++out∧MapOk c j need new
 | 0,_,need,out,_=>⟨[],rfl,by simp,by simp,by omega⟩
 | j+1,hj,need,out,hn=>by
  have hf:=hc.first_bd
  have hv:=hc.vars_bd
  have hvv:c.vars=c.first+(c.gates.length:Int):=rfl
  have hb:=qei hc (i:=j) (by omega)
  simp only[mapD]
  split
  ·rename_i hnd
   obtain⟨new,e,m⟩:=qjU hc j (by omega) (qbO need ((qb9 c).getD (c.first.toNat+j) [])) (qgS c j::out) (by rw[qdl];exact hn)
   refine⟨new ++ [qgS c j],by rw[List.append_assoc];exact e,fun l hl=>?_,?_,fun i hi=>?_⟩
   ·rcases List.mem_append.1 hl with h|h
    ·obtain⟨i,h1,h2⟩:=m.each l h
     exact⟨i,by omega,h2⟩
    ·obtain rfl:l=qgS c j:=by simpa using h
     exact⟨j,by omega,rfl⟩
   ·rw[List.pairwise_append]
    refine⟨m.asc,by simp,fun a ha b hb2=>?_⟩
    obtain rfl:b=qgS c j:=by simpa using hb2
    obtain⟨i,h1,rfl⟩:=m.each a ha
    show c.first+(i:Int)<c.first+(j:Int)
    omega
   ·have hleaf : ∀ i',i'<j→(c.first+(i':Int)∈(qgS c j).leaves↔c.first+(i':Int)∈(qb9 c).getD (c.first.toNat+j) []):=fun i' _=>Iff.rfl
    by_cases hij:i=j
    ·subst hij
     constructor
     ·exact fun _=>.inl hnd
     ·exact fun _=>⟨qgS c i,by simp,rfl⟩
    ·have hi2:i<j:=by omega
     have hset:=qhz ((qb9 c).getD (c.first.toNat+j) []) need (c.first.toNat+i) (fun v hv=>by have:=hb.2.2 v hv;omega)
     have hmi:=m.all i hi2
     rw[hset,Bool.or_eq_true,decide_eq_true_eq] at hmi
     have hlt:c.first.toNat+i<need.length:=by omega
     have ev:((c.first.toNat+i:Nat):Int)=c.first+(i:Int):=by omega
     rw[ev] at hmi
     constructor
     ·rintro⟨l,hl,hlv⟩
      rcases List.mem_append.1 hl with h|h
      ·rcases hmi.1 ⟨l,h,hlv⟩ with(h2|⟨_,h2⟩)|⟨l2,h2,h3⟩
       ·exact .inl h2
       ·exact .inr ⟨qgS c j,by simp,h2⟩
       ·exact .inr ⟨l2,List.mem_append_left _ h2,h3⟩
      ·obtain rfl:l=qgS c j:=by simpa using h
       have:c.first+(j:Int)=c.first+(i:Int):=hlv
       omega
     ·rintro(h|⟨l,hl,hlv⟩)
      ·obtain⟨l,h1,h2⟩:=hmi.2 (.inl (.inl h))
       exact⟨l,List.mem_append_left _ h1,h2⟩
      ·rcases List.mem_append.1 hl with h|h
       ·obtain⟨l,h1,h2⟩:=hmi.2 (.inr ⟨l,h,hlv⟩)
        exact⟨l,List.mem_append_left _ h1,h2⟩
       ·obtain rfl:l=qgS c j:=by simpa using h
        obtain⟨l,h1,h2⟩:=hmi.2 (.inl (.inr ⟨hlt,hlv⟩))
        exact⟨l,List.mem_append_left _ h1,h2⟩
  ·rename_i hnd
   obtain⟨new,e,m⟩:=qjU hc j (by omega) need out hn
   refine⟨new,e,fun l hl=>?_,m.asc,fun i hi=>?_⟩
   ·obtain⟨i,h1,h2⟩:=m.each l hl
    exact⟨i,by omega,h2⟩
   ·by_cases hij:i=j
    ·subst hij
     constructor
     ·rintro⟨l,hl,hlv⟩
      obtain⟨i2,h1,rfl⟩:=m.each l hl
      have:c.first+(i2:Int)=c.first+(i:Int):=hlv
      omega
     ·rintro(h|⟨l,hl,hlv⟩)
      ·exact absurd h hnd
      ·obtain⟨i2,h1,rfl⟩:=m.each l hl
       have:=(qei hc (i:=i2) (by omega)).2.2 _ hlv
       omega
    ·exact m.all i (by omega)
theorem qiY (c:Circ):(qie c).length=c.vars.toNat:=by rw[qie,qdl];simp
theorem qjV {c:Circ}(hc:c.Valid) : ∀ v∈qbR c,0≤v∧v<c.vars:=by
 intro v hv
 obtain⟨l,hl,rfl⟩:=List.mem_map.1 hv
 have:qba l c.vars:=by
  rcases List.mem_append.1 hl with h|h
  ·exact hc.o l h
  ·exact hc.n l h
 unfold qba at this
 omega
theorem qf3 {c:Circ}(hc:c.Valid):MapOk c c.gates.length (qie c) (qfn c):=by
 obtain⟨new,e,m⟩:=qjU hc c.gates.length (Nat.le_refl _) (qie c) [] (qiY c)
 rw[List.append_nil] at e
 rw[qfn,e]
 exact m
theorem qiZ {c:Circ}(hc:c.Valid):(qfn c).length≤c.gates.length:=by
 have m:=qf3 hc
 have h1:((qfn c).map fun l=>(l.var-c.first).toNat).Nodup:=by
  rw[List.nodup_iff_pairwise_ne,List.pairwise_map]
  refine m.asc.imp_of_mem fun {a b} ha hb h=>?_
  obtain⟨i,-,rfl⟩:=m.each a ha
  obtain⟨j,-,rfl⟩:=m.each b hb
  have:c.first+(i:Int)<c.first+(j:Int):=h
  show(c.first+(i:Int)-c.first).toNat≠(c.first+(j:Int)-c.first).toNat
  omega
 have h2:((qfn c).map fun l=>(l.var-c.first).toNat) ⊆ List.range c.gates.length:=by
  intro x hx
  obtain⟨l,hl,rfl⟩:=List.mem_map.1 hx
  obtain⟨i,hi,rfl⟩:=m.each l hl
  have:(qgS c i).var=c.first+(i:Int):=rfl
  exact List.mem_range.2 (by omega)
 have:=h1.length_le_of_subset h2
 simpa using this
theorem qhA {c:Circ}(hc:c.Valid):(qcH c).length≤17:=by
 have:=qiZ hc
 have:=hc.ln
 have:=hc.lg
 simp only[qcH,List.length_append,List.length_map,List.length_range]
 omega
end Go.VL

set_option maxRecDepth 20000
set_option linter.unusedVariables false
set_option linter.unusedSimpArgs false
namespace Go.Proofs
open Go Go.VL
theorem Try.c_l5Table (c:Circ) (hc:c.Valid) (leaves:List Int) (hl:leaves.length≤3) (v:Int) (hv0:0≤v) (hv:v<c.vars):Pure Try.prog 55 [dC c,dI v,dIs leaves] (dI (qhy c v leaves)):=by
 have hpw:=Nat.pow_le_pow_right (n:=2) (by omega) hl
 have hI:(2:Int) ^ leaves.length=((2 ^ leaves.length:Nat):Int):=by simp
 have hfin:qhy c v leaves=((qeZ c v leaves (2 ^ leaves.length):Nat):Int):=rfl
 rw[hfin]
 generalize 2 ^ leaves.length=N at *
 refine qat (E:=Try.env 0) Try.tok rfl 1000 Try.func55 rfl rfl Try.ntmps55 (by simp) fun ok=>?_
 simp only[go_sem,seval] at ok
 simp only[go_sem,seval,Try.results55]
 repeat' first|assumption|(simp (disch:=first|assumption|omega|(simp;done)|(simp;omega)) only[List.take_of_length_le];try simp only[go_sem,seval,Try.results55])|(with_reducible first|apply And.intro|intro _)|(refine qac ?_;simp only[go_sem,seval,Try.results55])|exact lexT|((try rw[qaa]);omega)
 refine qaH (E:=Try.env 0) Try.tok (σ:=Nat) (fun x=>[(0,.d (dC c)),(1,.d (dI v)),(2,.d (dIs leaves)),(3,.ptr 0 0),(7,.d (dI (qeZ c v leaves x:Nat))),(8,.d (dI x))]) (fun _=>[.box [.d (dI c.inputs),.d (dIs c.next),.d (dPs c.gates),.d (dIs c.outs)]]) (fun x=>x≤N) (fun x=>N-x) [] 1000 1000 ?_ ?_ ?_
 ·simp only[go_sem,seval]
 ·simp only[go_sem,seval]
  exact⟨0,by omega,rfl,rfl⟩
 ·intro x hx
  have htl:=qiX c v leaves x
  have htp:=Nat.pow_le_pow_right (n:=2) (by omega) (show x≤8 by omega)
  have hI2:(2:Int) ^ x=((2 ^ x:Nat):Int):=by simp
  have hts:qeZ c v leaves (x+1)=qeZ c v leaves x+(if qeY c leaves x v then 2 ^ x else 0):=rfl
  generalize 2 ^ x=M at *
  by_cases hlt:x<N
  ·have q:=Try.c_l5Cone c hc leaves hl x (by omega) (v.toNat+1) v (by omega) hv0 hv
   simp only[go_sem,seval,Try.results55,hI,hI2]
   repeat' first|assumption|(simp (disch:=first|assumption|omega|(simp;done)|(simp;omega)) only[List.take_of_length_le];try simp only[go_sem,seval,Try.results55,hI,hI2])|(with_reducible first|apply And.intro|intro _)|(refine qag q ?_;simp only[go_sem,seval,Try.results55,hI,hI2])|(refine qac ?_;simp only[go_sem,seval,Try.results55,hI,hI2])|exact lexT|((try rw[qaa]);omega)
   ·rename_i h9
    exact⟨x+1,by omega,by omega,by rw[hts,if_pos h9];omega,rfl⟩
   ·rename_i h9
    exact⟨x+1,by omega,by omega,by rw[hts,if_neg (by rw[h9];simp)];omega,rfl⟩
  ·simp only[go_sem,seval,Try.results55,hI,hI2]
   repeat' first|assumption|(simp (disch:=first|assumption|omega|(simp;done)|(simp;omega)) only[List.take_of_length_le];try simp only[go_sem,seval,Try.results55,hI,hI2])|(with_reducible first|apply And.intro|intro _)|(refine qac ?_;simp only[go_sem,seval,Try.results55,hI,hI2])|exact lexT|((try rw[qaa]);omega)
   rw[show x=N by omega]
abbrev dLu (l:Lut):D:=.agg [dI l.var,dIs l.leaves,dI l.table]
abbrev dLus (l:List Lut):D:=.lst 3 (l.map fun x=>dLu x)
def lu0:Lut:=⟨0,[],0⟩
theorem qaI {l:List Lut}{i:Nat}{z:D}(h:i<l.length):(l.map fun x=>dLu x).getD i z=dLu (l.getD i lu0):=getD_lt _ _ _ _ _ h
set_option maxHeartbeats 4000000 in
theorem Try.c_l5Map (c:Circ) (hc:c.Valid):PureF Try.prog 46 [dC c] (dLus (qfn c)):=by
 have hf:=hc.first_bd
 have hi0:=hc.i0
 have hi1:=hc.i1
 have hfst:=Try.c_l1First c (by omega)
 have hcu:=Try.c_l5Cuts c hc
 have hbe:=Try.c_l5Best c hc
 have hlo:=hc.lo
 have hln:=hc.ln
 have hlg:=hc.lg
 refine qde (E:=Try.envf 0) Try.tok rfl 1000 Try.func46 rfl rfl Try.ntmps46 (by simp) fun ok=>?_
 simp only[go_sem,seval] at ok
 simp only[go_sem,seval,Try.results46]
 have hvr:(c.first+(c.gates.length:Int)).toNat=c.vars.toNat:=rfl
 have hvv:c.vars=c.first+(c.gates.length:Int):=rfl
 have hrl:(c.outs++c.next).length=c.outs.length+c.next.length:=by simp
 have hrv:=qjV hc
 have hrd:qbR c=(c.outs++c.next).map (· / 2):=rfl
 have hn0:qie c=qbO (List.replicate c.vars.toNat false) (qbR c):=rfl
 apply cutP
 ·intro key
  refine qau (E:=Try.envf 0) Try.tok Try.follows 1000 1000 [] (fsts [0,1] (.one 2 (.one 3 (fsts [4,5,6,7,8] .done)))) (by kernel_rfl) ?_
  simp only[go_sem,seval,Try.results46]
  repeat' first|assumption|(simp (disch:=first|assumption|omega|(simp;done)|(simp;omega)) only[List.take_of_length_le];try simp only[go_sem,seval,Try.results46])|(with_reducible first|apply And.intro|intro _)|(refine qag hfst ?_;simp only[go_sem,seval,Try.results46])|(refine qcO hcu ?_;simp only[go_sem,seval,Try.results46])|(refine qcO hbe ?_;simp only[go_sem,seval,Try.results46])|(refine qac ?_;simp only[go_sem,seval,Try.results46])|exact lexT|((try rw[qaa]);omega)
  all_goals (
   refine qau (E:=Try.envf 0) Try.tok Try.follows 1000 1000 [3,6] (fsts [1,4,2] (.two 0 (.two 3 (.one 5 (.one 6 (.fst 7 .done))) 5 (.one 3 (.one 6 (.fst 7 .done)))) 5 (.one 0 (.one 3 (.one 6 (.fst 7 .done)))))) (by kernel_rfl) ?_
   simp only[go_sem,seval,Try.results46]
   repeat' first|assumption|(simp (disch:=first|assumption|omega|(simp;done)|(simp;omega)) only[List.take_of_length_le];try simp only[go_sem,seval,Try.results46])|(with_reducible first|apply And.intro|intro _)|(refine qag hfst ?_;simp only[go_sem,seval,Try.results46])|(refine qac ?_;simp only[go_sem,seval,Try.results46])|exact lexT|((try rw[qaa]);omega))
  all_goals (
   rw[hvr]
   refine iwp_fit (E:=Try.envf 0) [(0,.d (dC c)),(1,.ptr 0 0),(3,.d (.lst 1 (qdK c (qb9 c)))),(5,.d (dI c.first)),(6,.sl 1 0 1 0 c.vars.toNat),(7,.sl 2 2 1 0 (c.outs.length+c.next.length)),(8,.d (dI 0))]
    [.box [.d (dI c.inputs),.d (dIs c.next),.d (dPs c.gates),.d (dIs c.outs)],.row 0 1 true ((List.replicate c.vars.toNat false).map D.bool),.row 2 1 true ((c.outs++c.next).map (D.int .i64))] rfl ?_ ?_
   ·simp only[go_sem,seval];done
   ·exact key.get)
 generalize hroots:c.outs++c.next=roots at *
 refine qas (E:=Try.envf 0) Try.tok (σ:=Nat) (fun i=>[(0,.d (dC c)),(1,.ptr 0 0),(3,.d (.lst 1 (qdK c (qb9 c)))),(5,.d (dI c.first)),(6,.sl 1 0 1 0 c.vars.toNat),(7,.d (dIs roots)),(8,.d (dI i))])
  (fun i=>[.box [.d (dI c.inputs),.d (dIs c.next),.d (dPs c.gates),.d (dIs c.outs)],.row 0 1 true ((qbO (List.replicate c.vars.toNat false) ((qbR c).take i)).map D.bool)])
  (fun i=>i≤roots.length) (fun i=>roots.length-i) [] [] 1000 1000 ?_ ?_
 ·simp only[go_sem,seval]
  refine⟨0,by omega,?_⟩
  simp[qbO,←hrl]
 ·intro i hi
  have hsl:=qdl ((qbR c).take i) (List.replicate c.vars.toNat false)
  rw[List.length_replicate] at hsl
  by_cases hlt:i<roots.length
  ·have hrg:(qbR c).getD i 0=roots.getD i 0/2:=by rw[hrd];simp[List.getD,hlt]
   have hbd:=hrv _ (qan (by rw[hrd];simpa using hlt):(qbR c).getD i 0∈qbR c)
   have hst:qbO (List.replicate c.vars.toNat false) ((qbR c).take (i+1))=(qbO (List.replicate c.vars.toNat false) ((qbR c).take i)).set (roots.getD i 0/2).toNat true:=by
    rw[←hrg]
    exact qaR (f:=fun(n:List Bool) (v:Int)=>n.set v.toNat true) (b:=List.replicate c.vars.toNat false) (0:Int) (by rw[hrd];simpa using hlt)
   rw[hrg] at hbd
   simp only[go_sem,seval,Try.results46]
   repeat' first|assumption|(simp (disch:=first|assumption|omega|(simp;done)|(simp;omega)) only[List.take_of_length_le];try simp only[go_sem,seval,Try.results46])|(with_reducible first|apply And.intro|intro _)|(refine qac ?_;simp only[go_sem,seval,Try.results46])|exact lexT|((try rw[qaa]);omega)
   exact⟨i+1,by omega,by omega,rfl,by rw[hst]⟩
  ·have hst:qbO (List.replicate c.vars.toNat false) ((qbR c).take i)=qie c:=by rw[hn0,List.take_of_length_le (by rw[hrd];simp;omega)]
   rw[hst]
   simp only[go_sem,seval,Try.results46]
   repeat' first|assumption|(simp (disch:=first|assumption|omega|(simp;done)|(simp;omega)) only[List.take_of_length_le];try simp only[go_sem,seval,Try.results46])|(with_reducible first|apply And.intro|intro _)|(refine qac ?_;simp only[go_sem,seval,Try.results46])|exact lexT|((try rw[qaa]);omega)
   have hne0:=qiY c
   have hlu:qfn c=mapD c c.gates.length (qie c) []:=rfl
   refine qas (E:=Try.envf 0) Try.tok (σ:=Nat×List Bool×List Lut) (fun s=>[(0,.d (dC c)),(1,.ptr 0 0),(3,.d (.lst 1 (qdK c (qb9 c)))),(5,.d (dI c.first)),(6,.sl 1 0 1 0 c.vars.toNat),(9,.d (dLus s.2.2)),(10,.d (dI (c.first+(s.1:Int)-1)))])
    (fun s=>[.box [.d (dI c.inputs),.d (dIs c.next),.d (dPs c.gates),.d (dIs c.outs)],.row 0 1 true (s.2.1.map D.bool)])
    (fun s=>s.1≤c.gates.length∧s.2.1.length=c.vars.toNat∧s.2.2.length+s.1≤c.gates.length∧mapD c s.1 s.2.1 s.2.2=qfn c) (fun s=>s.1) [] [] 1000 1000 ?_ ?_
   ·simp only[go_sem,seval]
    refine⟨(c.gates.length,qie c,[]),⟨by simp,hne0,by simp,hlu.symm⟩,?_⟩
    simp;omega
   ·rintro⟨j,need,out⟩ ⟨hj,hnl,hol,hinv⟩
    simp only at hj hnl hol hinv
    cases j with
    | zero=>
     simp only[go_sem,seval,Try.results46]
     repeat' first|assumption|(simp (disch:=first|assumption|omega|(simp;done)|(simp;omega)) only[List.take_of_length_le];try simp only[go_sem,seval,Try.results46])|(with_reducible first|apply And.intro|intro _)|(refine qac ?_;simp only[go_sem,seval,Try.results46])|exact lexT|((try rw[qaa]);omega)
     rw[←hinv];rfl
    | succ m=>
     have hbo:=qei hc (i:=m) (by omega)
     have hbl:=qmM c
     have ev:(c.first+((m+1:Nat):Int)-1)=c.first+(m:Int):=by omega
     have ev2:(c.first+(m:Int)).toNat=c.first.toNat+m:=by omega
     have hbg : ∀ z,(qdK c (qb9 c)).getD (c.first.toNat+m) z=dIs ((qb9 c).getD (c.first.toNat+m) []):=fun z=>qmN (by omega) (by omega)
     have hstep:mapD c (m+1) need out=if need.getD (c.first.toNat+m) false=true then
       mapD c m (qbO need ((qb9 c).getD (c.first.toNat+m) [])) (⟨c.first+(m:Int),(qb9 c).getD (c.first.toNat+m) [],qhy c (c.first+(m:Int)) ((qb9 c).getD (c.first.toNat+m) [])⟩::out)
      else mapD c m need out:=rfl
     have htb:=Try.c_l5Table c hc ((qb9 c).getD (c.first.toNat+m) []) hbo.2.1 (c.first+(m:Int)) (by omega) (by omega)
     have hbD:(qdK c (qb9 c)).length=c.first.toNat+c.gates.length:=by rw[qgQ (by omega)];exact hbl
     rw[ev]
     generalize hL:(qb9 c).getD (c.first.toNat+m) []=L at *
     by_cases hnd:need.getD (c.first.toNat+m) false=true
     ·rw[if_pos hnd] at hstep
      simp only[go_sem,seval,Try.results46,ev2,hnd,hbg]
      repeat' first|assumption|(simp (disch:=first|assumption|omega|(simp;done)|(simp;omega)) only[List.take_of_length_le];try simp only[go_sem,seval,Try.results46,ev2,hnd,hbg])|(with_reducible first|apply And.intro|intro _)|(refine qac ?_;simp only[go_sem,seval,Try.results46,ev2,hnd,hbg])|exact lexT|((try rw[qaa]);omega)
      refine qas (E:=Try.envf 0) Try.tok (σ:=Nat) (fun k=>[(0,.d (dC c)),(1,.ptr 0 0),(3,.d (.lst 1 (qdK c (qb9 c)))),(5,.d (dI c.first)),(6,.sl 1 0 1 0 c.vars.toNat),(9,.d (dLus out)),(10,.d (dI (c.first+(m:Int)))),(11,.d (dI k))])
       (fun k=>[.box [.d (dI c.inputs),.d (dIs c.next),.d (dPs c.gates),.d (dIs c.outs)],.row 0 1 true ((qbO need (L.take k)).map D.bool)])
       (fun k=>k≤L.length) (fun k=>L.length-k) [] [] 1000 1000 ?_ ?_
      ·simp only[go_sem,seval]
       exact⟨0,by omega,rfl,rfl⟩
      ·intro k hk
       have hsl:=qdl (L.take k) need
       by_cases hkt:k<L.length
       ·have hst:qbO need (L.take (k+1))=(qbO need (L.take k)).set (L.getD k 0).toNat true:=qaR (f:=fun(n:List Bool) (v:Int)=>n.set v.toNat true) (b:=need) (0:Int) hkt
        have hz:=hbo.2.2 _ (qan hkt:L.getD k 0∈L)
        simp only[go_sem,seval,Try.results46,ev2,hbg]
        repeat' first|assumption|(simp (disch:=first|assumption|omega|(simp;done)|(simp;omega)) only[List.take_of_length_le];try simp only[go_sem,seval,Try.results46,ev2,hbg])|(with_reducible first|apply And.intro|intro _)|(refine qac ?_;simp only[go_sem,seval,Try.results46,ev2,hbg])|exact lexT|((try rw[qaa]);omega)
        exact⟨k+1,by omega,by omega,rfl,hst.symm⟩
       ·have hst:qbO need (L.take k)=qbO need L:=by rw[List.take_of_length_le (by omega)]
        rw[hst]
        rw[hst] at hsl
        simp only[go_sem,seval,Try.results46,ev2,hbg]
        repeat' first|assumption|(simp (disch:=first|assumption|omega|(simp;done)|(simp;omega)) only[List.take_of_length_le];try simp only[go_sem,seval,Try.results46,ev2,hbg])|(with_reducible first|apply And.intro|intro _)|(refine qac ?_;simp only[go_sem,seval,Try.results46,ev2,hbg])|exact lexT|((try rw[qaa]);omega)
        refine qau (E:=Try.envf 0) Try.tok Try.follows 1000 1000 [6,17] (fsts [0,2,3,4,8,9,10,11,16,5] (.three 1 (.three 6 (.two 7 (.one 12 (.one 13 (.fst 14 (.one 15 (.one 17 (.fst 18 .done)))))) 12 (.one 7 (.one 13 (.fst 14 (.one 15 (.one 17 (.fst 18 .done))))))) 7 (.two 6 (.one 12 (.one 13 (.fst 14 (.one 15 (.one 17 (.fst 18 .done)))))) 12 (.one 6 (.one 13 (.fst 14 (.one 15 (.one 17 (.fst 18 .done))))))) 12 (.two 6 (.one 7 (.one 13 (.fst 14 (.one 15 (.one 17 (.fst 18 .done)))))) 7 (.one 6 (.one 13 (.fst 14 (.one 15 (.one 17 (.fst 18 .done)))))))) 7 (.two 1 (.two 6 (.one 12 (.one 13 (.fst 14 (.one 15 (.one 17 (.fst 18 .done)))))) 12 (.one 6 (.one 13 (.fst 14 (.one 15 (.one 17 (.fst 18 .done))))))) 12 (.one 1 (.one 6 (.one 13 (.fst 14 (.one 15 (.one 17 (.fst 18 .done)))))))) 12 (.two 1 (.two 6 (.one 7 (.one 13 (.fst 14 (.one 15 (.one 17 (.fst 18 .done)))))) 7 (.one 6 (.one 13 (.fst 14 (.one 15 (.one 17 (.fst 18 .done))))))) 7 (.one 1 (.one 6 (.one 13 (.fst 14 (.one 15 (.one 17 (.fst 18 .done)))))))))) (by kernel_rfl) ?_
        simp only[go_sem,seval,Try.results46,ev2,hbg]
        repeat' first|assumption|(simp (disch:=first|assumption|omega|(simp;done)|(simp;omega)) only[List.take_of_length_le];try simp only[go_sem,seval,Try.results46,ev2,hbg])|(with_reducible first|apply And.intro|intro _)|(refine qag htb ?_;simp only[go_sem,seval,Try.results46,ev2,hbg])|(refine qac ?_;simp only[go_sem,seval,Try.results46,ev2,hbg])|exact lexT|((try rw[qaa]);omega)
        all_goals exact⟨(m,qbO need L,⟨c.first+(m:Int),L,qhy c (c.first+(m:Int)) L⟩::out),⟨by simp only;omega,hsl.trans hnl,by simp only[List.length_cons];omega,by rw[←hinv,hstep]⟩,by simp only;omega,⟨rfl,by simp only⟩,rfl⟩
     ·rw[if_neg hnd] at hstep
      rw[Bool.not_eq_true] at hnd
      simp only[go_sem,seval,Try.results46,ev2,hnd,hbg]
      repeat' first|assumption|(simp (disch:=first|assumption|omega|(simp;done)|(simp;omega)) only[List.take_of_length_le];try simp only[go_sem,seval,Try.results46,ev2,hnd,hbg])|(with_reducible first|apply And.intro|intro _)|(refine qac ?_;simp only[go_sem,seval,Try.results46,ev2,hnd,hbg])|exact lexT|((try rw[qaa]);omega)
      exact⟨(m,need,out),⟨by simp only;omega,hnl,by simp only;omega,by rw[←hinv,hstep]⟩,by simp only;omega,⟨rfl,by simp only⟩,rfl⟩
end Go.Proofs
