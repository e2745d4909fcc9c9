/- Contracts: latches that no output needs are removed. Conditions: none; lemmas. -/
import Derived.Test.YtanhandhedpfpaaS1
set_option maxRecDepth 20000
set_option linter.unusedVariables false
set_option linter.unusedSimpArgs false
namespace Go.Proofs
open Go Go.VL
def rmS (c:Circ) (K:List Bool):Nat→List Int×Int
 | 0=>(List.replicate (cFst c+c.gates.length) 0,1+c.inputs)
 | i+1=>if(i:Int)<1+c.inputs then((rmS c K i).1.set i (i:Int),(rmS c K i).2) else if(i:Int)<c.first∧K.getD i false=true then((rmS c K i).1.set i (rmS c K i).2,(rmS c K i).2+1) else rmS c K i
theorem qgv {c:Circ}{K:List Bool} : ∀ i,(rmS c K i).1.length=cFst c+c.gates.length
 | 0=>by simp[rmS]
 | i+1=>by
  rw[rmS]
  split
  ·rw[List.length_set];exact qgv i
  ·split
   ·rw[List.length_set];exact qgv i
   ·exact qgv i
theorem qkw {c:Circ}{K:List Bool}(h0:0≤c.inputs) : ∀ i,0≤(rmS c K i).2∧(rmS c K i).2≤1+c.inputs+(i:Int)
 | 0=>by simp[rmS];omega
 | i+1=>by
  have:=qkw (K:=K) h0 i
  rw[rmS]
  split
  ·show 0≤(rmS c K i).2∧(rmS c K i).2≤_;omega
  ·split
   ·show 0≤(rmS c K i).2+1∧(rmS c K i).2+1≤_;omega
   ·omega
theorem qkx {c:Circ}{K:List Bool}(h0:0≤c.inputs) : ∀ i,∀ x∈(rmS c K i).1,0≤x∧x≤1+c.inputs+(i:Int)
 | 0,x,hx=>by
  simp only[rmS,List.mem_replicate] at hx
  omega
 | i+1,x,hx=>by
  have ih:=qkx (K:=K) h0 i
  have hb:=qkw (K:=K) h0 i
  rw[rmS] at hx
  split at hx
  ·rcases List.mem_or_eq_of_mem_set hx with h|h
   ·have:=ih x h;omega
   ·omega
  ·split at hx
   ·rcases List.mem_or_eq_of_mem_set hx with h|h
    ·have:=ih x h;omega
    ·omega
   ·have:=ih x hx;omega
def rmG (c:Circ) (s:List Int×Int):Nat→List Int
 | 0=>s.1
 | j+1=>(rmG c s j).set (cFst c+j) (s.2+(j:Int))
theorem qhJ {c:Circ}{s:List Int×Int} : ∀ j,(rmG c s j).length=s.1.length
 | 0=>rfl
 | j+1=>by rw[rmG,List.length_set];exact qhJ j
theorem qky {c:Circ}{s:List Int×Int}{n:Int}(hs : ∀ x∈s.1,0≤x∧x≤n) (h2:0≤s.2∧s.2≤n) : ∀ j,∀ x∈rmG c s j,0≤x∧x≤n+(j:Int)
 | 0,x,hx=>by have:=hs x hx;omega
 | j+1,x,hx=>by
  rw[rmG] at hx
  rcases List.mem_or_eq_of_mem_set hx with h|h
  ·have:=qky hs h2 j x h;omega
  ·omega
def rmP (c:Circ) (K:List Bool):List Int:=rmG c (rmS c K (cFst c+c.gates.length)) c.gates.length
def rmH (c:Circ) (K:List Bool) (l:Int):Int:=2*(rmP c K).getD (l/2).toNat 0+l%2
def rmN (c:Circ) (K:List Bool):Nat→List Int
 | 0=>[]
 | i+1=>if K.getD (1+c.inputs.toNat+i) false=true then rmN c K i ++ [rmH c K (c.next.getD i 0)] else rmN c K i
theorem qkz (c:Circ) (K:List Bool) : ∀ i,(rmN c K i).length≤i
 | 0=>by simp[rmN]
 | i+1=>by
  have:=qkz c K i
  rw[rmN]
  split
  ·rw[List.length_append];show _+1≤_;omega
  ·omega
def rmC (c:Circ) (K:List Bool):Circ:=⟨c.inputs,rmN c K c.next.length,c.gates.map (fun p=>(rmH c K p.1,rmH c K p.2)),c.outs.map (rmH c K)⟩
theorem Try.c_RemoveLatches1 (m:List Int) (l:Int) (h:0≤l∧l<2*m.length) (hm : ∀ x∈m,0≤x∧x≤1000000):Pure Try.prog 21 [dI l,.ptr [dIs m]] (dI (2*m.getD (l/2).toNat 0+l%2)):=by
 have hx:=hm _ (qat (l:=m) (i:=(l/2).toNat) (z:=0) (by omega))
 refine qau (E:=Try.env 0) Try.tok rfl 1000 Try.func21 rfl rfl Try.ntmps21 (by simp) fun ok=>?_
 simp only[go_sem,seval] at ok
 simp only[go_sem,seval,Try.results21]
 repeat' first|assumption|(simp (disch:=first|assumption|omega|(simp;done)|(simp;omega)) only[qae,qah,List.take_of_length_le,qag];try simp only[go_sem,seval,Try.results21])|(with_reducible first|apply And.intro|intro _)|(refine qai ?_;simp only[go_sem,seval,Try.results21])|exact lexT|((try rw[qaa]);omega)
 ·rw[qfS h.1,qaa];omega
 ·rw[qfS h.1]
set_option maxHeartbeats 4000000 in
theorem Try.c_RemoveLatches (c:Circ) (hv:c.Valid) (hr:(rmC c (qft c)).Valid) (hd:(opD (rmC c (qft c))).Valid):Pure Try.prog 8 [dC c] (dC (prC (opD (rmC c (qft c))))):=by
 have hfb:=hv.first_bd
 have hvb:=hv.vars_bd
 have hln:=hv.ln;have hlg:=hv.lg;have hlo:=hv.lo;have hi0:=hv.i0;have hi1:=hv.i1
 have hcf:=qbA hv
 have hva:c.vars=c.first+c.gates.length:=rfl
 have hfi:c.first=1+c.inputs+c.next.length:=rfl
 have hvn:c.vars.toNat=cFst c+c.gates.length:=by omega
 have hfg:=Try.c_firstGate c (by omega)
 have hvr:=Try.c_vars c (by omega)
 have hil:=Try.c_isLatch c (by omega)
 have hop:=Try.c_optimize (rmC c (qft c)) hr hd
 have hne:=Try.c_neededLatches c hv
 have hcv:=Try.c_CircuitValid c
 rw[decide_eq_true hv] at hcv
 have hKl:=qkv c
 generalize qft c=K at *
 refine qau (E:=Try.env 0) Try.tok rfl 1000 Try.func8 rfl rfl Try.ntmps8 (by simp) fun ok=>?_
 simp only[go_sem,seval] at ok
 simp only[go_sem,seval,Try.results8]
 repeat' first|assumption|(simp (disch:=first|assumption|omega|(simp;done)|(simp;omega)) only[qae,qah,List.take_of_length_le,qag];try simp only[go_sem,seval,Try.results8])|(with_reducible first|apply And.intro|intro _)|(refine qad hcv ?_;simp only[go_sem,seval,Try.results8])|(refine qad hne ?_;simp only[go_sem,seval,Try.results8])|(refine qad hvr ?_;simp only[go_sem,seval,Try.results8])|(refine qad hfg ?_;simp only[go_sem,seval,Try.results8])|(refine qai ?_;simp only[go_sem,seval,Try.results8])|exact lexT|((try rw[qaa]);omega)
 rw[hvn] at *
 refine qbb (E:=Try.env 0) Try.tok (σ:=Nat) (fun i=>[(1,.ptr 0 0),(2,.ptr 1 0),(3,.d (dBs K)),(4,.ptr 3 0),(5,.ptr 4 0),(6,.d (dI (rmS c K i).2)),(30,.d (dI ((cFst c+c.gates.length:Nat):Int))),(31,.d (dI i))])
  (fun i=>[.box [.d (dI c.inputs),.d (dIs c.next),.d (dPs c.gates),.d (dIs c.outs)],.box [.d (dI 0),.d .nil,.d .nil,.d .nil],.row 0 1 true ((rmS c K i).1.map (D.int .i64)),.box [.sl 2 0 1 0 (cFst c+c.gates.length)],.box [.d (dI c.inputs),.d .nil,.d .nil,.d .nil]])
  (fun i=>i≤cFst c+c.gates.length) (fun i=>cFst c+c.gates.length-i) [] 1000 1000 ?_ ?_ ?_
 ·simp only[go_sem,seval]
 ·simp only[go_sem,seval]
  refine⟨0,by omega,?_⟩
  (repeat' with_reducible apply And.intro) <;> first|rfl|trivial|omega
 ·intro i hi
  have hpl:=qgv (c:=c) (K:=K) i
  have hpb:=qkw (c:=c) (K:=K) hi0 i
  by_cases hlt:i<cFst c+c.gates.length
  ·have hst:rmS c K (i+1)=if(i:Int)<1+c.inputs then((rmS c K i).1.set i (i:Int),(rmS c K i).2) else if(i:Int)<c.first∧K.getD i false=true then((rmS c K i).1.set i (rmS c K i).2,(rmS c K i).2+1) else rmS c K i:=rfl
   have hli:=hil (i:Int)
   simp only[go_sem,seval,Try.results8]
   repeat' first|assumption|(simp (disch:=first|assumption|omega|(simp;done)|(simp;omega)) only[qae,qah,List.take_of_length_le,qag];try simp only[go_sem,seval,Try.results8])|(with_reducible first|apply And.intro|intro _)|(refine qad hfg ?_;simp only[go_sem,seval,Try.results8])|(refine qad hli ?_;simp only[go_sem,seval,Try.results8])|(refine qai ?_;simp only[go_sem,seval,Try.results8])|exact lexT|((try rw[qaa]);omega)
   all_goals
    refine⟨i+1,by omega,by omega,⟨?_,rfl⟩,?_⟩ <;> (rw[hst];split <;> (try split) <;> first|rfl|(exfalso;omega)|(simp_all <;> omega))
  ·obtain rfl:i=cFst c+c.gates.length:=by omega
   have hmem:=qkx (c:=c) (K:=K) hi0 (cFst c+c.gates.length)
   have hP:rmP c K=rmG c (rmS c K (cFst c+c.gates.length)) c.gates.length:=rfl
   generalize rmS c K (cFst c+c.gates.length)=S at *
   simp only[go_sem,seval,Try.results8]
   repeat' first|assumption|(simp (disch:=first|assumption|omega|(simp;done)|(simp;omega)) only[qae,qah,List.take_of_length_le,qag];try simp only[go_sem,seval,Try.results8])|(with_reducible first|apply And.intro|intro _)|(refine qad hfg ?_;simp only[go_sem,seval,Try.results8])|(refine qai ?_;simp only[go_sem,seval,Try.results8])|exact lexT|((try rw[qaa]);omega)
   refine qbb (E:=Try.env 0) Try.tok (σ:=Nat) (fun j=>[(1,.ptr 0 0),(2,.ptr 1 0),(3,.d (dBs K)),(4,.ptr 3 0),(5,.ptr 4 0),(6,.d (dI S.2)),(8,.d (dI (c.first+(j:Int))))])
    (fun j=>[.box [.d (dI c.inputs),.d (dIs c.next),.d (dPs c.gates),.d (dIs c.outs)],.box [.d (dI 0),.d .nil,.d .nil,.d .nil],.row 0 1 true ((rmG c S j).map (D.int .i64)),.box [.sl 2 0 1 0 (cFst c+c.gates.length)],.box [.d (dI c.inputs),.d .nil,.d .nil,.d .nil]])
    (fun j=>j≤c.gates.length) (fun j=>c.gates.length-j) [] 1000 1000 ?_ ?_ ?_
   ·simp only[go_sem,seval]
   ·simp only[go_sem,seval]
    refine⟨0,by omega,?_⟩
    (repeat' with_reducible apply And.intro) <;> first|rfl|trivial|omega
   ·intro j hj
    have hgl:=qhJ (c:=c) (s:=S) j
    by_cases hlt:j<c.gates.length
    ·have hst:rmG c S (j+1)=(rmG c S j).set (cFst c+j) (S.2+(j:Int)):=rfl
     have hfi:(c.first+(j:Int)).toNat=cFst c+j:=by omega
     simp only[go_sem,seval,Try.results8,hfi]
     repeat' first|assumption|(simp (disch:=first|assumption|omega|(simp;done)|(simp;omega)) only[qae,qah,List.take_of_length_le,qag];try simp only[go_sem,seval,Try.results8,hfi])|(with_reducible first|apply And.intro|intro _)|(refine qad hfg ?_;simp only[go_sem,seval,Try.results8,hfi])|(refine qai ?_;simp only[go_sem,seval,Try.results8,hfi])|exact lexT|((try rw[qaa]);omega)
     refine qax (E:=Try.env 0) Try.tok Try.follows 1000 1000 [8] (fsts [1,2,3,4,0] (.one 5 (fsts [6,7] (.one 8 .done)))) (by kernel_rfl) ?_
     simp only[go_sem,seval,Try.results8,hfi]
     repeat' first|assumption|(simp (disch:=first|assumption|omega|(simp;done)|(simp;omega)) only[qae,qah,List.take_of_length_le,qag];try simp only[go_sem,seval,Try.results8,hfi])|(with_reducible first|apply And.intro|intro _)|(refine qad hfg ?_;simp only[go_sem,seval,Try.results8,hfi])|(refine qai ?_;simp only[go_sem,seval,Try.results8,hfi])|exact lexT|((try rw[qaa]);omega)
     all_goals
      refine⟨j+1,by omega,by omega,by omega,?_⟩
      rw[hst,show S.2+(c.first+(j:Int))-c.first=S.2+(j:Int) by omega]
    ·obtain rfl:j=c.gates.length:=by omega
     rw[←hP]
     have hPl:(rmP c K).length=cFst c+c.gates.length:=by rw[hP,qhJ];exact hpl
     have hPm : ∀ x∈rmP c K,0≤x∧x≤1000000:=fun x hx=>by
      rw[hP] at hx
      have:=qky (c:=c) (n:=1+c.inputs+((cFst c+c.gates.length:Nat):Int)) hmem (by omega) c.gates.length x hx
      omega
     have hH : ∀ l,rmH c K l=2*(rmP c K).getD (l/2).toNat 0+l%2:=fun _=>rfl
     have huse : ∀ l,0≤l∧l<2*c.vars→Pure Try.prog 21 [dI l,.ptr [dIs (rmP c K)]] (dI (rmH c K l)):=fun l hl=>Try.c_RemoveLatches1 (rmP c K) l (by omega) hPm
     generalize rmP c K=PL at *
     simp only[go_sem,seval,Try.results8]
     repeat' first|assumption|(simp (disch:=first|assumption|omega|(simp;done)|(simp;omega)) only[qae,qah,List.take_of_length_le,qag];try simp only[go_sem,seval,Try.results8])|(with_reducible first|apply And.intro|intro _)|(refine qad hfg ?_;simp only[go_sem,seval,Try.results8])|(refine qai ?_;simp only[go_sem,seval,Try.results8])|exact lexT|((try rw[qaa]);omega)
     refine qcz (E:=Try.env 0) Try.tok (σ:=Nat) (fun i=>[(1,.ptr 0 0),(2,.ptr 1 0),(3,.d (dBs K)),(5,.ptr 4 0),(9,.fn 21 [.ptr 3 0]),(77,.d (dIs c.next)),(78,.d (dI c.next.length)),(79,.d (dI i))])
      (fun i=>[.box [.d (dI c.inputs),.d (dIs c.next),.d (dPs c.gates),.d (dIs c.outs)],.box [.d (dI 0),.d .nil,.d .nil,.d .nil],.row 0 1 true (PL.map (D.int .i64)),.box [.sl 2 0 1 0 (cFst c+c.gates.length)],.box [.d (dI c.inputs),.sl 5 (rmN c K i).length 1 0 (rmN c K i).length,.d .nil,.d .nil],.row (rmN c K i).length 1 true ((rmN c K i).map (D.int .i64))])
      (fun i=>i≤c.next.length) (fun i=>c.next.length-i) [(4,1,1,true)] [] 1000 1000 ?_ ?_
     ·simp only[go_sem,seval]
      refine⟨0,by omega,?_⟩
      (repeat' with_reducible apply And.intro) <;> first|rfl|trivial|omega
     ·intro i hi
      have hnl:=qkz c K i
      by_cases hlt:i<c.next.length
      ·have hst:rmN c K (i+1)=if K.getD (1+c.inputs.toNat+i) false=true then rmN c K i ++ [rmH c K (c.next.getD i 0)] else rmN c K i:=rfl
       have hki:(1+c.inputs+(i:Int)).toNat=1+c.inputs.toNat+i:=by omega
       have hl:=hv.n _ (qat (l:=c.next) (z:=0) hlt)
       unfold qbc at hl
       have hu:=huse _ hl
       simp only[go_sem,seval,Try.results8,hki]
       repeat' first|assumption|(simp (disch:=first|assumption|omega|(simp;done)|(simp;omega)) only[qae,qah,List.take_of_length_le,qag];try simp only[go_sem,seval,Try.results8,hki])|(with_reducible first|apply And.intro|intro _)|(refine qai ?_;simp only[go_sem,seval,Try.results8,hki])|exact lexT|((try rw[qaa]);omega)
       ·refine qax (E:=Try.env 0) Try.tok Try.follows 1000 1000 [6,8] (fsts [0,2,3,1] (.one 4 (.one 5 (.one 6 (.fst 7 (.one 8 .done)))))) (by kernel_rfl) ?_
        simp only[go_sem,seval,Try.results8,hki]
        repeat' first|assumption|(simp (disch:=first|assumption|omega|(simp;done)|(simp;omega)) only[qae,qah,List.take_of_length_le,qag];try simp only[go_sem,seval,Try.results8,hki])|(with_reducible first|apply And.intro|intro _)|(refine qad hu ?_;simp only[go_sem,seval,Try.results8,hki])|(refine qai ?_;simp only[go_sem,seval,Try.results8,hki])|exact lexT|((try rw[qaa]);omega)
        refine⟨i+1,by omega,by omega,?_⟩
        rw[hst,if_pos (by assumption),List.length_append]
        (repeat' with_reducible apply And.intro) <;> first|rfl|trivial|omega
       ·refine⟨i+1,by omega,by omega,?_⟩
        rw[hst,if_neg (by simp_all)]
        (repeat' with_reducible apply And.intro) <;> first|rfl|trivial|omega
      ·obtain rfl:i=c.next.length:=by omega
       simp only[go_sem,seval,Try.results8]
       repeat' first|assumption|(simp (disch:=first|assumption|omega|(simp;done)|(simp;omega)) only[qae,qah,List.take_of_length_le,qag];try simp only[go_sem,seval,Try.results8])|(with_reducible first|apply And.intro|intro _)|(refine qai ?_;simp only[go_sem,seval,Try.results8])|exact lexT|((try rw[qaa]);omega)
       generalize hN9:rmN c K c.next.length=NX at *
       refine qcz (E:=Try.env 0) Try.tok (σ:=Nat) (fun j=>[(1,.ptr 0 0),(2,.ptr 1 0),(5,.ptr 4 0),(9,.fn 21 [.ptr 3 0]),(102,.d (dPs c.gates)),(103,.d (dI c.gates.length)),(104,.d (dI j))])
        (fun j=>[.box [.d (dI c.inputs),.d (dIs c.next),.d (dPs c.gates),.d (dIs c.outs)],.box [.d (dI 0),.d .nil,.d .nil,.d .nil],.row 0 1 true (PL.map (D.int .i64)),.box [.sl 2 0 1 0 (cFst c+c.gates.length)],.box [.d (dI c.inputs),.sl 5 NX.length 1 0 NX.length,.sl 6 j 2 0 j,.d .nil],.row NX.length 1 true (NX.map (D.int .i64)),.row j 2 true (((c.gates.take j).map (fun p=>(rmH c K p.1,rmH c K p.2))).map fun x=>dP x)])
        (fun j=>j≤c.gates.length) (fun j=>c.gates.length-j) [(4,2,2,true)] [] 1000 1000 ?_ ?_
       ·simp only[go_sem,seval]
        refine⟨0,by omega,?_⟩
        (repeat' with_reducible apply And.intro) <;> first|rfl|trivial|omega
       ·intro j hj
        by_cases hlt:j<c.gates.length
        ·have hg:=hv.g j hlt
         unfold qbc at hg
         have hu1:=huse (c.gates.getD j (0,0)).1 (by omega)
         have hu2:=huse (c.gates.getD j (0,0)).2 (by omega)
         have hli:(c.gates.take j).length=j:=by rw[List.length_take];omega
         have hts:=qbu (fun p:Int×Int=>(rmH c K p.1,rmH c K p.2)) (0,0) hlt
         simp only[go_sem,seval,Try.results8]
         repeat' first|assumption|(simp (disch:=first|assumption|omega|(simp;done)|(simp;omega)) only[qae,qah,List.take_of_length_le,qag];try simp only[go_sem,seval,Try.results8])|(with_reducible first|apply And.intro|intro _)|(refine qai ?_;simp only[go_sem,seval,Try.results8])|exact lexT|((try rw[qaa]);omega)
         refine qax (E:=Try.env 0) Try.tok Try.follows 1000 1000 [12,14] (fsts [0,2,3,6,7,1,4,8] (.one 5 (.one 9 (.fst 10 (.one 11 (.one 12 (.fst 13 (.one 14 .done)))))))) (by kernel_rfl) ?_
         simp only[go_sem,seval,Try.results8]
         repeat' first|assumption|(simp (disch:=first|assumption|omega|(simp;done)|(simp;omega)) only[qae,qah,List.take_of_length_le,qag];try simp only[go_sem,seval,Try.results8])|(with_reducible first|apply And.intro|intro _)|(refine qad hu1 ?_;simp only[go_sem,seval,Try.results8])|(refine qad hu2 ?_;simp only[go_sem,seval,Try.results8])|(refine qai ?_;simp only[go_sem,seval,Try.results8])|exact lexT|((try rw[qaa]);omega)
         refine⟨j+1,by omega,by omega,?_⟩
         rw[hts]
         (repeat' with_reducible apply And.intro) <;> first|rfl|trivial|omega
        ·obtain rfl:j=c.gates.length:=by omega
         simp only[go_sem,seval,Try.results8]
         repeat' first|assumption|(simp (disch:=first|assumption|omega|(simp;done)|(simp;omega)) only[qae,qah,List.take_of_length_le,qag];try simp only[go_sem,seval,Try.results8])|(with_reducible first|apply And.intro|intro _)|(refine qai ?_;simp only[go_sem,seval,Try.results8])|exact lexT|((try rw[qaa]);omega)
         generalize hG9:c.gates.map (fun p=>(rmH c K p.1,rmH c K p.2))=GL at *
         have hGl:GL.length=c.gates.length:=by rw[←hG9,List.length_map]
         rw[←hGl]
         refine qcz (E:=Try.env 0) Try.tok (σ:=Nat) (fun j=>[(1,.ptr 0 0),(2,.ptr 1 0),(5,.ptr 4 0),(9,.fn 21 [.ptr 3 0]),(124,.d (dIs c.outs)),(125,.d (dI c.outs.length)),(126,.d (dI j))])
          (fun j=>[.box [.d (dI c.inputs),.d (dIs c.next),.d (dPs c.gates),.d (dIs c.outs)],.box [.d (dI 0),.d .nil,.d .nil,.d .nil],.row 0 1 true (PL.map (D.int .i64)),.box [.sl 2 0 1 0 (cFst c+c.gates.length)],.box [.d (dI c.inputs),.sl 5 NX.length 1 0 NX.length,.sl 6 GL.length 2 0 GL.length,.sl 7 j 1 0 j],.row NX.length 1 true (NX.map (D.int .i64)),.row GL.length 2 true (GL.map fun x=>dP x),.row j 1 true (((c.outs.take j).map (rmH c K)).map (D.int .i64))])
          (fun j=>j≤c.outs.length) (fun j=>c.outs.length-j) [(4,3,1,true)] [] 1000 1000 ?_ ?_
         ·simp only[go_sem,seval]
          refine⟨0,by omega,?_⟩
          (repeat' with_reducible apply And.intro) <;> first|rfl|trivial|omega
         ·intro j hj
          by_cases hlt:j<c.outs.length
          ·have hl:=hv.o _ (qat (l:=c.outs) (z:=0) hlt)
           unfold qbc at hl
           have hu:=huse _ hl
           have hli:(c.outs.take j).length=j:=by rw[List.length_take];omega
           have hts:=qbu (rmH c K) 0 hlt
           simp only[go_sem,seval,Try.results8]
           repeat' first|assumption|(simp (disch:=first|assumption|omega|(simp;done)|(simp;omega)) only[qae,qah,List.take_of_length_le,qag];try simp only[go_sem,seval,Try.results8])|(with_reducible first|apply And.intro|intro _)|(refine qai ?_;simp only[go_sem,seval,Try.results8])|exact lexT|((try rw[qaa]);omega)
           refine qax (E:=Try.env 0) Try.tok Try.follows 1000 1000 [6,8] (fsts [0,2,3,1] (.one 4 (.one 5 (.one 6 (.fst 7 (.one 8 .done)))))) (by kernel_rfl) ?_
           simp only[go_sem,seval,Try.results8]
           repeat' first|assumption|(simp (disch:=first|assumption|omega|(simp;done)|(simp;omega)) only[qae,qah,List.take_of_length_le,qag];try simp only[go_sem,seval,Try.results8])|(with_reducible first|apply And.intro|intro _)|(refine qad hu ?_;simp only[go_sem,seval,Try.results8])|(refine qai ?_;simp only[go_sem,seval,Try.results8])|exact lexT|((try rw[qaa]);omega)
           refine⟨j+1,by omega,by omega,?_⟩
           rw[hts]
           (repeat' with_reducible apply And.intro) <;> first|rfl|trivial|omega
          ·obtain rfl:j=c.outs.length:=by omega
           simp only[go_sem,seval,Try.results8]
           repeat' first|assumption|(simp (disch:=first|assumption|omega|(simp;done)|(simp;omega)) only[qae,qah,List.take_of_length_le,qag];try simp only[go_sem,seval,Try.results8])|(with_reducible first|apply And.intro|intro _)|(refine qai ?_;simp only[go_sem,seval,Try.results8])|exact lexT|((try rw[qaa]);omega)
           have e:pC (rmC c K)=.ptr [dI c.inputs,dIs NX,dPs GL,dIs (c.outs.map (rmH c K))]:=by rw[←hN9,←hG9];rfl
           rw[e] at hop
           refine qdU hop ?_
           simp only[go_sem,seval,Try.results8]
           repeat' first|assumption|(simp (disch:=first|assumption|omega|(simp;done)|(simp;omega)) only[qae,qah,List.take_of_length_le,qag];try simp only[go_sem,seval,Try.results8])|(with_reducible first|apply And.intro|intro _)|(refine qai ?_;simp only[go_sem,seval,Try.results8])|exact lexT|((try rw[qaa]);omega)
end Go.Proofs
