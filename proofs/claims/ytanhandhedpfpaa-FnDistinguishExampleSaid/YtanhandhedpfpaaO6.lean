/- Contracts, plain definitions and lemmas. Conditions: none; lemmas. -/
import Derived.Test.YtanhandhedpfpaaO4
import Derived.Test.YtanhandhedpfpaaC23
set_option maxRecDepth 20000
set_option linter.unusedVariables false
set_option linter.unusedSimpArgs false
namespace Go.Proofs
open Go Go.VL
def plS (c:Circ):Nat→List Int×Int
 | 0=>(List.replicate (cFst c+c.gates.length) 0,c.first)
 | i+1=>if(i:Int)<c.first then((plS c i).1.set i (i:Int),(plS c i).2) else if(rcN c c.gates.length).getD i false=true then((plS c i).1.set i (plS c i).2,(plS c i).2+1) else plS c i
theorem qfs {c:Circ} : ∀ i,(plS c i).1.length=cFst c+c.gates.length
 | 0=>by simp[plS]
 | i+1=>by
  rw[plS]
  split
  ·rw[List.length_set];exact qfs i
  ·split
   ·rw[List.length_set];exact qfs i
   ·exact qfs i
theorem qkr {c:Circ}(hf:0≤c.first) : ∀ i,c.first≤(plS c i).2∧(plS c i).2≤c.first+(i:Int)
 | 0=>by simp[plS]
 | i+1=>by
  have:=qkr hf i
  rw[plS]
  split
  ·show c.first≤(plS c i).2∧(plS c i).2≤_;omega
  ·split
   ·show c.first≤(plS c i).2+1∧(plS c i).2+1≤_;omega
   ·omega
theorem qks {c:Circ}(hf:0≤c.first) : ∀ i,∀ x∈(plS c i).1,0≤x∧x≤c.first+(i:Int)
 | 0,x,hx=>by
  simp only[plS,List.mem_replicate] at hx
  omega
 | i+1,x,hx=>by
  have ih:=qks hf i
  have hb:=qkr hf i
  rw[plS] at hx
  split at hx
  ·rcases List.mem_or_eq_of_mem_set hx with h|h
   ·have:=ih x h;omega
   ·omega
  ·split at hx
   ·rcases List.mem_or_eq_of_mem_set hx with h|h
    ·have:=ih x h;omega
    ·omega
   ·have:=ih x hx;omega
def plC (c:Circ):List Int:=(plS c (cFst c+c.gates.length)).1
def plH (c:Circ) (l:Int):Int:=2*(plC c).getD (l/2).toNat 0+l%2
def prG (c:Circ):Nat→List (Int×Int)
 | 0=>[]
 | i+1=>if(rcN c c.gates.length).getD (cFst c+i) false=true then prG c i ++ [(plH c (c.gates.getD i (0,0)).1,plH c (c.gates.getD i (0,0)).2)] else prG c i
theorem qkt (c:Circ) : ∀ i,(prG c i).length≤i
 | 0=>by simp[prG]
 | i+1=>by
  have:=qkt c i
  rw[prG]
  split
  ·rw[List.length_append];show _+1≤_;omega
  ·omega
def prC (c:Circ):Circ:=⟨c.inputs,c.next.map (plH c),prG c c.gates.length,c.outs.map (plH c)⟩
set_option maxHeartbeats 4000000 in
theorem Try.c_pruned (c:Circ) (hv:c.Valid):Pure Try.prog 35 [pC c] (dC (prC c)):=by
 refine qau (E:=Try.env 0) Try.tok rfl 1000 Try.func35 rfl rfl Try.ntmps35 (by simp) fun ok=>?_
 simp only[go_sem,seval] at ok
 have hfb:=hv.first_bd
 have hvb:=hv.vars_bd
 have hln:=hv.ln;have hlg:=hv.lg;have hlo:=hv.lo;have hi0:=hv.i0;have hi1:=hv.i1
 have hcf:=qbA hv
 have hva:c.vars=c.first+c.gates.length:=rfl
 have hvn:c.vars.toNat=cFst c+c.gates.length:=by omega
 have hfg:=Try.c_firstGate c (by omega)
 have hre:=Try.c_reached c hv
 simp only[go_sem,seval,Try.results35]
 repeat' first|assumption|(simp (disch:=first|assumption|omega|(simp;done)|(simp;omega)) only[List.take_of_length_le];try simp only[go_sem,seval,Try.results35])|(with_reducible first|apply And.intro|intro _)|(refine qad (Try.c_vars c (by omega)) ?_;simp only[go_sem,seval,Try.results35])|(refine qad hre ?_;simp only[go_sem,seval,Try.results35])|(refine qad hfg ?_;simp only[go_sem,seval,Try.results35])|(refine qai ?_;simp only[go_sem,seval,Try.results35])|exact lexT|((try rw[qaa]);omega)
 rw[hvn]
 have hrl:=qgu (c:=c) c.gates.length
 refine qbb (E:=Try.env 0) Try.tok (σ:=Nat) (fun i=>[(0,.d (pC c)),(2,.ptr 0 0),(3,.d (dBs (rcN c c.gates.length))),(4,.ptr 2 0),(5,.d (dI (plS c i).2)),(19,.d (dI ((cFst c+c.gates.length:Nat):Int))),(20,.d (dI i))])
  (fun i=>[.box [.d (dI 0),.d .nil,.d .nil,.d .nil],.row 0 1 true ((plS c i).1.map (D.int .i64)),.box [.sl 1 0 1 0 (cFst c+c.gates.length)]])
  (fun i=>i≤cFst c+c.gates.length) (fun i=>cFst c+c.gates.length-i) [] 1000 1000 ?_ ?_ ?_
 ·simp only[go_sem,seval]
 ·simp only[go_sem,seval]
  exact⟨0,by omega,⟨rfl,rfl⟩,rfl⟩
 ·intro i hi
  have hpl:=qfs (c:=c) i
  have hpb:=qkr (c:=c) (by omega) i
  by_cases hlt:i<cFst c+c.gates.length
  ·have hst:plS c (i+1)=if(i:Int)<c.first then((plS c i).1.set i (i:Int),(plS c i).2) else if(rcN c c.gates.length).getD i false=true then((plS c i).1.set i (plS c i).2,(plS c i).2+1) else plS c i:=rfl
   simp only[go_sem,seval,Try.results35]
   repeat' first|assumption|(simp (disch:=first|assumption|omega|(simp;done)|(simp;omega)) only[List.take_of_length_le];try simp only[go_sem,seval,Try.results35])|(with_reducible first|apply And.intro|intro _)|(refine qad hfg ?_;simp only[go_sem,seval,Try.results35])|(refine qai ?_;simp only[go_sem,seval,Try.results35])|exact lexT|((try rw[qaa]);omega)
   ·rename_i h1
    refine⟨i+1,by omega,by omega,⟨?_,rfl⟩,?_⟩ <;> rw[hst,if_pos h1]
   ·rename_i h1 h2
    refine⟨i+1,by omega,by omega,⟨?_,rfl⟩,?_⟩ <;> rw[hst,if_neg h1,if_pos h2]
   ·rename_i h1 h2
    refine⟨i+1,by omega,by omega,⟨?_,rfl⟩,?_⟩ <;> rw[hst,if_neg h1,if_neg (by rw[h2];decide)]
  ·obtain rfl:i=cFst c+c.gates.length:=by omega
   simp only[go_sem,seval,Try.results35]
   repeat' first|assumption|(simp (disch:=first|assumption|omega|(simp;done)|(simp;omega)) only[List.take_of_length_le];try simp only[go_sem,seval,Try.results35])|(with_reducible first|apply And.intro|intro _)|(refine qai ?_;simp only[go_sem,seval,Try.results35])|exact lexT|((try rw[qaa]);omega)
   have hmem:=qks (c:=c) (by omega) (cFst c+c.gates.length)
   have hP:(plS c (cFst c+c.gates.length)).1=plC c:=rfl
   rw[hP] at *
   have hpc:(plC c).length=cFst c+c.gates.length:=qfs _
   have hlt9 : ∀ l,0≤l∧l<2*c.vars→Pure Try.prog 39 [dI l,.ptr [dIs (plC c)]] (dI (plH c l)):=fun l hl=>
    Try.c_pruned1 (plC c) l (by rw[hpc];omega) (fun x hx=>by have:=hmem x hx;omega)
   have hrep:=Try.c_replaced c 39 [.ptr [dIs (plC c)]] (plH c) rfl ⟨by omega,by omega,by omega⟩ (fun l hl=>hlt9 l (hv.n l hl)) (fun l hl=>hlt9 l (hv.o l hl))
    (fun p hp=>by
     obtain⟨j,hj,rfl⟩:=qh4 (0,0) hp
     have hg:=hv.g j hj
     unfold qbc at hg
     exact⟨hlt9 _ (by omega),hlt9 _ (by omega)⟩)
   try rw[List.take_of_length_le (by omega)]
   refine qdU hrep ?_
   simp only[go_sem,seval,Try.results35]
   repeat' first|assumption|(simp (disch:=first|assumption|omega|(simp;done)|(simp;omega)) only[List.take_of_length_le];try simp only[go_sem,seval,Try.results35])|(with_reducible first|apply And.intro|intro _)|(refine qai ?_;simp only[go_sem,seval,Try.results35])|exact lexT|((try rw[qaa]);omega)
   have hG:(cmap (plH c) c).gates=c.gates.map (fun p=>(plH c p.1,plH c p.2)):=rfl
   have hgl:(cmap (plH c) c).gates.length=c.gates.length:=by rw[hG,List.length_map]
   have hgg : ∀ j,j<c.gates.length→(cmap (plH c) c).gates.getD j (0,0)=(plH c (c.gates.getD j (0,0)).1,plH c (c.gates.getD j (0,0)).2):=fun j hj=>by
    rw[hG];simp[List.getD,hj]
   have hI:(cmap (plH c) c).inputs=c.inputs:=rfl
   have hN:(cmap (plH c) c).next=c.next.map (plH c):=rfl
   have hO:(cmap (plH c) c).outs=c.outs.map (plH c):=rfl
   rw[hI]
   generalize (cmap (plH c) c).gates=G at *
   generalize (cmap (plH c) c).next=N at *
   generalize (cmap (plH c) c).outs=O at *
   refine qdd (E:=Try.env 0) Try.tok (σ:=Nat) (fun i=>[(0,.d (pC c)),(2,.ptr 0 0),(3,.d (dBs (rcN c c.gates.length))),(7,.ptr 6 0),(50,.sl 4 0 2 0 G.length),(51,.d (dI G.length)),(52,.d (dI i))])
    (fun i=>[.box [.d (dI 0),.d .nil,.d .nil,.d .nil],.row 0 1 true ((plC c).map (D.int .i64)),.box [.sl 1 0 1 0 (cFst c+c.gates.length)],
     .row 0 1 true (N.map (D.int .i64)),.row 0 2 true (G.map dP),.row 0 1 true (O.map (D.int .i64)),
     .box [.d (dI c.inputs),.sl 3 0 1 0 N.length,.sl 7 (prG c i).length 2 0 (prG c i).length,.sl 5 0 1 0 O.length],.row (prG c i).length 2 true ((prG c i).map dP)])
    (fun i=>i≤G.length) (fun i=>G.length-i) [(6,2,2,true)] [] 1000 1000 ?_ ?_ ?_ ?_
   ·simp only[go_sem,seval]
   ·simp only[go_sem,seval]
   ·simp only[go_sem,seval]
    exact⟨0,by omega,rfl,by simp[cmap,prG]⟩
   ·intro i hi
    by_cases hlt:i<G.length
    ·have hpg:prG c (i+1)=if(rcN c c.gates.length).getD (cFst c+i) false=true then prG c i ++ [(plH c (c.gates.getD i (0,0)).1,plH c (c.gates.getD i (0,0)).2)] else prG c i:=rfl
     have hgi:=hgg i (by omega)
     have hfi:(c.first+(i:Int)).toNat=cFst c+i:=by omega
     simp only[go_sem,seval,Try.results35]
     have hpl2:=qkt c i
     repeat' first|assumption|(simp (disch:=first|assumption|omega|(simp;done)|(simp;omega)) only[List.take_of_length_le];try simp only[go_sem,seval,Try.results35,hfi])|(with_reducible first|apply And.intro|intro _)|(refine qad hfg ?_;simp only[go_sem,seval,Try.results35,hfi])|(refine qai ?_;simp only[go_sem,seval,Try.results35,hfi])|exact lexT|((try rw[qaa]);omega)
     ·rename_i h1
      rw[if_pos h1] at hpg
      have el:(prG c (i+1)).length=(prG c i).length+1:=by rw[hpg];simp
      exact⟨i+1,by omega,by omega,rfl,by rw[el],el.symm,by rw[hpg,←hgi]⟩
     ·rename_i h1
      rw[if_neg (by rw[h1];decide)] at hpg
      exact⟨i+1,by omega,by omega,rfl,by rw[hpg],by rw[hpg],by rw[hpg]⟩
    ·obtain rfl:i=G.length:=by omega
     simp only[go_sem,seval,Try.results35]
     repeat' first|assumption|(simp (disch:=first|assumption|omega|(simp;done)|(simp;omega)) only[List.take_of_length_le];try simp only[go_sem,seval,Try.results35])|(with_reducible first|apply And.intro|intro _)|(refine qai ?_;simp only[go_sem,seval,Try.results35])|exact lexT|((try rw[qaa]);omega)
     all_goals first
      | rfl
      | (rw[hgl];rfl)
      | (rw[show prG c G.length=prG c c.gates.length by rw[hgl]];rfl)
      | trace_state
end Go.Proofs

set_option maxRecDepth 20000
set_option linter.unusedVariables false
set_option linter.unusedSimpArgs false
namespace Go.Proofs
open Go Go.VL
def opSt (c:Circ):Nat→Bld×List Int
 | 0=>(Bld.new (1+c.inputs.toNat+c.next.length),(List.range (cFst c)).map fun(v:Nat)=>2*(v:Int))
 | i+1=>if(rcN c c.gates.length).getD (cFst c+i) false=true then
   (((opSt c i).1.and (lmap (opSt c i).2 (c.gates.getD i (0,0)).1) (lmap (opSt c i).2 (c.gates.getD i (0,0)).2)).1,(opSt c i).2 ++ [((opSt c i).1.and (lmap (opSt c i).2 (c.gates.getD i (0,0)).1) (lmap (opSt c i).2 (c.gates.getD i (0,0)).2)).2])
  else((opSt c i).1,(opSt c i).2 ++ [0])
theorem qha {m:List Int}{l:Int}(h:0≤l) (hx:0≤m.getD (l/2).toNat 0):(((m.getD (l/2).toNat 0).toNat ^^^ l.toNat &&& 1:Nat):Int)=lmap m l:=by
 have k:=qfS h
 rcases Int.emod_two_eq l with e|e
 ·rw[e] at k
  have k2:l.toNat &&& 1=0:=by omega
  rw[k2,Nat.xor_zero,lmap,if_neg (by omega)]
  omega
 ·rw[e] at k
  have k2:l.toNat &&& 1=1:=by omega
  rw[k2,lmap,if_pos e]
  exact xor1 hx
structure OpOk (c:Circ) (i:Nat) (s:Bld×List Int):Prop where
 ok:s.1.Ok
 fst:s.1.first=cFst c
 len:s.1.gates.length≤i
 ml:s.2.length=cFst c+i
 mb : ∀ x∈s.2,0≤x∧x<2*((s.1.first+s.1.gates.length:Nat):Int)
theorem qku {c:Circ}(hv:c.Valid) : ∀ i,i≤c.gates.length→OpOk c i (opSt c i)
 | 0,_=>by
  have hfb:=hv.first_bd
  have hi0:=hv.i0
  have hcf:=qbA hv
  have e:1+c.inputs.toNat+c.next.length=cFst c:=by unfold cFst;omega
  refine⟨Bld.new_ok (by omega),by simp only[opSt,Bld.new];exact e,by simp[opSt,Bld.new],by simp[opSt],fun x hx=>?_⟩
  simp only[opSt,List.mem_map,List.mem_range] at hx
  obtain⟨v,h1,rfl⟩:=hx
  simp only[opSt,Bld.new,List.length_nil]
  omega
 | i+1,hi=>by
  obtain⟨h1,h2,h3,h4,h5⟩:=qku hv i (by omega)
  have hfb:=hv.first_bd
  have hlg:=hv.lg
  have hcf:=qbA hv
  have hg:=hv.g i (by omega)
  unfold qbc at hg
  rw[opSt]
  generalize opSt c i=s at *
  split
  ·have hx:=qgr h5 (l:=(c.gates.getD i (0,0)).1) (by omega)
   have hy:=qgr h5 (l:=(c.gates.getD i (0,0)).2) (by omega)
   obtain⟨k1,k2,k3,k4⟩:=Bld.and_ok h1 (lmap s.2 (c.gates.getD i (0,0)).1) (lmap s.2 (c.gates.getD i (0,0)).2) (by omega)
   have k5:=Bld.and_res h1 hx hy
   refine⟨k1,by simp only;omega,by simp only;omega,by simp;omega,fun x hx=>?_⟩
   simp only at hx ⊢
   rcases List.mem_append.1 hx with h|h
   ·have:=h5 x h;omega
   ·simp only[List.mem_singleton] at h;subst h;exact k5
  ·refine⟨h1,h2,by simp only;omega,by simp;omega,fun x hx=>?_⟩
   simp only at hx ⊢
   rcases List.mem_append.1 hx with h|h
   ·exact h5 x h
   ·simp only[List.mem_singleton] at h;subst h;have:=h1.fst;omega
def opD (c:Circ):Circ:=⟨c.inputs,c.next.map (lmap (opSt c c.gates.length).2),(opSt c c.gates.length).1.gates,c.outs.map (lmap (opSt c c.gates.length).2)⟩
set_option maxHeartbeats 4000000 in
theorem Try.c_optimize (c:Circ) (hv:c.Valid) (hd:(opD c).Valid):Pure Try.prog 22 [pC c] (dC (prC (opD c))):=by
 refine qau (E:=Try.env 0) Try.tok rfl 1000 Try.func22 rfl rfl Try.ntmps22 (by simp) fun ok=>?_
 simp only[go_sem,seval] at ok
 have hfb:=hv.first_bd
 have hvb:=hv.vars_bd
 have hln:=hv.ln;have hlg:=hv.lg;have hlo:=hv.lo;have hi0:=hv.i0;have hi1:=hv.i1
 have hcf:=qbA hv
 have hva:c.vars=c.first+c.gates.length:=rfl
 have hfg:=Try.c_firstGate c (by omega)
 have hre:=Try.c_reached c hv
 have hol:=Try.c_ownLits c hv
 have c0:=Try.c_newBuilder c.inputs.toNat c.next.length (by omega)
 rw[show((c.inputs.toNat:Nat):Int)=c.inputs by omega] at c0
 simp only[go_sem,seval,Try.results22]
 repeat' first|assumption|(simp (disch:=first|assumption|omega|(simp;done)|(simp;omega)) only[];try simp only[go_sem,seval,Try.results22])|(with_reducible first|apply And.intro|intro _)|(refine qad hre ?_;simp only[go_sem,seval,Try.results22])|(refine qai ?_;simp only[go_sem,seval,Try.results22])|exact lexT|((try rw[qaa]);omega)
 refine qax (E:=Try.env 0) Try.tok Try.follows 1000 1000 [9] (fsts [0,1,2,4,5,6,3,7,8] (.one 9 (.fst 10 .done))) (by kernel_rfl) ?_
 simp only[go_sem,seval,Try.results22]
 repeat' first|assumption|(simp (disch:=first|assumption|omega|(simp;done)|(simp;omega)) only[];try simp only[go_sem,seval,Try.results22])|(with_reducible first|apply And.intro|intro _)|(refine qai ?_;simp only[go_sem,seval,Try.results22])|exact lexT|((try rw[qaa]);omega)
 refine qbr c0 [] (by simp only[go_sem,seval]) ?_
 simp only[go_sem,seval,Try.results22,bN]
 repeat' first|assumption|(simp (disch:=first|assumption|omega|(simp;done)|(simp;omega)) only[];try simp only[go_sem,seval,Try.results22])|(with_reducible first|apply And.intro|intro _)|(refine qdU hol ?_;simp only[go_sem,seval,Try.results22])|(refine qai ?_;simp only[go_sem,seval,Try.results22])|exact lexT|((try rw[qaa]);omega)
 refine qbb (E:=Try.env 0) Try.tok (σ:=Nat) (fun i=>[(0,.d (pC c)),(2,.ptr 0 0),(3,.d (dBs (rcN c c.gates.length))),(4,.ptr 3 0),(5,.sl 5 i 1 0 (cFst c+i)),(27,.d (dPs c.gates)),(28,.d (dI c.gates.length)),(29,.d (dI i))])
  (fun i=>.box [.d (dI 0),.d .nil,.d .nil,.d .nil]::(bN1 (opSt c i).1 ++ [.row i 1 true ((opSt c i).2.map (D.int .i64))])) (fun i=>i≤c.gates.length) (fun i=>c.gates.length-i) [] 1000 1000 ?_ ?_ ?_
 ·simp only[go_sem,seval]
 ·simp only[go_sem,seval,Try.results22,bN1]
  refine⟨0,by omega,?_⟩
  simp only[go_sem,seval,Try.results22,bN1,opSt,Nat.add_zero]
  simp
 ·intro i hi
  have hrl:=qgu (c:=c) c.gates.length
  have hfi:(c.first+(i:Int)).toNat=cFst c+i:=by omega
  have hos:=qku hv i hi
  have hml:=hos.ml
  simp only[go_sem,seval,Try.results22,bN1]
  by_cases hlt:i<c.gates.length
  ·have hg:=hv.g i hlt
   unfold qbc at hg
   have hx:=qgr hos.mb (l:=(c.gates.getD i (0,0)).1) (by omega)
   have hy:=qgr hos.mb (l:=(c.gates.getD i (0,0)).2) (by omega)
   have hand:=Try.c_and (opSt c i).1 hos.ok _ _ hx hy
   have hst:opSt c (i+1)=if(rcN c c.gates.length).getD (cFst c+i) false=true then
    (((opSt c i).1.and (lmap (opSt c i).2 (c.gates.getD i (0,0)).1) (lmap (opSt c i).2 (c.gates.getD i (0,0)).2)).1,(opSt c i).2 ++ [((opSt c i).1.and (lmap (opSt c i).2 (c.gates.getD i (0,0)).1) (lmap (opSt c i).2 (c.gates.getD i (0,0)).2)).2])
    else((opSt c i).1,(opSt c i).2 ++ [0]):=rfl
   have hm1:0≤(opSt c i).2.getD ((c.gates.getD i (0,0)).1/2).toNat 0:=(hos.mb _ (qat (by omega))).1
   have hm2:0≤(opSt c i).2.getD ((c.gates.getD i (0,0)).2/2).toNat 0:=(hos.mb _ (qat (by omega))).1
   have hl1:=qha hg.1.1 hm1
   have hl2:=qha hg.2.1 hm2
   repeat' first|assumption|(simp (disch:=first|assumption|omega|(simp;done)|(simp;omega)) only[];try simp only[go_sem,seval,Try.results22,bN1,hfi])|(with_reducible first|apply And.intro|intro _)|(refine qad hfg ?_;simp only[go_sem,seval,Try.results22,bN1,hfi])|(refine qai ?_;simp only[go_sem,seval,Try.results22,bN1,hfi])|exact lexT|((try rw[qaa]);omega)
   ·rename_i hk
    rw[if_pos hk] at hst
    refine qax (E:=Try.env 0) Try.tok Try.follows 1000 1000 [21] (fsts [0,1,2,7,11,12,17,3,4,5,6,8,9,10,13,14,15,16,18,19,20] (.one 21 (.fst 22 .done))) (by kernel_rfl) ?_
    simp only[go_sem,seval,Try.results22,bN1]
    repeat' first|assumption|(simp (disch:=first|assumption|omega|(simp;done)|(simp;omega)) only[];try simp only[go_sem,seval,Try.results22,bN1,hfi])|(with_reducible first|apply And.intro|intro _)|(refine qai ?_;simp only[go_sem,seval,Try.results22,bN1,hfi])|exact lexT|((try rw[qaa]);omega)
    all_goals (
     rw[hl1,hl2]
     refine qbr hand [3,4,1,2] (by simp only[bH];simp only[go_sem,seval]) ?_
     simp only[go_sem,seval,Try.results22,bH]
     repeat' first|assumption|(simp (disch:=first|assumption|omega|(simp;done)|(simp;omega)) only[];try simp only[go_sem,seval,Try.results22,bH])|(with_reducible first|apply And.intro|intro _)|(refine qai ?_;simp only[go_sem,seval,Try.results22,bH])|exact lexT|((try rw[qaa]);omega))
    all_goals exact⟨i+1,by omega,by omega,⟨⟨rfl,by omega⟩,rfl⟩,by rw[hst];simp⟩
   ·rename_i hk
    rw[if_neg (by rw[hk];decide)] at hst
    exact⟨i+1,by omega,by omega,⟨⟨rfl,by omega⟩,rfl⟩,by rw[hst];simp⟩
  ·obtain rfl:i=c.gates.length:=by omega
   have hcir:=Try.c_circuitR c.gates.length (opSt c c.gates.length).1 hos.ok c (opSt c c.gates.length).2 ⟨by omega,by omega⟩ (fun x hx=>(hos.mb x hx).1)
    (fun l hl=>by have:=hv.n l hl;unfold qbc at this;rw[hml];omega) (fun l hl=>by have:=hv.o l hl;unfold qbc at this;rw[hml];omega)
   rw[hml] at hcir
   repeat' first|assumption|(simp (disch:=first|assumption|omega|(simp;done)|(simp;omega)) only[];try simp only[go_sem,seval,Try.results22,bN1,hfi])|(with_reducible first|apply And.intro|intro _)|(refine qad hfg ?_;simp only[go_sem,seval,Try.results22,bN1,hfi])|(refine qai ?_;simp only[go_sem,seval,Try.results22,bN1,hfi])|exact lexT|((try rw[qaa]);omega)
   refine qbr hcir [3,4,1,2,5] (by simp only[bH];simp only[go_sem,seval]) ?_
   simp only[go_sem,seval,Try.results22,bH]
   have hpr:=Try.c_pruned (opD c) hd
   repeat' first|assumption|(simp (disch:=first|assumption|omega|(simp;done)|(simp;omega)) only[];try simp only[go_sem,seval,Try.results22,bH])|(with_reducible first|apply And.intro|intro _)|(refine qdU hpr ?_;simp only[go_sem,seval,Try.results22,bH])|(refine qai ?_;simp only[go_sem,seval,Try.results22,bH])|exact lexT|((try rw[qaa]);omega)
   trace_state
end Go.Proofs
