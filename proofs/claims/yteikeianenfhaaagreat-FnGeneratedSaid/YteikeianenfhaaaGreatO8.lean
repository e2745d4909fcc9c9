/- Contracts, plain definitions and lemmas. Conditions: none; lemmas. -/
import Derived.Test.YteikeianenfhaaaGreatO3
import Derived.Test.YteikeianenfhaaaGreatC13
set_option maxRecDepth 20000
set_option linter.unusedSimpArgs false
set_option linter.unusedVariables false
set_option maxHeartbeats 2000000
namespace Go.Proofs
open Go Go.VL Tryz
theorem Tryz.c_circuit1 (m:List Int) (l:Int) (h:0<=l/\l<2*m.length) (hm : ∀ x∈m,0<=x):Pure prog 204 [dI l,.ptr [dIs m]] (dI (lmap m l)):=by
 have hx:0<=m.getD (l/2).toNat 0:=hm _ (qac (by omega));refine qav func204 rfl ntmps204 fun ok=>?_
 simp only[go_sem,seval] at ok⊢
 repeat' first|assumption|(simp (disch:=first|assumption|omega|(simp;done)|(simp;omega)) only[];try simp only[go_sem,seval])|(with_reducible first|apply And.intro|intro _)|((try rw[qaa]);omega)
 have k:=qip h.1;rcases Int.emod_two_eq l with e|e
 ·rw[e] at k;have k2:l.toNat &&& 1=0:=by omega
  rw[k2,Nat.xor_zero,lmap,if_neg (by omega)];omega
 ·rw[e] at k;have k2:l.toNat &&& 1=1:=by omega
  rw[k2,lmap,if_pos e];exact xor1 hx
theorem Tryz.c_pruned1 (m:List Int) (l:Int) (h:0<=l/\l<2*m.length) (hm : ∀ x∈m,0<=x/\x<=1000000):Pure prog 205 [dI l,.ptr [dIs m]] (dI (2*m.getD (l/2).toNat 0+l%2)):=by
 have hx:=hm _ (qac (l:=m) (i:=(l/2).toNat) (z:=0) (by omega));refine qav func205 rfl ntmps205 fun ok=>?_
 simp only[go_sem,seval] at ok⊢
 repeat' first|assumption|(simp (disch:=first|assumption|omega|(simp;done)|(simp;omega)) only[];try simp only[go_sem,seval])|(with_reducible first|apply And.intro|intro _)|((try rw[qaa]);omega)
 ·rw[qip h.1,qaa];omega
 ·rw[qip h.1]
theorem Tryz.c_circuitR (g:Nat) (b:Bld) (hb:b.Ok) (c:Circ) (m:List Int) (hl:c.next.length<=1000/\c.outs.length<=1000) (hm : ∀ x∈m,0<=x) (hn : ∀ l∈c.next,0<=l/\l<2*m.length) (ho : ∀ l∈c.outs,0<=l/\l<2*m.length) :
  Proc prog 163 [.ptr 0 0,.d (pC c),.sl 4 g 1 0 m.length] (bH b ++ [.row g 1 true (m.map (D.int .i64))]) (.agg [.d (dI c.inputs),.d (dIs (c.next.map (lmap m))),.sl 1 b.gates.length 2 0 b.gates.length,.d (dIs (c.outs.map (lmap m)))]) (bH b ++ [.row g 1 true (m.map (D.int .i64))]):=by
 refine qmL (E:=env 5) tok rfl 1000 func163 rfl rfl ntmps163 (by simp) ?_;have hr:=c_replaced ⟨c.inputs,c.next,[],c.outs⟩ 204 [.ptr [dIs m]] (lmap m) rfl ⟨by simp;omega,by simp,by simp;omega⟩
  (fun l hl=>c_circuit1 m l (hn l hl) hm) (fun l hl=>c_circuit1 m l (ho l hl) hm) (fun p hp=>by cases hp)
 have hr2:=hr.args (ds':=[.ptr [dI c.inputs,dIs c.next,.nil,dIs c.outs],.fn 204 [.ptr [dIs m]]])
  ⟨.ptr rfl (qgU (l:=[dI c.inputs,dIs c.next,.nil,dIs c.outs]) (l':=[dI c.inputs,dIs c.next,dPs [],dIs c.outs]) ⟨.refl _,.refl _,.nil (by omega),.refl _,trivial⟩).2,.refl _,trivial⟩
 simp only[bH];simp only[go_sem,seval]
 repeat' first|assumption|(simp (disch:=first|assumption|omega|(simp;done)|(simp;omega)) only[];try simp only[go_sem,seval])|(with_reducible first|apply And.intro|intro _)|((try rw[qaa]);omega)
 refine qaP (n:=5) [17] (fsts [0,1,2,4,5,6,8,9,10,14,3,7,11,12] (.two 13 (.two 15 (.one 16 (.one 17 .done)) 16 (.one 15 (.one 17 .done))) 16 (.one 13 (.one 15 (.one 17 .done))))) ?_;simp only[go_sem,seval]
 repeat' first|assumption|(simp (disch:=first|assumption|omega|(simp;done)|(simp;omega)) only[];try simp only[go_sem,seval])|(with_reducible first|apply And.intro|intro _)|(refine qab hr2 ?_;simp only[go_sem,seval])|((try rw[qaa]);omega)
 all_goals rfl

def plS (c:Circ):Nat->List Int×Int
 | 0=>(List.replicate (cFst c+c.gates.length) 0,c.first)
 | i+1=>if(i:Int)<c.first then((plS c i).1.set i (i:Int),(plS c i).2) else if(rcN c c.gates.length).getD i false=true then((plS c i).1.set i (plS c i).2,(plS c i).2+1) else plS c i
theorem qfX {c:Circ} : ∀ i,(plS c i).1.length=cFst c+c.gates.length
 | 0=>by simp[plS]
 | i+1=>by
  rw[plS];split
  ·rw[yax];exact qfX i
  ·split
   ·rw[yax];exact qfX i
   ·exact qfX i
theorem qqv {c:Circ}(hf:0<=c.first) : ∀ i,c.first<=(plS c i).2/\(plS c i).2<=c.first+(i:Int)
 | 0=>by simp[plS]
 | i+1=>by
  have:=qqv hf i;rw[plS];split
  ·show c.first<=(plS c i).2/\(plS c i).2<=_;omega
  ·split
   ·show c.first<=(plS c i).2+1/\(plS c i).2+1<=_;omega
   ·omega
theorem qqw {c:Circ}(hf:0<=c.first) : ∀ i,∀ x∈(plS c i).1,0<=x/\x<=c.first+(i:Int)
 | 0,x,hx=>by
  simp only[plS,List.mem_replicate] at hx;omega
 | i+1,x,hx=>by
  have ih:=qqw hf i;have hb:=qqv hf i;rw[plS] at hx;split at hx
  ·rcases yaU hx with h|h
   ·have:=ih x h;omega
   ·omega
  ·split at hx
   ·rcases yaU hx with h|h
    ·have:=ih x h;omega
    ·omega
   ·have:=ih x hx;omega
def plC (c:Circ):List Int:=(plS c (cFst c+c.gates.length)).1
def plH (c:Circ) (l:Int):Int:=2*(plC c).getD (l/2).toNat 0+l%2
def prG (c:Circ):Nat->List (Int×Int)
 | 0=>[]
 | i+1=>if(rcN c c.gates.length).getD (cFst c+i) false=true then prG c i ++ [(plH c (c.gates.getD i (0,0)).1,plH c (c.gates.getD i (0,0)).2)] else prG c i
theorem qqx (c:Circ) : ∀ i,(prG c i).length<=i
 | 0=>by simp[prG]
 | i+1=>by
  have:=qqx c i;rw[prG];split
  ·rw[yae];show _+1<=_;omega
  ·omega
def prC (c:Circ):Circ:=⟨c.inputs,c.next.map (plH c),prG c c.gates.length,c.outs.map (plH c)⟩
set_option maxHeartbeats 4000000 in
theorem Tryz.c_pruned (c:Circ) (hv:c.Valid):Pure prog 164 [pC c] (dC (prC c)):=by
 refine qav func164 rfl ntmps164 fun ok=>?_
 simp only[go_sem,seval] at ok;have hfb:=hv.first_bd;have hvb:=hv.vars_bd;have hln:=hv.ln;have hlg:=hv.lg;have hlo:=hv.lo;have hi0:=hv.i0;have hi1:=hv.i1;have hcf:=qaI hv;have hva:c.vars=c.first+c.gates.length:=rfl
 have hvn:c.vars.toNat=cFst c+c.gates.length:=by omega
 have hfg:=c_firstGate c (by omega);have hre:=c_reached c hv;simp only[go_sem,seval]
 repeat' first|assumption|(simp (disch:=first|assumption|omega|(simp;done)|(simp;omega)) only[yaa];try simp only[go_sem,seval])|(with_reducible first|apply And.intro|intro _)|(refine qab (c_vars c (by omega)) ?_;simp only[go_sem,seval])|(refine qab hre ?_;simp only[go_sem,seval])|(refine qab hfg ?_;simp only[go_sem,seval])|((try rw[qaa]);omega)
 rw[hvn];have hrl:=qiG (c:=c) c.gates.length;refine qay (E:=env 0) tok (σ:=Nat) (fun i=>[(0,.d (pC c)),(2,.ptr 0 0),(3,.d (dBs (rcN c c.gates.length))),(4,.ptr 2 0),(5,.d (dI (plS c i).2)),(19,.d (dI ((cFst c+c.gates.length:Nat):Int))),(20,.d (dI i))])
  (fun i=>[.box [.d (dI 0),.d .nil,.d .nil,.d .nil],.row 0 1 true ((plS c i).1.map (D.int .i64)),.box [.sl 1 0 1 0 (cFst c+c.gates.length)]])
  (fun i=>i<=cFst c+c.gates.length) (fun i=>cFst c+c.gates.length-i) [] 1000 1000 ?_ ?_ ?_
 ·simp only[go_sem,seval]
 ·simp only[go_sem,seval];exact⟨0,by omega,⟨rfl,rfl⟩,rfl⟩
 ·intro i hi;have hpl:=qfX (c:=c) i;have hpb:=qqv (c:=c) (by omega) i;by_cases hlt:i<cFst c+c.gates.length
  ·have hst:plS c (i+1)=if(i:Int)<c.first then((plS c i).1.set i (i:Int),(plS c i).2) else if(rcN c c.gates.length).getD i false=true then((plS c i).1.set i (plS c i).2,(plS c i).2+1) else plS c i:=rfl
   simp only[go_sem,seval]
   repeat' first|assumption|(simp (disch:=first|assumption|omega|(simp;done)|(simp;omega)) only[yaa];try simp only[go_sem,seval])|(with_reducible first|apply And.intro|intro _)|(refine qab hfg ?_;simp only[go_sem,seval])|((try rw[qaa]);omega)
   ·rename_i h1;refine⟨i+1,by omega,by omega,⟨?_,rfl⟩,?_⟩ <;> rw[hst,if_pos h1]
   ·rename_i h1 h2;refine⟨i+1,by omega,by omega,⟨?_,rfl⟩,?_⟩ <;> rw[hst,if_neg h1,if_pos h2]
   ·rename_i h1 h2;refine⟨i+1,by omega,by omega,⟨?_,rfl⟩,?_⟩ <;> rw[hst,if_neg h1,if_neg (by rw[h2];decide)]
  ·obtain rfl:i=cFst c+c.gates.length:=by omega
   simp only[go_sem,seval]
   repeat' first|assumption|(simp (disch:=first|assumption|omega|(simp;done)|(simp;omega)) only[yaa];try simp only[go_sem,seval])|(with_reducible first|apply And.intro|intro _)|((try rw[qaa]);omega)
   have hmem:=qqw (c:=c) (by omega) (cFst c+c.gates.length);have hP:(plS c (cFst c+c.gates.length)).1=plC c:=rfl;rw[hP] at *
   have hpc:(plC c).length=cFst c+c.gates.length:=qfX _;have hlt9 : ∀ l,0<=l/\l<2*c.vars->Pure prog 205 [dI l,.ptr [dIs (plC c)]] (dI (plH c l)):=fun l hl=>
    c_pruned1 (plC c) l (by rw[hpc];omega) (fun x hx=>by have:=hmem x hx;omega)
   have hrep:=c_replaced c 205 [.ptr [dIs (plC c)]] (plH c) rfl ⟨by omega,by omega,by omega⟩ (fun l hl=>hlt9 l (hv.n l hl)) (fun l hl=>hlt9 l (hv.o l hl))
    (fun p hp=>by
     obtain⟨j,hj,rfl⟩:=qaE (0,0) hp;have hg:=hv.g j hj;unfold qaK at hg;exact⟨hlt9 _ (by omega),hlt9 _ (by omega)⟩)
   try rw[yaa (by omega)]
   refine qbr hrep ?_;simp only[go_sem,seval]
   repeat' first|assumption|(simp (disch:=first|assumption|omega|(simp;done)|(simp;omega)) only[yaa];try simp only[go_sem,seval])|(with_reducible first|apply And.intro|intro _)|((try rw[qaa]);omega)
   have hG:(cmap (plH c) c).gates=c.gates.map (fun p=>(plH c p.1,plH c p.2)):=rfl;have hgl:(cmap (plH c) c).gates.length=c.gates.length:=by rw[hG,yay]
   have hgg : ∀ j,j<c.gates.length->(cmap (plH c) c).gates.getD j (0,0)=(plH c (c.gates.getD j (0,0)).1,plH c (c.gates.getD j (0,0)).2):=fun j hj=>by
    rw[hG];simp[List.getD,hj]
   have hI:(cmap (plH c) c).inputs=c.inputs:=rfl;have hN:(cmap (plH c) c).next=c.next.map (plH c):=rfl;have hO:(cmap (plH c) c).outs=c.outs.map (plH c):=rfl;rw[hI];generalize (cmap (plH c) c).gates=G at *
   generalize (cmap (plH c) c).next=N at *
   generalize (cmap (plH c) c).outs=O at *
   refine qdD (E:=env 0) tok (σ:=Nat) (fun i=>[(0,.d (pC c)),(2,.ptr 0 0),(3,.d (dBs (rcN c c.gates.length))),(7,.ptr 6 0),(50,.sl 4 0 2 0 G.length),(51,.d (dI G.length)),(52,.d (dI i))])
    (fun i=>[.box [.d (dI 0),.d .nil,.d .nil,.d .nil],.row 0 1 true ((plC c).map (D.int .i64)),.box [.sl 1 0 1 0 (cFst c+c.gates.length)],
     .row 0 1 true (N.map (D.int .i64)),.row 0 2 true (G.map dP),.row 0 1 true (O.map (D.int .i64)),
     .box [.d (dI c.inputs),.sl 3 0 1 0 N.length,.sl 7 (prG c i).length 2 0 (prG c i).length,.sl 5 0 1 0 O.length],.row (prG c i).length 2 true ((prG c i).map dP)])
    (fun i=>i<=G.length) (fun i=>G.length-i) [(6,2,2,true)] [] 1000 1000 ?_ ?_ ?_ ?_
   ·simp only[go_sem,seval]
   ·simp only[go_sem,seval]
   ·simp only[go_sem,seval];exact⟨0,by omega,rfl,by simp[cmap,prG]⟩
   ·intro i hi;by_cases hlt:i<G.length
    ·have hpg:prG c (i+1)=if(rcN c c.gates.length).getD (cFst c+i) false=true then prG c i ++ [(plH c (c.gates.getD i (0,0)).1,plH c (c.gates.getD i (0,0)).2)] else prG c i:=rfl;have hgi:=hgg i (by omega);have hfi:(c.first+(i:Int)).toNat=cFst c+i:=by omega
     simp only[go_sem,seval];have hpl2:=qqx c i
     repeat' first|assumption|(simp (disch:=first|assumption|omega|(simp;done)|(simp;omega)) only[yaa];try simp only[go_sem,seval,hfi])|(with_reducible first|apply And.intro|intro _)|(refine qab hfg ?_;simp only[go_sem,seval,hfi])|((try rw[qaa]);omega)
     ·rename_i h1;rw[if_pos h1] at hpg;have el:(prG c (i+1)).length=(prG c i).length+1:=by rw[hpg];simp
      exact⟨i+1,by omega,by omega,rfl,by rw[el],el.symm,by rw[hpg,<-hgi]⟩
     ·rename_i h1;rw[if_neg (by rw[h1];decide)] at hpg;exact⟨i+1,by omega,by omega,rfl,by rw[hpg],by rw[hpg],by rw[hpg]⟩
    ·obtain rfl:i=G.length:=by omega
     simp only[go_sem,seval]
     repeat' first|assumption|(simp (disch:=first|assumption|omega|(simp;done)|(simp;omega)) only[yaa];try simp only[go_sem,seval])|(with_reducible first|apply And.intro|intro _)|((try rw[qaa]);omega)
     all_goals first
      | rfl
      | (rw[hgl];rfl)
      | (rw[show prG c G.length=prG c c.gates.length by rw[hgl]];rfl)
      | trace_state

def opSt (c:Circ):Nat->Bld×List Int
 | 0=>(Bld.new (1+c.inputs.toNat+c.next.length),(List.range (cFst c)).map fun(v:Nat)=>2*(v:Int))
 | i+1=>if(rcN c c.gates.length).getD (cFst c+i) false=true then
   (((opSt c i).1.and (lmap (opSt c i).2 (c.gates.getD i (0,0)).1) (lmap (opSt c i).2 (c.gates.getD i (0,0)).2)).1,(opSt c i).2 ++ [((opSt c i).1.and (lmap (opSt c i).2 (c.gates.getD i (0,0)).1) (lmap (opSt c i).2 (c.gates.getD i (0,0)).2)).2])
  else((opSt c i).1,(opSt c i).2 ++ [0])
theorem qlF {m:List Int}{l:Int}(h:0<=l) (hx:0<=m.getD (l/2).toNat 0):(((m.getD (l/2).toNat 0).toNat ^^^ l.toNat &&& 1:Nat):Int)=lmap m l:=by
 have k:=qip h;rcases Int.emod_two_eq l with e|e
 ·rw[e] at k;have k2:l.toNat &&& 1=0:=by omega
  rw[k2,Nat.xor_zero,lmap,if_neg (by omega)];omega
 ·rw[e] at k;have k2:l.toNat &&& 1=1:=by omega
  rw[k2,lmap,if_pos e];exact xor1 hx
structure OpOk (c:Circ) (i:Nat) (s:Bld×List Int):Prop where
 ok:s.1.Ok
 fst:s.1.first=cFst c
 len:s.1.gates.length<=i
 ml:s.2.length=cFst c+i
 mb : ∀ x∈s.2,0<=x/\x<2*((s.1.first+s.1.gates.length:Nat):Int)
theorem qmY {c:Circ}(hv:c.Valid) : ∀ i,i<=c.gates.length->OpOk c i (opSt c i)
 | 0,_=>by
  have hfb:=hv.first_bd;have hi0:=hv.i0;have hcf:=qaI hv;have e:1+c.inputs.toNat+c.next.length=cFst c:=by unfold cFst;omega
  refine⟨Bld.new_ok (by omega),by simp only[opSt,Bld.new];exact e,by simp[opSt,Bld.new],by simp[opSt],fun x hx=>?_⟩;simp only[opSt,List.mem_map,List.mem_range] at hx;obtain⟨v,h1,rfl⟩:=hx;simp only[opSt,Bld.new,yaX];omega
 | i+1,hi=>by
  obtain⟨h1,h2,h3,h4,h5⟩:=qmY hv i (by omega);have hfb:=hv.first_bd;have hlg:=hv.lg;have hcf:=qaI hv;have hg:=hv.g i (by omega);unfold qaK at hg;rw[opSt];generalize opSt c i=s at *
  split
  ·have hx:=qeq h5 (l:=(c.gates.getD i (0,0)).1) (by omega);have hy:=qeq h5 (l:=(c.gates.getD i (0,0)).2) (by omega);obtain⟨k1,k2,k3,k4⟩:=Bld.and_ok h1 (lmap s.2 (c.gates.getD i (0,0)).1) (lmap s.2 (c.gates.getD i (0,0)).2) (by omega);have k5:=Bld.and_res h1 hx hy;refine⟨k1,by simp only;omega,by simp only;omega,by simp;omega,fun x hx=>?_⟩;simp only at hx ⊢;rcases List.mem_append.1 hx with h|h
   ·have:=h5 x h;omega
   ·simp only[yaz] at h;subst h;exact k5
  ·refine⟨h1,h2,by simp only;omega,by simp;omega,fun x hx=>?_⟩;simp only at hx ⊢;rcases List.mem_append.1 hx with h|h
   ·exact h5 x h
   ·simp only[yaz] at h;subst h;have:=h1.fst;omega
def opD (c:Circ):Circ:=⟨c.inputs,c.next.map (lmap (opSt c c.gates.length).2),(opSt c c.gates.length).1.gates,c.outs.map (lmap (opSt c c.gates.length).2)⟩
set_option maxHeartbeats 4000000 in
theorem Tryz.c_optimize (c:Circ) (hv:c.Valid) (hd:(opD c).Valid):Pure prog 95 [pC c] (dC (prC (opD c))):=by
 refine qav func95 rfl ntmps95 fun ok=>?_
 simp only[go_sem,seval] at ok;have hfb:=hv.first_bd;have hvb:=hv.vars_bd;have hln:=hv.ln;have hlg:=hv.lg;have hlo:=hv.lo;have hi0:=hv.i0;have hi1:=hv.i1;have hcf:=qaI hv;have hva:c.vars=c.first+c.gates.length:=rfl
 have hfg:=c_firstGate c (by omega);have hre:=c_reached c hv;have hol:=c_ownLits c hv;have c0:=c_newBuilder c.inputs.toNat c.next.length (by omega);rw[show((c.inputs.toNat:Nat):Int)=c.inputs by omega] at c0;simp only[go_sem,seval]
 repeat' first|assumption|(simp (disch:=first|assumption|omega|(simp;done)|(simp;omega)) only[];try simp only[go_sem,seval])|(with_reducible first|apply And.intro|intro _)|(refine qab hre ?_;simp only[go_sem,seval])|((try rw[qaa]);omega)
 refine qaP (n:=0) [9] (fsts [0,1,2,4,5,6,3,7,8] (.one 9 (.fst 10 .done))) ?_;simp only[go_sem,seval]
 repeat' first|assumption|(simp (disch:=first|assumption|omega|(simp;done)|(simp;omega)) only[];try simp only[go_sem,seval])|(with_reducible first|apply And.intro|intro _)|((try rw[qaa]);omega)
 refine qa4 c0 [] (by simp only[go_sem,seval]) ?_;simp only[go_sem,seval,bN]
 repeat' first|assumption|(simp (disch:=first|assumption|omega|(simp;done)|(simp;omega)) only[];try simp only[go_sem,seval])|(with_reducible first|apply And.intro|intro _)|(refine qbr hol ?_;simp only[go_sem,seval])|((try rw[qaa]);omega)
 refine qay (E:=env 0) tok (σ:=Nat) (fun i=>[(0,.d (pC c)),(2,.ptr 0 0),(3,.d (dBs (rcN c c.gates.length))),(4,.ptr 3 0),(5,.sl 5 i 1 0 (cFst c+i)),(27,.d (dPs c.gates)),(28,.d (dI c.gates.length)),(29,.d (dI i))])
  (fun i=>.box [.d (dI 0),.d .nil,.d .nil,.d .nil]::(bN1 (opSt c i).1 ++ [.row i 1 true ((opSt c i).2.map (D.int .i64))])) (fun i=>i<=c.gates.length) (fun i=>c.gates.length-i) [] 1000 1000 ?_ ?_ ?_
 ·simp only[go_sem,seval]
 ·simp only[go_sem,seval,bN1];refine⟨0,by omega,?_⟩;simp only[go_sem,seval,bN1,opSt,yaP];simp
 ·intro i hi;have hrl:=qiG (c:=c) c.gates.length;have hfi:(c.first+(i:Int)).toNat=cFst c+i:=by omega
  have hos:=qmY hv i hi;have hml:=hos.ml;simp only[go_sem,seval,bN1];by_cases hlt:i<c.gates.length
  ·have hg:=hv.g i hlt;unfold qaK at hg;have hx:=qeq hos.mb (l:=(c.gates.getD i (0,0)).1) (by omega);have hy:=qeq hos.mb (l:=(c.gates.getD i (0,0)).2) (by omega);have hand:=c_and (opSt c i).1 hos.ok _ _ hx hy;have hst:opSt c (i+1)=if(rcN c c.gates.length).getD (cFst c+i) false=true then
    (((opSt c i).1.and (lmap (opSt c i).2 (c.gates.getD i (0,0)).1) (lmap (opSt c i).2 (c.gates.getD i (0,0)).2)).1,(opSt c i).2 ++ [((opSt c i).1.and (lmap (opSt c i).2 (c.gates.getD i (0,0)).1) (lmap (opSt c i).2 (c.gates.getD i (0,0)).2)).2])
    else((opSt c i).1,(opSt c i).2 ++ [0]):=rfl
   have hm1:0<=(opSt c i).2.getD ((c.gates.getD i (0,0)).1/2).toNat 0:=(hos.mb _ (qac (by omega))).1;have hm2:0<=(opSt c i).2.getD ((c.gates.getD i (0,0)).2/2).toNat 0:=(hos.mb _ (qac (by omega))).1;have hl1:=qlF hg.1.1 hm1;have hl2:=qlF hg.2.1 hm2
   repeat' first|assumption|(simp (disch:=first|assumption|omega|(simp;done)|(simp;omega)) only[];try simp only[go_sem,seval,bN1,hfi])|(with_reducible first|apply And.intro|intro _)|(refine qab hfg ?_;simp only[go_sem,seval,bN1,hfi])|((try rw[qaa]);omega)
   ·rename_i hk;rw[if_pos hk] at hst;refine qaP (n:=0) [21] (fsts [0,1,2,7,11,12,17,3,4,5,6,8,9,10,13,14,15,16,18,19,20] (.one 21 (.fst 22 .done))) ?_;simp only[go_sem,seval,bN1]
    repeat' first|assumption|(simp (disch:=first|assumption|omega|(simp;done)|(simp;omega)) only[];try simp only[go_sem,seval,bN1,hfi])|(with_reducible first|apply And.intro|intro _)|((try rw[qaa]);omega)
    all_goals (
     rw[hl1,hl2];refine qa4 hand [3,4,1,2] (by simp only[bH];simp only[go_sem,seval]) ?_;simp only[go_sem,seval,bH]
     repeat' first|assumption|(simp (disch:=first|assumption|omega|(simp;done)|(simp;omega)) only[];try simp only[go_sem,seval,bH])|(with_reducible first|apply And.intro|intro _)|((try rw[qaa]);omega))
    all_goals exact⟨i+1,by omega,by omega,⟨⟨rfl,by omega⟩,rfl⟩,by rw[hst];simp⟩
   ·rename_i hk;rw[if_neg (by rw[hk];decide)] at hst;exact⟨i+1,by omega,by omega,⟨⟨rfl,by omega⟩,rfl⟩,by rw[hst];simp⟩
  ·obtain rfl:i=c.gates.length:=by omega
   have hcir:=c_circuitR c.gates.length (opSt c c.gates.length).1 hos.ok c (opSt c c.gates.length).2 ⟨by omega,by omega⟩ (fun x hx=>(hos.mb x hx).1)
    (fun l hl=>by have:=hv.n l hl;unfold qaK at this;rw[hml];omega) (fun l hl=>by have:=hv.o l hl;unfold qaK at this;rw[hml];omega)
   rw[hml] at hcir
   repeat' first|assumption|(simp (disch:=first|assumption|omega|(simp;done)|(simp;omega)) only[];try simp only[go_sem,seval,bN1,hfi])|(with_reducible first|apply And.intro|intro _)|(refine qab hfg ?_;simp only[go_sem,seval,bN1,hfi])|((try rw[qaa]);omega)
   refine qa4 hcir [3,4,1,2,5] (by simp only[bH];simp only[go_sem,seval]) ?_;simp only[go_sem,seval,bH];have hpr:=c_pruned (opD c) hd
   repeat' first|assumption|(simp (disch:=first|assumption|omega|(simp;done)|(simp;omega)) only[];try simp only[go_sem,seval,bH])|(with_reducible first|apply And.intro|intro _)|(refine qbr hpr ?_;simp only[go_sem,seval,bH])|((try rw[qaa]);omega)
   trace_state

theorem Tryz.c_Optimize (c:Circ) (hd:c.Valid->(opD c).Valid):Pure prog 33 [dC c] (dC (if c.Valid then prC (opD c) else Circ.zero)):=by
 refine qav func33 rfl ntmps33 fun ok=>?_
 simp only[go_sem,seval] at ok;have hcv:=c_CircuitValid c;simp only[go_sem,seval];by_cases hv:c.Valid
 ·rw[decide_eq_true hv] at hcv;rw[if_pos hv];have ho:=c_optimize c hv (hd hv)
  repeat' first|assumption|(simp (disch:=first|assumption|omega|(simp;done)|(simp;omega)) only[];try simp only[go_sem,seval])|(with_reducible first|apply And.intro|intro _)|(refine qab hcv ?_;simp only[go_sem,seval])|(refine qbr ho ?_;simp only[go_sem,seval])|((try rw[qaa]);omega)
 ·rw[decide_eq_false hv] at hcv;rw[if_neg hv]
  repeat' first|assumption|(simp (disch:=first|assumption|omega|(simp;done)|(simp;omega)) only[];try simp only[go_sem,seval])|(with_reducible first|apply And.intro|intro _)|(refine qab hcv ?_;simp only[go_sem,seval])|((try rw[qaa]);omega)
  all_goals (simp[Circ.zero])

theorem qqy {c:Circ}(hv:c.Valid) (hu : ∀ j,j<c.gates.length->((rcN c c.gates.length).getD (cFst c+j) false=true↔(usdN c c.gates.length).getD j false=true)) :
  ∀ i,i<=c.gates.length->(opSt c i).1.gates=(bdSt c (usdN c c.gates.length) true i).gates/\(opSt c i).2=(bdSt c (usdN c c.gates.length) true i).m
 | 0,_=>by
  constructor
  ·simp[opSt,Bld.new,bdSt]
  ·simp only[opSt,bdSt]
 | i+1,hi=>by
  obtain⟨h1,h2⟩:=qqy hv hu i (by omega);have hf:=(qmY hv i (by omega)).fst;rw[opSt,bdSt];by_cases hk:(usdN c c.gates.length).getD i false=true
  ·rw[if_pos ((hu i (by omega)).2 hk),qhs hk];simp only[Bld.and];rw[hf,h1,h2];exact⟨rfl,rfl⟩
  ·rw[if_neg (fun h=>hk ((hu i (by omega)).1 h)),qe2 (by simpa using hk)];exact⟨h1,by rw[h2]⟩
theorem qqz {c:Circ}(hv:c.Valid) (hu : ∀ j,j<c.gates.length->((rcN c c.gates.length).getD (cFst c+j) false=true↔(usdN c c.gates.length).getD j false=true)):opD c=built c true:=by
 obtain⟨h1,h2⟩:=qqy hv hu c.gates.length (yad _);unfold opD built qkz;rw[h1,h2]
theorem quD {l:List Int}{p:Int->Prop}:(∃ i,i<l.length/\p (l.getD i 0))↔∃ x∈l,p x:=by
 constructor
 ·rintro⟨i,h1,h2⟩;exact⟨_,qac h1,h2⟩
 ·rintro⟨x,hx,h⟩;obtain⟨i,hi,rfl⟩:=qaE 0 hx;exact⟨i,hi,h⟩
theorem qs7 {c:Circ}(hv:c.Valid) : ∀ k,k<=c.gates.length->∀ j,j<c.gates.length->((rcN c k).getD (cFst c+j) false=true↔(usdN c k).getD j false=true)
 | 0,_,j,hj=>by
  have hfb:=hv.first_bd;have hcf:=qaI hv;have hnn : ∀ x∈c.outs++c.next,0<=x:=fun x hx=>by
   rcases List.mem_append.1 hx with h|h
   ·exact(hv.o x h).1
   ·exact(hv.n x h).1
  have hro : ∀ x,x∈c.roots↔x∈c.outs++c.next:=fun x=>by unfold Circ.roots;simp[or_comm]
  rw[rcN,qqu (by simp;omega),usdN,qkA (by simp;omega)];have e1:(List.replicate (cFst c+c.gates.length) false).getD (cFst c+j) false=false:=by rw[List.getD_eq_getElem?_getD,List.getElem?_replicate];split <;> rfl
  have e2:(List.replicate c.gates.length false).getD j false=false:=by rw[List.getD_eq_getElem?_getD,List.getElem?_replicate];split <;> rfl
  rw[e1,e2,quD (p:=fun x=>(x/2).toNat=cFst c+j),quD (p:=fun x=>x/2=c.first+(j:Int))];simp only[yag,false_or];constructor
  ·rintro⟨x,hx,h⟩;have:=hnn x ((hro x).1 hx);exact⟨x,(hro x).1 hx,by omega⟩
  ·rintro⟨x,hx,h⟩;have:=hnn x hx;exact⟨x,(hro x).2 hx,by omega⟩
 | k+1,hk,j,hj=>by
  have ih:=qs7 hv k (by omega);have hcf:=qaI hv;have hfb:=hv.first_bd;have hl:=qiG (c:=c) k;have hl2:=qfj (c:=c) k;have hg:=hv.g (c.gates.length-1-k) (by omega);unfold qaK at hg;rw[rcN,usdN,qgg (by omega),qiF];have ihk:=ih (c.gates.length-1-k) (by omega);by_cases hm:(usdN c k).getD (c.gates.length-1-k) false=true
  ·rw[if_pos (ihk.2 hm)];by_cases e2:((c.gates.getD (c.gates.length-1-k) (0,0)).2/2).toNat=cFst c+j
   ·rw[e2,qah (by rw[yax];omega)];exact⟨fun _=>.inr ⟨hm,.inr (by omega)⟩,fun _=>rfl⟩
   ·rw[qaA e2];by_cases e1:((c.gates.getD (c.gates.length-1-k) (0,0)).1/2).toNat=cFst c+j
    ·rw[e1,qah (by omega)];exact⟨fun _=>.inr ⟨hm,.inl (by omega)⟩,fun _=>rfl⟩
    ·rw[qaA e1,ih j hj];constructor
     ·exact fun h=>.inl h
     ·rintro(h|⟨_,h|h⟩)
      ·exact h
      ·omega
      ·omega
  ·rw[if_neg (fun h=>hm (ihk.1 h)),ih j hj];constructor
   ·exact fun h=>.inl h
   ·rintro(h|⟨h,_⟩)
    ·exact h
    ·exact absurd h hm
theorem qqA {c:Circ}(hv:c.Valid):opD c=built c true:=qqz hv (qs7 hv c.gates.length (yad _))
end Go.Proofs
