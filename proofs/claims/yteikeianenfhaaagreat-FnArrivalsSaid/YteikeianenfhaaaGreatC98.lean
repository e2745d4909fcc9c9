/- Contracts, plain definitions and lemmas. Conditions: none; lemmas. -/
import Derived.Test.YteikeianenfhaaaGreatC61
import Derived.Test.YteikeianenfhaaaGreatC70
import Derived.Test.YteikeianenfhaaaGreatC97
set_option linter.unusedVariables false
set_option linter.unusedSimpArgs false
set_option maxHeartbeats 2000000
namespace Go.VL
section vals
variable {c:Circ}{st ins:List Bool}
end vals
noncomputable def qdN (c:Circ) (i:Nat):Lut:=⟨c.first+(i:Int),(qa8 c).getD (c.first.toNat+i) [],qfJ c (c.first+(i:Int)) ((qa8 c).getD (c.first.toNat+i) [])⟩
structure MapOk (c:Circ) (j:Nat) (need:List Bool) (new:List Lut):Prop where
 each : ∀ l∈new,∃ i,i<j/\l=qdN c i
 asc:new.Pairwise fun a b=>a.var<b.var
 all : ∀ i,i<j->((∃ l∈new,l.var=c.first+(i:Int))↔need.getD (c.first.toNat+i) false=true∨∃ l∈new,c.first+(i:Int)∈l.leaves)
theorem qk5 {c:Circ}(hc:c.Valid) : ∀ (j:Nat),j<=c.gates.length->∀ (need:List Bool) (out:List Lut),need.length=c.vars.toNat->∃ new,mapD c j need out=new++out/\MapOk c j need new
 | 0,_,need,out,_=>⟨[],rfl,by simp,by simp,by omega⟩
 | j+1,hj,need,out,hn=>by
  have hf:=hc.first_bd;have hv:=hc.vars_bd;have hvv:c.vars=c.first+(c.gates.length:Int):=rfl
  have hb:=qcy hc (i:=j) (by omega);simp only[mapD];split
  ·rename_i hnd;obtain⟨new,e,m⟩:=qk5 hc j (by omega) (qa5 need ((qa8 c).getD (c.first.toNat+j) [])) (qdN c j::out) (by rw[qb4];exact hn);refine⟨new ++ [qdN c j],by rw[yal];exact e,fun l hl=>?_,?_,fun i hi=>?_⟩
   ·rcases List.mem_append.1 hl with h|h
    ·obtain⟨i,h1,h2⟩:=m.each l h;exact⟨i,by omega,h2⟩
    ·obtain rfl:l=qdN c j:=by simpa using h
     exact⟨j,by omega,rfl⟩
   ·rw[List.pairwise_append];refine⟨m.asc,by simp,fun a ha b hb2=>?_⟩;obtain rfl:b=qdN c j:=by simpa using hb2
    obtain⟨i,h1,rfl⟩:=m.each a ha;show c.first+(i:Int)<c.first+(j:Int)
    omega
   ·have hleaf : ∀ i',i'<j->(c.first+(i':Int)∈(qdN c j).leaves↔c.first+(i':Int)∈(qa8 c).getD (c.first.toNat+j) []):=fun i' _=>Iff.rfl
    by_cases hij:i=j
    ·subst hij;constructor
     ·exact fun _=>.inl hnd
     ·exact fun _=>⟨qdN c i,by simp,rfl⟩
    ·have hi2:i<j:=by omega
     have hset:=qdK ((qa8 c).getD (c.first.toNat+j) []) need (c.first.toNat+i) (fun v hv=>by have:=hb.2.2 v hv;omega);have hmi:=m.all i hi2;rw[hset,ybb,decide_eq_true_eq] at hmi;have hlt:c.first.toNat+i<need.length:=by omega
     have ev:((c.first.toNat+i:Nat):Int)=c.first+(i:Int):=by omega
     rw[ev] at hmi;constructor
     ·rintro⟨l,hl,hlv⟩;rcases List.mem_append.1 hl with h|h
      ·rcases hmi.1 ⟨l,h,hlv⟩ with(h2|⟨_,h2⟩)|⟨l2,h2,h3⟩
       ·exact .inl h2
       ·exact .inr ⟨qdN c j,by simp,h2⟩
       ·exact .inr ⟨l2,yaC _ h2,h3⟩
      ·obtain rfl:l=qdN c j:=by simpa using h
       have:c.first+(j:Int)=c.first+(i:Int):=hlv
       omega
     ·rintro(h|⟨l,hl,hlv⟩)
      ·obtain⟨l,h1,h2⟩:=hmi.2 (.inl (.inl h));exact⟨l,yaC _ h1,h2⟩
      ·rcases List.mem_append.1 hl with h|h
       ·obtain⟨l,h1,h2⟩:=hmi.2 (.inr ⟨l,h,hlv⟩);exact⟨l,yaC _ h1,h2⟩
       ·obtain rfl:l=qdN c j:=by simpa using h
        obtain⟨l,h1,h2⟩:=hmi.2 (.inl (.inr ⟨hlt,hlv⟩));exact⟨l,yaC _ h1,h2⟩
  ·rename_i hnd;obtain⟨new,e,m⟩:=qk5 hc j (by omega) need out hn;refine⟨new,e,fun l hl=>?_,m.asc,fun i hi=>?_⟩
   ·obtain⟨i,h1,h2⟩:=m.each l hl;exact⟨i,by omega,h2⟩
   ·by_cases hij:i=j
    ·subst hij;constructor
     ·rintro⟨l,hl,hlv⟩;obtain⟨i2,h1,rfl⟩:=m.each l hl;have:c.first+(i2:Int)=c.first+(i:Int):=hlv
      omega
     ·rintro(h|⟨l,hl,hlv⟩)
      ·exact absurd h hnd
      ·obtain⟨i2,h1,rfl⟩:=m.each l hl;have:=(qcy hc (i:=i2) (by omega)).2.2 _ hlv;omega
    ·exact m.all i (by omega)
theorem qhH (c:Circ):(qez c).length=c.vars.toNat:=by rw[qez,qb4];simp
theorem qfi {c:Circ}(hc:c.Valid) : ∀ v∈qaP c,0<=v/\v<c.vars:=by
 intro v hv;obtain⟨l,hl,rfl⟩:=List.mem_map.1 hv;have:qa6 l c.vars:=by
  rcases List.mem_append.1 hl with h|h
  ·exact hc.o l h
  ·exact hc.n l h
 unfold qa6 at this;omega
theorem qn1 {c:Circ}(hc:c.Valid) {v:Nat}(hv:(v:Int)<c.vars):(qez c).getD v false=decide ((v:Int)∈qaP c):=by
 rw[qez,qdK _ _ _ fun z hz=>(qfi hc z hz).1];have e:(List.replicate c.vars.toNat false).getD v false=false:=by
  rw[List.getD_eq_getElem?_getD,List.getElem?_replicate];split <;> rfl
 rw[e,Bool.false_or];exact decide_eq_decide.2 ⟨fun h=>h.2,fun h=>⟨by simp;omega,h⟩⟩
theorem qcz {c:Circ}(hc:c.Valid):MapOk c c.gates.length (qez c) (qcw c):=by
 obtain⟨new,e,m⟩:=qk5 hc c.gates.length (yad _) (qez c) [] (qhH c);rw[yaA] at e;rw[qcw,e];exact m
theorem qlM {c:Circ}(hc:c.Valid) {i:Nat}(hi:i<c.gates.length):qdN c i∈qcw c↔c.first+(i:Int)∈qaP c∨∃ l∈qcw c,c.first+(i:Int)∈l.leaves:=by
 have hf:=hc.first_bd;have m:=qcz hc;have:=m.all i hi;have hvv:c.vars=c.first+(c.gates.length:Int):=rfl
 rw[qn1 hc (by omega),decide_eq_true_eq,show((c.first.toNat+i:Nat):Int)=c.first+(i:Int) by omega] at this;rw[<-this];constructor
 ·exact fun h=>⟨_,h,rfl⟩
 ·rintro⟨l,hl,hv⟩;obtain⟨i2,h1,rfl⟩:=m.each l hl;have:c.first+(i2:Int)=c.first+(i:Int):=hv
  obtain rfl:i2=i:=by omega
  exact hl
theorem qhI {c:Circ}(hc:c.Valid):(qcw c).length<=c.gates.length:=by
 have m:=qcz hc;have h1:((qcw c).map fun l=>(l.var-c.first).toNat).Nodup:=by
  rw[List.nodup_iff_pairwise_ne,List.pairwise_map];refine m.asc.imp_of_mem fun {a b} ha hb h=>?_
  obtain⟨i,-,rfl⟩:=m.each a ha;obtain⟨j,-,rfl⟩:=m.each b hb;have:c.first+(i:Int)<c.first+(j:Int):=h
  show(c.first+(i:Int)-c.first).toNat≠(c.first+(j:Int)-c.first).toNat
  omega
 have h2:((qcw c).map fun l=>(l.var-c.first).toNat) ⊆ List.range c.gates.length:=by
  intro x hx;obtain⟨l,hl,rfl⟩:=List.mem_map.1 hx;obtain⟨i,hi,rfl⟩:=m.each l hl;have:(qdN c i).var=c.first+(i:Int):=rfl
  exact List.mem_range.2 (by omega)
 have:=h1.length_le_of_subset h2;simpa using this
theorem qbD {c:Circ}(hc:c.Valid):(qac c).length<=17:=by
 have:=qhI hc;have:=hc.ln;have:=hc.lg;simp only[qac,yae,yay,List.length_range];omega
end Go.VL

set_option maxRecDepth 20000
set_option linter.unusedVariables false
set_option linter.unusedSimpArgs false
namespace Go.Proofs
open Go Go.VL Tryz
theorem Tryz.c_l5Table (c:Circ) (hc:c.Valid) (leaves:List Int) (hl:leaves.length<=3) (v:Int) (hv0:0<=v) (hv:v<c.vars):Pure prog 191 [dC c,dI v,dIs leaves] (dI (qfJ c v leaves)):=by
 have hpw:=ybd (n:=2) (by omega) hl;have hI:(2:Int) ^ leaves.length=((2 ^ leaves.length:Nat):Int):=by simp
 have hfin:qfJ c v leaves=((qdJ c v leaves (2 ^ leaves.length):Nat):Int):=rfl;rw[hfin];generalize 2 ^ leaves.length=N at *
 refine qaA func191 rfl ntmps191 fun ok=>?_
 simp only[go_sem,seval] at ok⊢
 repeat' first|assumption|(simp (disch:=first|assumption|omega|(simp;done)|(simp;omega)) only[yaa];try simp only[go_sem,seval])|(with_reducible first|apply And.intro|intro _)|((try rw[qaa]);omega)
 refine qaI (E:=env 0) tok (σ:=Nat) (fun x=>[(0,.d (dC c)),(1,.d (dI v)),(2,.d (dIs leaves)),(3,.ptr 0 0),(7,.d (dI (qdJ c v leaves x:Nat))),(8,.d (dI x))]) (fun _=>[.box [.d (dI c.inputs),.d (dIs c.next),.d (dPs c.gates),.d (dIs c.outs)]]) (fun x=>x<=N) (fun x=>N-x) [] 1000 1000 ?_ ?_ ?_
 ·simp only[go_sem,seval]
 ·simp only[go_sem,seval];exact⟨0,by omega,rfl,rfl⟩
 ·intro x hx;have htl:=qhD c v leaves x;have htp:=ybd (n:=2) (by omega) (show x<=8 by omega);have hI2:(2:Int) ^ x=((2 ^ x:Nat):Int):=by simp
  have hts:qdJ c v leaves (x+1)=qdJ c v leaves x+(if qcf c leaves x v then 2 ^ x else 0):=rfl;generalize 2 ^ x=M at *
  by_cases hlt:x<N
  ·have q:=c_l5Cone c hc leaves hl x (by omega) (v.toNat+1) v (by omega) hv0 hv;simp only[go_sem,seval,hI,hI2]
   repeat' first|assumption|(simp (disch:=first|assumption|omega|(simp;done)|(simp;omega)) only[yaa];try simp only[go_sem,seval,hI,hI2])|(with_reducible first|apply And.intro|intro _)|(refine qad q ?_;simp only[go_sem,seval,hI,hI2])|((try rw[qaa]);omega)
   ·rename_i h9;exact⟨x+1,by omega,by omega,by rw[hts,if_pos h9];omega,rfl⟩
   ·rename_i h9;exact⟨x+1,by omega,by omega,by rw[hts,if_neg (by rw[h9];simp)];omega,rfl⟩
  ·simp only[go_sem,seval,hI,hI2]
   repeat' first|assumption|(simp (disch:=first|assumption|omega|(simp;done)|(simp;omega)) only[yaa];try simp only[go_sem,seval,hI,hI2])|(with_reducible first|apply And.intro|intro _)|((try rw[qaa]);omega)
   rw[show x=N by omega]
abbrev dLu (l:Lut):D:=.agg [dI l.var,dIs l.leaves,dI l.table]
abbrev dLus (l:List Lut):D:=.lst 3 (l.map fun x=>dLu x)
def lu0:Lut:=⟨0,[],0⟩
theorem qaB {l:List Lut}{i:Nat}{z:D}(h:i<l.length):(l.map fun x=>dLu x).getD i z=dLu (l.getD i lu0):=getD_lt _ _ _ _ _ h
theorem Tryz.c_l5Map (c:Circ) (hc:c.Valid):PureF prog 137 [dC c] (dLus (qcw c)):=by
 have hf:=hc.first_bd;have hi0:=hc.i0;have hi1:=hc.i1;have hfst:=c_l1First c (by omega);have hcu:=c_l5Cuts c hc;have hbe:=c_l5Best c hc;have hlo:=hc.lo;have hln:=hc.ln;have hlg:=hc.lg;refine qck (E:=envf 0) tok rfl 1000 func137 rfl rfl ntmps137 (by simp) fun ok=>?_
 simp only[go_sem,seval] at ok⊢;refine qda (E:=envf 0) tok Tryz.follows 1000 1000 [] (.fst 0 (.fst 1 (.one 2 (.one 3 (.fst 4 (.fst 5 (.fst 6 (.fst 7 (.fst 8 (.done)))))))))) (by kernel_rfl) ?_;simp only[go_sem,seval]
 repeat' first|assumption|(simp (disch:=first|assumption|omega|(simp;done)|(simp;omega)) only[yaa];try simp only[go_sem,seval])|(with_reducible first|apply And.intro|intro _)|(refine qad hfst ?_;simp only[go_sem,seval])|(refine qbU hcu ?_;simp only[go_sem,seval])|(refine qbU hbe ?_;simp only[go_sem,seval])|((try rw[qaa]);omega)
 refine qda (E:=envf 0) tok Tryz.follows 1000 1000 [] (.fst 1 (.fst 4 (.fst 2 (.fst 5 (.one 0 (.one 3 (.one 6 (.fst 7 (.done))))))))) (by kernel_rfl) ?_;simp only[go_sem,seval]
 repeat' first|assumption|(simp (disch:=first|assumption|omega|(simp;done)|(simp;omega)) only[yaa];try simp only[go_sem,seval])|(with_reducible first|apply And.intro|intro _)|(refine qad hfst ?_;simp only[go_sem,seval])|((try rw[qaa]);omega)
 have hvr:(c.first+(c.gates.length:Int)).toNat=c.vars.toNat:=rfl;have hvv:c.vars=c.first+(c.gates.length:Int):=rfl
 have hrl:(c.outs++c.next).length=c.outs.length+c.next.length:=by simp
 have hrv:=qfi hc;have hrd:qaP c=(c.outs++c.next).map (· / 2):=rfl;have hn0:qez c=qa5 (List.replicate c.vars.toNat false) (qaP c):=rfl;rw[hvr];generalize hroots:c.outs++c.next=roots at *
 refine qai (E:=envf 0) tok (σ:=Nat) (fun i=>[(0,.d (dC c)),(1,.ptr 0 0),(3,.d (.lst 1 (qcI c (qa8 c)))),(5,.d (dI c.first)),(6,.sl 1 0 1 0 c.vars.toNat),(7,.d (dIs roots)),(8,.d (dI i))])
  (fun i=>[.box [.d (dI c.inputs),.d (dIs c.next),.d (dPs c.gates),.d (dIs c.outs)],.row 0 1 true ((qa5 (List.replicate c.vars.toNat false) ((qaP c).take i)).map D.bool)])
  (fun i=>i<=roots.length) (fun i=>roots.length-i) [] [] 1000 1000 ?_ ?_
 ·simp only[go_sem,seval];refine⟨0,by omega,?_⟩;simp[qa5,<-hrl]
 ·intro i hi;have hsl:=qb4 ((qaP c).take i) (List.replicate c.vars.toNat false);rw[yaF] at hsl;by_cases hlt:i<roots.length
  ·have hrg:(qaP c).getD i 0=roots.getD i 0/2:=by rw[hrd];simp[List.getD,hlt]
   have hbd:=hrv _ (qab (by rw[hrd];simpa using hlt):(qaP c).getD i 0∈qaP c);have hst:qa5 (List.replicate c.vars.toNat false) ((qaP c).take (i+1))=(qa5 (List.replicate c.vars.toNat false) ((qaP c).take i)).set (roots.getD i 0/2).toNat true:=by
    rw[<-hrg];exact qaw (f:=fun(n:List Bool) (v:Int)=>n.set v.toNat true) (b:=List.replicate c.vars.toNat false) (0:Int) (by rw[hrd];simpa using hlt)
   rw[hrg] at hbd;simp only[go_sem,seval]
   repeat' first|assumption|(simp (disch:=first|assumption|omega|(simp;done)|(simp;omega)) only[yaa];try simp only[go_sem,seval])|(with_reducible first|apply And.intro|intro _)|((try rw[qaa]);omega)
   exact⟨i+1,by omega,by omega,rfl,by rw[hst]⟩
  ·have hst:qa5 (List.replicate c.vars.toNat false) ((qaP c).take i)=qez c:=by rw[hn0,yaa (by rw[hrd];simp;omega)]
   rw[hst];simp only[go_sem,seval]
   repeat' first|assumption|(simp (disch:=first|assumption|omega|(simp;done)|(simp;omega)) only[yaa];try simp only[go_sem,seval])|(with_reducible first|apply And.intro|intro _)|((try rw[qaa]);omega)
   have hne0:=qhH c;have hlu:qcw c=mapD c c.gates.length (qez c) []:=rfl;refine qai (E:=envf 0) tok (σ:=Nat×List Bool×List Lut) (fun s=>[(0,.d (dC c)),(1,.ptr 0 0),(3,.d (.lst 1 (qcI c (qa8 c)))),(5,.d (dI c.first)),(6,.sl 1 0 1 0 c.vars.toNat),(9,.d (dLus s.2.2)),(10,.d (dI (c.first+(s.1:Int)-1)))])
    (fun s=>[.box [.d (dI c.inputs),.d (dIs c.next),.d (dPs c.gates),.d (dIs c.outs)],.row 0 1 true (s.2.1.map D.bool)])
    (fun s=>s.1<=c.gates.length/\s.2.1.length=c.vars.toNat/\s.2.2.length+s.1<=c.gates.length/\mapD c s.1 s.2.1 s.2.2=qcw c) (fun s=>s.1) [] [] 1000 1000 ?_ ?_
   ·simp only[go_sem,seval];refine⟨(c.gates.length,qez c,[]),⟨by simp,hne0,by simp,hlu.symm⟩,?_⟩;simp;omega
   ·rintro⟨j,need,out⟩ ⟨hj,hnl,hol,hinv⟩;simp only at hj hnl hol hinv;cases j with
    | zero=>
     simp only[go_sem,seval]
     repeat' first|assumption|(simp (disch:=first|assumption|omega|(simp;done)|(simp;omega)) only[yaa];try simp only[go_sem,seval])|(with_reducible first|apply And.intro|intro _)|((try rw[qaa]);omega)
     rw[<-hinv];rfl
    | succ m=>
     have hbo:=qcy hc (i:=m) (by omega);have hbl:=qj5 c;have ev:(c.first+((m+1:Nat):Int)-1)=c.first+(m:Int):=by omega
     have ev2:(c.first+(m:Int)).toNat=c.first.toNat+m:=by omega
     have hbg : ∀ z,(qcI c (qa8 c)).getD (c.first.toNat+m) z=dIs ((qa8 c).getD (c.first.toNat+m) []):=fun z=>qj9 (by omega) (by omega)
     have hstep:mapD c (m+1) need out=if need.getD (c.first.toNat+m) false=true then
       mapD c m (qa5 need ((qa8 c).getD (c.first.toNat+m) [])) (⟨c.first+(m:Int),(qa8 c).getD (c.first.toNat+m) [],qfJ c (c.first+(m:Int)) ((qa8 c).getD (c.first.toNat+m) [])⟩::out)
      else mapD c m need out:=rfl
     have htb:=c_l5Table c hc ((qa8 c).getD (c.first.toNat+m) []) hbo.2.1 (c.first+(m:Int)) (by omega) (by omega);have hbD:(qcI c (qa8 c)).length=c.first.toNat+c.gates.length:=by rw[qcH (by omega)];exact hbl
     rw[ev];generalize hL:(qa8 c).getD (c.first.toNat+m) []=L at *
     by_cases hnd:need.getD (c.first.toNat+m) false=true
     ·rw[if_pos hnd] at hstep;simp only[go_sem,seval,ev2,hnd,hbg]
      repeat' first|assumption|(simp (disch:=first|assumption|omega|(simp;done)|(simp;omega)) only[yaa];try simp only[go_sem,seval,ev2,hnd,hbg])|(with_reducible first|apply And.intro|intro _)|((try rw[qaa]);omega)
      refine qai (E:=envf 0) tok (σ:=Nat) (fun k=>[(0,.d (dC c)),(1,.ptr 0 0),(3,.d (.lst 1 (qcI c (qa8 c)))),(5,.d (dI c.first)),(6,.sl 1 0 1 0 c.vars.toNat),(9,.d (dLus out)),(10,.d (dI (c.first+(m:Int)))),(11,.d (dI k))])
       (fun k=>[.box [.d (dI c.inputs),.d (dIs c.next),.d (dPs c.gates),.d (dIs c.outs)],.row 0 1 true ((qa5 need (L.take k)).map D.bool)])
       (fun k=>k<=L.length) (fun k=>L.length-k) [] [] 1000 1000 ?_ ?_
      ·simp only[go_sem,seval];exact⟨0,by omega,rfl,rfl⟩
      ·intro k hk;have hsl:=qb4 (L.take k) need;by_cases hkt:k<L.length
       ·have hst:qa5 need (L.take (k+1))=(qa5 need (L.take k)).set (L.getD k 0).toNat true:=qaw (f:=fun(n:List Bool) (v:Int)=>n.set v.toNat true) (b:=need) (0:Int) hkt;have hz:=hbo.2.2 _ (qab hkt:L.getD k 0∈L);simp only[go_sem,seval,ev2,hbg]
        repeat' first|assumption|(simp (disch:=first|assumption|omega|(simp;done)|(simp;omega)) only[yaa];try simp only[go_sem,seval,ev2,hbg])|(with_reducible first|apply And.intro|intro _)|((try rw[qaa]);omega)
        exact⟨k+1,by omega,by omega,rfl,hst.symm⟩
       ·have hst:qa5 need (L.take k)=qa5 need L:=by rw[yaa (by omega)]
        rw[hst];rw[hst] at hsl;simp only[go_sem,seval,ev2,hbg]
        repeat' first|assumption|(simp (disch:=first|assumption|omega|(simp;done)|(simp;omega)) only[yaa];try simp only[go_sem,seval,ev2,hbg])|(with_reducible first|apply And.intro|intro _)|((try rw[qaa]);omega)
        refine qda (E:=envf 0) tok Tryz.follows 1000 1000 [] (.fst 0 (.fst 2 (.fst 3 (.fst 4 (.fst 8 (.fst 9 (.fst 10 (.fst 11 (.fst 16 (.fst 5 (.fst 7 (.fst 12 (.one 1 (.one 6 (.one 13 (.fst 14 (.one 15 (.one 17 (.fst 18 (.done)))))))))))))))))))) (by kernel_rfl) ?_;simp only[go_sem,seval,ev2,hbg]
        repeat' first|assumption|(simp (disch:=first|assumption|omega|(simp;done)|(simp;omega)) only[yaa];try simp only[go_sem,seval,ev2,hbg])|(with_reducible first|apply And.intro|intro _)|(refine qad htb ?_;simp only[go_sem,seval,ev2,hbg])|((try rw[qaa]);omega)
        exact⟨(m,qa5 need L,⟨c.first+(m:Int),L,qfJ c (c.first+(m:Int)) L⟩::out),⟨by simp only;omega,hsl.trans hnl,by simp only[yah];omega,by rw[<-hinv,hstep]⟩,by simp only;omega,⟨rfl,by simp only⟩,rfl⟩
     ·rw[if_neg hnd] at hstep;rw[Bool.not_eq_true] at hnd;simp only[go_sem,seval,ev2,hnd,hbg]
      repeat' first|assumption|(simp (disch:=first|assumption|omega|(simp;done)|(simp;omega)) only[yaa];try simp only[go_sem,seval,ev2,hnd,hbg])|(with_reducible first|apply And.intro|intro _)|((try rw[qaa]);omega)
      exact⟨(m,need,out),⟨by simp only;omega,hnl,by simp only;omega,by rw[<-hinv,hstep]⟩,by simp only;omega,⟨rfl,by simp only⟩,rfl⟩
end Go.Proofs

set_option maxRecDepth 20000
set_option linter.unusedVariables false
set_option linter.unusedSimpArgs false
namespace Go.Proofs
open Go Go.VL
structure RevTo (l m:List Lut) (i:Nat):Prop where
 len:m.length=l.length
 get : ∀ p,p<l.length->m.getD p lu0=if p<i∨l.length<=p+i then l.getD (l.length-1-p) lu0 else l.getD p lu0
theorem RevTo.start (l:List Lut):RevTo l l 0:=⟨rfl,fun p hp=>by rw[if_neg (by omega)]⟩
theorem qkc {m:List Lut}{a p:Nat}{x:Lut}(h:a<m.length):(m.set a x).getD p lu0=if p=a then x else m.getD p lu0:=by
 by_cases e:p=a
 ·subst e;simp[List.getD,h]
 ·simp[List.getD,List.getElem?_set,show ¬ a=p by omega,e]
theorem RevTo.step {l m:List Lut}{i:Nat}(h:RevTo l m i) (hi:i+i+1<l.length):RevTo l ((m.set i (m.getD (l.length-1-i) lu0)).set (l.length-1-i) (m.getD i lu0)) (i+1):=by
 have hl:=h.len;refine⟨by simp[hl],fun p hp=>?_⟩;rw[qkc (by simp;omega),qkc (by omega)];have g1:=h.get p hp;have g2:=h.get i (by omega);have g3:=h.get (l.length-1-i) (by omega);rw[if_neg (by omega)] at g2 g3;rw[g1,g2,g3];by_cases e1:p=l.length-1-i
 ·subst e1;rw[if_pos rfl,if_pos (by omega),show l.length-1-(l.length-1-i)=i by omega]
 ·rw[if_neg e1];by_cases e2:p=i
  ·subst e2;rw[if_pos rfl,if_pos (by omega)]
  ·rw[if_neg e2];by_cases e3:p<i∨l.length<=p+i
   ·rw[if_pos e3,if_pos (by omega)]
   ·rw[if_neg e3,if_neg (by omega)]
theorem RevTo.done {l m:List Lut}{i:Nat}(h:RevTo l m i) (hi:l.length<=i+i+1):m=l.reverse:=by
 refine qfA lu0 (by simp[h.len]) fun p hp=>?_
 have hl:=h.len;have e:l.reverse.getD p lu0=l.getD (l.length-1-p) lu0:=by simp[List.getD,show p<l.length by omega,show l.length-1-p<l.length by omega]
 rw[e,h.get p (by omega)];split
 ·rfl
 ·rw[show l.length-1-p=p by omega]
theorem Tryz.c_ReverseL (g:Nat) (l:List Lut) (hl:l.length<=1000000):ICall prog 175 [.sl 0 g 3 0 l.length] [.row g 3 false (l.map fun x=>dLu x)] (fun _ H'=>H'=[.row g 3 false (l.reverse.map fun x=>dLu x)]):=by
 refine qaz (E:=env 1) tok rfl 1000 func175 rfl rfl ntmps175 (by simp) ?_
 repeat' first|assumption|(simp (disch:=first|assumption|omega|(simp;done)|(simp;omega)) only[go_sem,seval,qaB])|(with_reducible first|apply And.intro|intro _)|((try rw[qaa]);omega)
 refine qaI (E:=env 1) tok (σ:=Nat×List Lut) (fun s=>[(3,.d (dI ((l.length:Int)-1-(s.1:Int)))),(2,.d (dI s.1)),(0,.sl 0 g 3 0 l.length)]) (fun s=>[.row g 3 false (s.2.map fun x=>dLu x)])
  (fun s=>s.1<=l.length/\RevTo l s.2 s.1) (fun s=>l.length-s.1) [] 1000 1000 ?_ ?_ ?_
 ·simp only[go_sem,seval]
 ·simp only[go_sem,seval];exact⟨(0,l),⟨yaS _,RevTo.start l⟩,⟨by simp,rfl⟩,rfl⟩
 ·rintro⟨i,m⟩ ⟨hi,hm⟩;simp only at hi hm;have hml:=hm.len;by_cases hlt:i+i+1<l.length
  ·have ej:((l.length:Int)-1-(i:Int)).toNat=l.length-1-i:=by omega
   repeat' first|assumption|(simp (disch:=first|assumption|omega|(simp;done)|(simp;omega)) only[go_sem,seval,ej,qaB])|(with_reducible first|apply And.intro|intro _)|((try rw[qaa]);omega)
   refine qbN (n:=1) [13,15] (fsts [0,1,2,3,4,5,6,8,9,10,7,11,12] (.one 13 (.fst 14 (.one 15 .done)))) ?_
   repeat' first|assumption|(simp (disch:=first|assumption|omega|(simp;done)|(simp;omega)) only[go_sem,seval,ej,qaB])|(with_reducible first|apply And.intro|intro _)|((try rw[qaa]);omega)
   refine⟨(i+1,_),⟨by simp only;omega,hm.step hlt⟩,by simp only;omega,⟨by simp only;omega,rfl⟩,?_⟩;rw[List.map_set,List.map_set]
  ·repeat' first|assumption|(simp (disch:=first|assumption|omega|(simp;done)|(simp;omega)) only[go_sem,seval,qaB])|(with_reducible first|apply And.intro|intro _)|((try rw[qaa]);omega)
   exact qbm (by rw[hm.done (by omega)])
theorem Tryz.c_CloneJ (l:List Int) (hl:l.length<=1048576):Pure prog 173 [dIs l] (dIs l):=by
 refine qii (T:=tyT) tok func173 rfl rfl (by simp[ntmps173]) ?_;rw[ntmps173];refine qjb (E:=env 0) (ks:=[]) (qis (qqH tok rfl rfl trivial (qnI (qjb (qjb (qis (qqH tok rfl rfl ?_ (qpA tok rfl rfl ?_ rfl fun b hb=>qpB tok 1000 ?_))))))))
 ·simp only[go_sem,seval]
 ·simp only[go_sem,seval]
 ·simp only[go_sem,seval];exact⟨hb,fun h=>by omega⟩
theorem qk6 {c:Circ}(hb : ∀ z∈qaP c,0<=z):qa5 (List.replicate c.vars.toNat false) (c.roots.map (· / 2))=qez c:=by
 have hm : ∀ z:Int,z∈c.roots.map (· / 2)↔z∈qaP c:=fun z=>by simp[Circ.roots,qaP,or_and_right,exists_or,or_comm]
 refine qfA false (by rw[qez,qb4,qb4]) fun j hj=>?_
 rw[qez,qdK _ _ _ (fun v hv=>hb v ((hm v).1 hv)),qdK _ _ _ hb];simp only[hm]
end Go.Proofs
