/- Laws: the clock period. Conditions: none; lemmas. -/
import Derived.Test.YtoanmdnkgjdinaaG4
import Derived.Test.YtoanmdnkgjdinaaF1
import Derived.Test.YtoanmdnkgjdinaaG6
import Derived.Test.YtoanmdnkgjdinaaC62
set_option maxRecDepth 20000
set_option linter.unusedVariables false
set_option linter.unusedSimpArgs false
namespace Go.Proofs
open Go Go.VL
noncomputable def qkX (c:Circ):Int:=c.roots.foldl (fun m l=>max m ((arrC c).getD (l/2).toNat 0)) 0
theorem qjc (c:Circ) : ∀ (l:List Int) (m:Int),0≤m∧m≤1000+c.gates.length→0≤l.foldl (fun m l=>max m ((arrC c).getD (l/2).toNat 0)) m∧l.foldl (fun m l=>max m ((arrC c).getD (l/2).toNat 0)) m≤1000+c.gates.length:=by
 intro l
 induction l with
 | nil=>exact fun m h=>h
 | cons x l ih=>
  intro m h
  have:=qf8 c (qaP c) c.gates.length (x/2).toNat
  rw[List.foldl_cons]
  refine ih _ ?_
  rw[show(arrC c).getD (x/2).toNat 0=(qaN c (qaP c) c.gates.length).2.getD (x/2).toNat 0 from rfl]
  omega
theorem qqB {c:Circ}{b:Int}(hb:0≤b) (h : ∀ l∈c.roots,3*(arrC c).getD (l/2).toNat 0≤b):3*qkX c≤b:=by
 have key : ∀ (l:List Int) (m:Int),3*m≤b→(∀ x∈l,3*(arrC c).getD (x/2).toNat 0≤b)→3*l.foldl (fun m l=>max m ((arrC c).getD (l/2).toNat 0)) m≤b:=by
  intro l
  induction l with
  | nil=>exact fun m h _=>h
  | cons x l ih=>
   intro m hm hl
   rw[List.foldl_cons]
   have:=hl x (by simp)
   exact ih _ (by omega) fun y hy=>hl y (by simp[hy])
 exact key _ 0 (by omega) h
theorem qoL {c:Circ}{l:Int}:l∈c.roots↔l∈c.outs++c.next:=by
 simp only[Circ.roots,List.mem_append]
 exact Or.comm
theorem Try.c_MappedDepth (c:Circ) (hv:c.Valid):Pure Try.prog 33 [dC c] (dI (qkX c)):=by
 have hcv:=Try.c_CircuitValid c
 rw[decide_eq_true hv] at hcv
 have hb:=Try.c_bestCuts c hv
 have hln:=hv.ln
 have hlo:=hv.lo
 have hlg:=hv.lg
 have hvb:=hv.vars_bd
 have hfb:=hv.first_bd
 have hvv:c.vars=c.first+(c.gates.length:Int):=rfl
 have hrt:=Try.c_roots c (by omega)
 refine qan (E:=Try.env 0) Try.tok rfl 1000 Try.func33 rfl rfl Try.ntmps33 (by simp) fun ok=>?_
 simp only[go_sem,seval,-List.reduceReplicate] at ok
 simp only[go_sem,seval,-List.reduceReplicate,Try.results33]
 repeat' first|assumption|(simp (disch:=first|assumption|omega|(simp;done)|(simp;omega)) only[qaa,qac,List.take_of_length_le,qab,qae,qaf,qag,qah,qak];try simp only[go_sem,seval,-List.reduceReplicate,Try.results33])|(with_reducible refine And.intro ?_ ?_)|(with_reducible intro _)|(refine qai hcv ?_;simp only[go_sem,seval,-List.reduceReplicate,Try.results33])|((with_reducible (show Region.lexB _ _=true));kernel_rfl)|((try rw[qad]);omega)
 refine qar hb [0] (by simp only[go_sem,seval,-List.reduceReplicate]) ?_
 rintro r0 H1 ⟨rfl,rfl⟩
 simp only[go_sem,seval,-List.reduceReplicate,Try.results33]
 repeat' first|assumption|(simp (disch:=first|assumption|omega|(simp;done)|(simp;omega)) only[qaa,qac,List.take_of_length_le,qab,qae,qaf,qag,qah,qak];try simp only[go_sem,seval,-List.reduceReplicate,Try.results33])|(with_reducible refine And.intro ?_ ?_)|(with_reducible intro _)|(refine qai hrt ?_;simp only[go_sem,seval,-List.reduceReplicate,Try.results33])|((with_reducible (show Region.lexB _ _=true));kernel_rfl)|((try rw[qad]);omega)
 have hrl:c.roots.length≤1000:=by simp only[Circ.roots,List.length_append];omega
 have hro:=hv.roots
 have hal:=qqm c
 have hab:=fun v=>qf8 c (qaP c) c.gates.length v
 have had:(qaN c (qaP c) c.gates.length).2=arrC c:=rfl
 rw[had] at hab
 have hdt:=fun i=>qjc c (c.roots.take i) 0 (by omega)
 have hdd:qkX c=c.roots.foldl (fun m l=>max m ((arrC c).getD (l/2).toNat 0)) 0:=rfl
 rw[hdd]
 generalize c.roots=R0 at *
 refine qaH (E:=Try.env 0) Try.tok (σ:=Nat) (fun i=>[(4,.d (dIs (arrC c))),(5,.d (dI ((R0.take i).foldl (fun m l=>max m ((arrC c).getD (l/2).toNat 0)) 0))),(15,.d (dIs R0)),(16,.d (dI R0.length)),(17,.d (dI i))]) (fun _=>[]) (fun i=>i≤R0.length) (fun i=>R0.length-i) [] 1000 1000 ?_ ?_ ?_
 ·simp only[go_sem,seval,-List.reduceReplicate]
 ·simp only[go_sem,seval,-List.reduceReplicate]
  exact⟨0,by omega,rfl,rfl⟩
 ·intro i hi
  have hdi:=hdt i
  by_cases hit:i<R0.length
  ·have hls:=qaC (f:=fun(m l:Int)=>max m ((arrC c).getD (l/2).toNat 0)) (b:=0) (0:Int) hit
   have hxo:=hro _ (qal hit:R0.getD i 0∈R0)
   unfold qbc at hxo
   generalize hx9:R0.getD i 0=x at *
   have hax:=hab (x/2).toNat
   generalize (R0.take i).foldl (fun m l=>max m ((arrC c).getD (l/2).toNat 0)) 0=w at *
   have hr:=qab (y:=2) hxo.1
   simp only[go_sem,seval,-List.reduceReplicate,Try.results33,hx9]
   repeat' first|assumption|(simp (disch:=first|assumption|omega|(simp;done)|(simp;omega)) only[qaa,qac,List.take_of_length_le,qab,qae,qaf,qag,qah,qak];try simp only[go_sem,seval,-List.reduceReplicate,Try.results33,hx9,hr])|(with_reducible refine And.intro ?_ ?_)|(with_reducible intro _)|((with_reducible (show Region.lexB _ _=true));kernel_rfl)|((try rw[qad]);omega)
   exact⟨i+1,by omega,by omega,hls.symm,rfl⟩
  ·obtain rfl:i=R0.length:=by omega
   rw[List.take_length]
   simp only[go_sem,seval,-List.reduceReplicate,Try.results33]
   repeat' first|assumption|(simp (disch:=first|assumption|omega|(simp;done)|(simp;omega)) only[qaa,qac,List.take_of_length_le,qab,qae,qaf,qag,qah,qak];try simp only[go_sem,seval,-List.reduceReplicate,Try.results33])|(with_reducible refine And.intro ?_ ?_)|(with_reducible intro _)|((with_reducible (show Region.lexB _ _=true));kernel_rfl)|((try rw[qad]);omega)
theorem qmV (c:Circ) (place:List Int):qcO c place = -1∨(c.Valid∧0≤qcO c place∧3*qkX c≤qcO c place):=by
 unfold qcO
 cases h:qaI c place [] with
 | none=>exact .inl rfl
 | some rs=>
  obtain⟨hv,-,-,-⟩:=qcN h
  have hro:=qb4 h
  have h0:=(qeY hv (place:=place) hro).1
  exact .inr ⟨hv,h0,qqB h0 fun l hl=>qkW hv hro (qoL.1 hl)⟩
theorem Try.c_FnClockLower (code:List Int):Pure Try.prog 9 [dUs code] (.bool true):=by
 refine qan (E:=Try.env 0) Try.tok rfl 1000 Try.func9 rfl rfl Try.ntmps9 (by simp) fun ok=>?_
 simp only[go_sem,seval,-List.reduceReplicate] at ok
 simp only[go_sem,seval,-List.reduceReplicate,Try.results9]
 repeat' first|assumption|(simp (disch:=first|assumption|omega|(simp;done)|(simp;omega)) only[qaa,qac,List.take_of_length_le,qab,qae,qaf,qag,qah,qak];try simp only[go_sem,seval,-List.reduceReplicate,Try.results9])|(with_reducible refine And.intro ?_ ?_)|(with_reducible intro _)|((with_reducible (show Region.lexB _ _=true));kernel_rfl)|((try rw[qad]);omega)
 refine qdm (Try.c_DrawClockPeriod code) ?_
 rintro x ⟨c,place,rfl,hc,hpl⟩
 have hD:=Try.c_ClockPeriod c place
 have hDs:=Try.c_sClockPeriod c place
 rcases qmV c place with h|⟨hv,h1,h2⟩
 ·rw[h] at hD hDs
  simp only[go_sem,seval,-List.reduceReplicate,Try.results9]
  repeat' first|assumption|(simp (disch:=first|assumption|omega|(simp;done)|(simp;omega)) only[qaa,qac,List.take_of_length_le,qab,qae,qaf,qag,qah,qak];try simp only[go_sem,seval,-List.reduceReplicate,Try.results9])|(with_reducible refine And.intro ?_ ?_)|(with_reducible intro _)|(refine qai hD ?_;simp only[go_sem,seval,-List.reduceReplicate,Try.results9])|(refine qai hDs ?_;simp only[go_sem,seval,-List.reduceReplicate,Try.results9])|(refine qai Try.c_alive ?_;simp only[go_sem,seval,-List.reduceReplicate,Try.results9])|((with_reducible (show Region.lexB _ _=true));kernel_rfl)|((try rw[qad]);omega)
 ·have hm:=Try.c_MappedDepth c hv
  have hm2:=qjc c c.roots 0 (by omega)
  rw[show c.roots.foldl (fun m l=>max m ((arrC c).getD (l/2).toNat 0)) 0=qkX c from rfl] at hm2
  generalize qcO c place=w at *
  simp only[go_sem,seval,-List.reduceReplicate,Try.results9]
  repeat' first|assumption|(simp (disch:=first|assumption|omega|(simp;done)|(simp;omega)) only[qaa,qac,List.take_of_length_le,qab,qae,qaf,qag,qah,qak];try simp only[go_sem,seval,-List.reduceReplicate,Try.results9])|(with_reducible refine And.intro ?_ ?_)|(with_reducible intro _)|(refine qai hD ?_;simp only[go_sem,seval,-List.reduceReplicate,Try.results9])|(refine qai hDs ?_;simp only[go_sem,seval,-List.reduceReplicate,Try.results9])|(refine qai hm ?_;simp only[go_sem,seval,-List.reduceReplicate,Try.results9])|((with_reducible (show Region.lexB _ _=true));kernel_rfl)|((try rw[qad]);omega)
end Go.Proofs
