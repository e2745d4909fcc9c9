/- Contracts, plain definitions and lemmas. Conditions: none; lemmas. -/
import Derived.Test.YtoanmdnkgjdinaaGreatC61
import Derived.Test.YtoanmdnkgjdinaaGreatC7
import Derived.Test.YtoanmdnkgjdinaaGreatC70
import Derived.Test.YtoanmdnkgjdinaaGreatC60
set_option maxRecDepth 20000
set_option linter.unusedVariables false
set_option linter.unusedSimpArgs false
namespace Go.Proofs
open Go Go.VL
abbrev Kn:=List (Int×Bool)
def kn (m:Kn) (k:Int):Option Bool:=(m.find? fun e=>decide (e.1=k)).map fun e=>e.2
def knUp:Kn→Int→Bool→Kn
 | [],k,b=>[(k,b)]
 | e::r,k,b=>if e.1=k then(k,b)::r else e::knUp r k b
theorem qk3 (k:Int) (b:Bool) (j:Int) : ∀ m,kn (knUp m k b) j=if j=k then some b else kn m j
 | []=>by by_cases h:j=k <;> simp[kn,knUp,h,eq_comm]
 | e::r=>by
  have ih:=qk3 k b j r
  unfold knUp
  by_cases h:e.1=k
  ·rw[if_pos h]
   by_cases h2:j=k
   ·simp[kn,h2]
   ·have h3 : ¬ e.1=j:=fun h4=>h2 (by rw[←h4,h])
    have h4 : ¬ k=j:=fun h5=>h2 h5.symm
    simp[kn,h2,h3,h4]
  ·rw[if_neg h]
   by_cases h3:e.1=j
   ·have h2 : ¬ j=k:=fun h4=>h (by rw[h3,h4])
    simp[kn,h2,h3]
   ·unfold kn at ih ⊢
    simp only[List.find?_cons,decide_eq_false h3,ih]
def knE (m:Kn):List (D×D):=m.map fun e=>(dI e.1,D.bool e.2)
theorem qjr (k:Int) : ∀ m,qcW (knE m) (dI k)=(kn m k).map D.bool
 | []=>rfl
 | e::r=>by
  have ih:=qjr k r
  show qcW ((dI e.1,D.bool e.2)::knE r) _=_
  rw[qgi,qeP]
  by_cases h:e.1=k
  ·subst h;simp[kn]
  ·rw[decide_eq_false (fun h2=>h h2.symm)]
   simp only[Bool.false_eq_true,if_false,ih]
   simp[kn,h]
theorem qjs (k:Int) (b:Bool) : ∀ m,updD (knE m) (dI k) (D.bool b)=knE (knUp m k b)
 | []=>rfl
 | e::r=>by
  have ih:=qjs k b r
  show updD ((dI e.1,D.bool e.2)::knE r) _ _=_
  rw[updD,qeP]
  by_cases h:e.1=k
  ·subst h;simp[knUp,knE]
  ·rw[decide_eq_false (fun h2=>h h2.symm)]
   simp only[Bool.false_eq_true,if_false,ih]
   simp[knUp,knE,h]
theorem qg1 (m:Kn):qbl (.int .i64) (knE m):=by
 rw[qdX]
 intro e he
 obtain⟨x,_,rfl⟩:=List.mem_map.1 he
 exact rfl
structure KnOk (c:Circ) (leaves:List Int) (x:Nat) (m:Kn):Prop where
 val : ∀ k b,kn m k=some b→b=qcv c leaves x k
 leaf : ∀ z∈leaves,kn m z≠none
theorem KnOk.up {c:Circ}{leaves:List Int}{x:Nat}{m:Kn}(h:KnOk c leaves x m) (k:Int):KnOk c leaves x (knUp m k (qcv c leaves x k)):=by
 refine⟨fun j b hj=>?_,fun z hz=>?_⟩
 ·rw[qk3] at hj
  split at hj
  ·rename_i e;subst e;simpa using hj.symm
  ·exact h.val j b hj
 ·rw[qk3];split
  ·simp
  ·exact h.leaf z hz
theorem qqY {c:Circ}{leaves:List Int}{x:Nat}{v:Int}{m:Kn}{X:Bool}{T:List R}(hm:KnOk c leaves x m) (hX:X=qcv c leaves x v) :
  endI 1 (fun r H'=>∃ m',KnOk c leaves x m'∧r=I.d (dB (qcv c leaves x v))∧H'=[R.map (knE m')]) (I.d (D.bool X)) (.map (updD (knE m) (dI v) (D.bool X))::T):=by
 subst hX
 rw[qjs]
 refine qb9 (r0:=.d (dB (qcv c leaves x v))) (H1:=[.map (knE (knUp m v (qcv c leaves x v)))]) ?_ ⟨_,hm.up v,rfl,rfl⟩
 simp only[go_sem,seval]
set_option maxHeartbeats 4000000 in
theorem Tryz.c_coneValue (c:Circ) (hc:c.Valid) (leaves:List Int) (x:Nat) : ∀ (n:Nat) (v:Int) (m:Kn),v.toNat<n→0≤v→v<c.vars→KnOk c leaves x m→
  ICall Tryz.prog 99 [.d (pC c),.d (dI v),.map 0] [.map (knE m)] (fun r H'=>∃ m',KnOk c leaves x m'∧r=.d (dB (qcv c leaves x v))∧H'=[.map (knE m')]):=by
 have hf:=hc.first_bd
 have hi0:=hc.i0
 have hi1:=hc.i1
 have hvv:=hc.vars_bd
 have hfst:=Tryz.c_firstGate c (by omega)
 intro n
 induction n with
 | zero=>intro v m h;omega
 | succ n ih=>
  intro v m hvn hv0 hv hm
  have ek:=qjr v m
  have hks:=qg1 m
  have hnl:kn m v=none→v∉leaves:=fun h hv=>hm.leaf v hv h
  cases hkn:kn m v with
  | some b=>
   rw[hkn] at ek
   refine qaJ (E:=Tryz.env 1) Tryz.tok rfl 1000 Tryz.func99 rfl rfl Tryz.ntmps99 (by simp) ?_
   simp only[go_sem,seval,Tryz.results99,ek,Option.map_some]
   repeat' first|assumption|(simp (disch:=first|assumption|omega|(simp;done)|(simp;omega)) only[qaa,qac,List.take_of_length_le,qab,qae,qaf];try simp only[go_sem,seval,Tryz.results99,ek,Option.map_some])|(with_reducible refine And.intro ?_ ?_)|(with_reducible intro _)|(refine qai hfst ?_;simp only[go_sem,seval,Tryz.results99,ek,Option.map_some])|(refine qaR (fun _=>hfst) ?_;simp only[go_sem,seval,Tryz.results99,ek,Option.map_some])|((try rw[qad]);omega)
   refine qb9 (r0:=.d (dB (qcv c leaves x v))) (H1:=[.map (knE m)]) ?_ ⟨m,hm,rfl,rfl⟩
   rw[←hm.val v b hkn]
   simp only[go_sem,seval]
  | none=>
   rw[hkn] at ek
   have hvl:=hnl hkn
   by_cases hlow:v<c.first
   ·have hval:qcv c leaves x v=false:=by rw[qfU hv0 hlow,qeE,if_neg hvl]
    refine qaJ (E:=Tryz.env 1) Tryz.tok rfl 1000 Tryz.func99 rfl rfl Tryz.ntmps99 (by simp) ?_
    simp only[go_sem,seval,Tryz.results99,ek,Option.map_none]
    repeat' first|assumption|(simp (disch:=first|assumption|omega|(simp;done)|(simp;omega)) only[qaa,qac,List.take_of_length_le,qab,qae,qaf];try simp only[go_sem,seval,Tryz.results99,ek,Option.map_none])|(with_reducible refine And.intro ?_ ?_)|(with_reducible intro _)|(refine qai hfst ?_;simp only[go_sem,seval,Tryz.results99,ek,Option.map_none])|(refine qaR (fun _=>hfst) ?_;simp only[go_sem,seval,Tryz.results99,ek,Option.map_none])|((try rw[qad]);omega)
    refine qb9 (r0:=.d (dB (qcv c leaves x v))) (H1:=[.map (knE m)]) ?_ ⟨m,hm,rfl,rfl⟩
    rw[hval]
    simp only[go_sem,seval]
   ·obtain⟨i,rfl⟩ : ∃ i:Nat,v=c.first+(i:Int):=⟨(v-c.first).toNat,by omega⟩
    have hi:i<c.gates.length:=by unfold Circ.vars at hv;omega
    obtain⟨g1,g2⟩:=hc.g i hi
    have hval:=qgq hc (leaves:=leaves) (x:=x) hi
    rw[qeE,if_neg hvl] at hval
    have ei:(c.first+(i:Int)-c.first).toNat=i:=by omega
    have ea:qbA c i=(c.gates.getD i (0,0)).1:=rfl
    have eb:qbB c i=(c.gates.getD i (0,0)).2:=rfl
    rw[ea,eb] at hval
    unfold qbe at g1 g2
    have iha:=fun m hm=>ih ((c.gates.getD i (0,0)).1/2) m (by omega) (by omega) (by unfold Circ.vars;omega) hm
    have ihb:=fun m hm=>ih ((c.gates.getD i (0,0)).2/2) m (by omega) (by omega) (by unfold Circ.vars;omega) hm
    have hg : ∀ z,(c.gates.map fun x=>dP x).getD i z=dP (c.gates.getD i (0,0)):=fun z=>getD_lt _ _ _ _ _ hi
    generalize c.gates.getD i (0,0)=gg at *
    obtain⟨ga,gb⟩:=gg
    simp only at hval g1 g2 iha ihb
    have ha2:((ga.toNat &&& 1:Nat):Int)=ga%2:=by rw[Nat.and_one_is_mod];omega
    have hb2:((gb.toNat &&& 1:Nat):Int)=gb%2:=by rw[Nat.and_one_is_mod];omega
    have cva : ∀ {m:Kn}{T:List R}{K:I→List R→Prop},KnOk c leaves x m→(∀ m',KnOk c leaves x m'→K (.d (dB (qcv c leaves x (ga/2)))) (.map (knE m')::T))→
      ICall Tryz.prog 99 [.d (pC c),.d (dI (ga/2)),.map 0] (.map (knE m)::T) K:=fun {m T K} hm hk=>by
     refine qax (iha m hm) [0] (by simp only[go_sem,seval]) ?_
     rintro r0 H1 ⟨m',hm',rfl,rfl⟩
     have:=hk m' hm'
     simp only[go_sem,seval]
     simpa using this
    have cvb : ∀ {m:Kn}{T:List R}{K:I→List R→Prop},KnOk c leaves x m→(∀ m',KnOk c leaves x m'→K (.d (dB (qcv c leaves x (gb/2)))) (.map (knE m')::T))→
      ICall Tryz.prog 99 [.d (pC c),.d (dI (gb/2)),.map 0] (.map (knE m)::T) K:=fun {m T K} hm hk=>by
     refine qax (ihb m hm) [0] (by simp only[go_sem,seval]) ?_
     rintro r0 H1 ⟨m',hm',rfl,rfl⟩
     have:=hk m' hm'
     simp only[go_sem,seval]
     simpa using this
    refine qaJ (E:=Tryz.env 1) Tryz.tok rfl 1000 Tryz.func99 rfl rfl Tryz.ntmps99 (by simp) ?_
    simp only[go_sem,seval,Tryz.results99,ek,Option.map_none,ei,hg]
    repeat' first|assumption|(simp (disch:=first|assumption|omega|(simp;done)|(simp;omega)) only[qaa,qac,List.take_of_length_le,qab,qae,qaf];try simp only[go_sem,seval,Tryz.results99,ek,Option.map_none,ei,hg])|(with_reducible refine And.intro ?_ ?_)|(with_reducible intro _)|(refine qai hfst ?_;simp only[go_sem,seval,Tryz.results99,ek,Option.map_none,ei,hg])|(refine qaR (fun _=>hfst) ?_;simp only[go_sem,seval,Tryz.results99,ek,Option.map_none,ei,hg])|((try rw[qad]);omega)
    refine qaT (E:=Tryz.env 1) Tryz.tok Tryz.follows 1000 1000 [11] (.fst 0 (.fst 1 (.fst 2 (.fst 4 (.fst 5 (.fst 3 (.two 6 (.fst 7 (.fst 8 (.two 9 (.one 10 (.one 11 (.done))) 10 (.one 9 (.one 11 (.done)))))) 10 (.one 6 (.fst 7 (.fst 8 (.one 9 (.one 11 (.done))))))))))))) (by kernel_rfl) ?_
    simp only[go_sem,seval,Tryz.results99,ek,Option.map_none,ei,hg]
    repeat' first|assumption|(simp (disch:=first|assumption|omega|(simp;done)|(simp;omega)) only[qaa,qac,List.take_of_length_le,qab,qae,qaf];try simp only[go_sem,seval,Tryz.results99,ek,Option.map_none,ei,hg])|(with_reducible refine And.intro ?_ ?_)|(with_reducible intro _)|(refine qai hfst ?_;simp only[go_sem,seval,Tryz.results99,ek,Option.map_none,ei,hg])|(refine qaR (fun _=>hfst) ?_;simp only[go_sem,seval,Tryz.results99,ek,Option.map_none,ei,hg])|((try rw[qad]);omega)
    all_goals (
     refine qaT (E:=Tryz.env 1) Tryz.tok Tryz.follows 1000 1000 [5,17] (.fst 0 (.fst 1 (.fst 4 (.fst 6 (.fst 2 (.fst 3 (.two 5 (.one 7 (.fst 8 (.fst 9 (.fst 10 (.fst 11 (.fst 12 (.fst 13 (.fst 16 (.fst 18 (.two 14 (.fst 15 (.two 17 (.one 19 (.fst 20 (.fst 21 (.fst 22 (.fst 23 (.fst 24 (.done))))))) 19 (.fst 20 (.fst 21 (.one 17 (.fst 22 (.fst 23 (.fst 24 (.done))))))))) 19 (.fst 20 (.fst 21 (.one 14 (.fst 15 (.one 17 (.fst 22 (.fst 23 (.fst 24 (.done))))))))))))))))))) 7 (.fst 8 (.fst 9 (.one 5 (.fst 10 (.fst 11 (.fst 12 (.fst 13 (.fst 16 (.fst 18 (.two 14 (.fst 15 (.two 17 (.one 19 (.fst 20 (.fst 21 (.fst 22 (.fst 23 (.fst 24 (.done))))))) 19 (.fst 20 (.fst 21 (.one 17 (.fst 22 (.fst 23 (.fst 24 (.done))))))))) 19 (.fst 20 (.fst 21 (.one 14 (.fst 15 (.one 17 (.fst 22 (.fst 23 (.fst 24 (.done)))))))))))))))))))))))))) (by kernel_rfl) ?_
     simp only[go_sem,seval,Tryz.results99,ha2,hb2]
     repeat' first|assumption|(simp (disch:=first|assumption|omega|(simp;done)|(simp;omega)) only[qaa,qac,List.take_of_length_le,qab,qae,qaf];try simp only[go_sem,seval,Tryz.results99,ha2,hb2])|(with_reducible refine And.intro ?_ ?_)|(with_reducible intro _)|(refine cva (by assumption) ?_;simp only[go_sem,seval,Tryz.results99,ha2,hb2])|(refine cvb (by assumption) ?_;simp only[go_sem,seval,Tryz.results99,ha2,hb2])|(refine @Exists.intro I _ (I.d (D.bool false)) ?_;simp only[go_sem,seval,Tryz.results99,ha2,hb2])|((try rw[qad]);omega))
    all_goals first
     | exact qg1 _
     | exact qqY (by assumption) hval.symm
     | exact qqY (by assumption) (by rw[hval];simp_all)
end Go.Proofs

set_option maxRecDepth 20000
set_option linter.unusedVariables false
set_option linter.unusedSimpArgs false
namespace Go.Proofs
open Go Go.VL
theorem shr_and (x k:Nat):((((x:Int)/2 ^ k).toNat &&& 1:Nat):Int)=if x.testBit k then 1 else 0:=by
 have e:((x:Int)/2 ^ k).toNat=x/2 ^ k:=by
  have:((x:Int)/2 ^ k)=((x/2 ^ k:Nat):Int):=by simp
  rw[this,Int.toNat_natCast]
 rw[e,Nat.and_one_is_mod,Nat.testBit_eq_decide_div_mod_eq]
 by_cases h:x/2 ^ k%2=1
 ·simp[h]
 ·have h2:x/2 ^ k%2=0:=by omega
  simp[h2]
structure KnTo (c:Circ) (leaves:List Int) (x:Nat) (n:Nat) (m:Kn):Prop where
 val : ∀ k b,kn m k=some b→b=qcv c leaves x k
 leaf : ∀ j,j<n→kn m (leaves.getD j 0)≠none
theorem KnTo.zero {c:Circ}{leaves:List Int}{x:Nat}(h0:qcv c leaves x 0=false):KnTo c leaves x 0 [(0,false)]:=by
 refine⟨fun k b hk=>?_,fun j hj=>by omega⟩
 by_cases h:(0:Int)=k
 ·subst h
  cases b with
  | false=>exact h0.symm
  | true=>simp[kn] at hk
 ·simp[kn,h] at hk
theorem KnTo.up {c:Circ}{leaves:List Int}{x n:Nat}{m:Kn}(h:KnTo c leaves x n m) {b:Bool}(hb:b=qcv c leaves x (leaves.getD n 0)):KnTo c leaves x (n+1) (knUp m (leaves.getD n 0) b):=by
 refine⟨fun k b' hk=>?_,fun j hj=>?_⟩
 ·rw[qk3] at hk
  split at hk
  ·rename_i e
   rw[e,←hb]
   simpa using hk.symm
  ·exact h.val k b' hk
 ·rw[qk3]
  split
  ·simp
  ·rename_i hne
   by_cases hjn:j=n
   ·subst hjn;exact absurd rfl hne
   ·exact h.leaf j (by omega)
theorem KnTo.ok {c:Circ}{leaves:List Int}{x:Nat}{m:Kn}(h:KnTo c leaves x leaves.length m):KnOk c leaves x m:=by
 refine⟨h.val,fun z hz=>?_⟩
 obtain⟨j,hj,rfl⟩:=qbC (0:Int) hz
 exact h.leaf j hj
theorem Tryz.c_coneTable (c:Circ) (hc:c.Valid) (v:Int) (hv0:0≤v) (hv:v<c.vars) (leaves:List Int) (hl:leaves.length≤3) (ha:asc leaves) (hz : ∀ z∈leaves,1≤z∧z<c.vars) :
  Pure Tryz.prog 81 [pC c,dI v,dIs leaves] (dI (qfV c v leaves)):=by
 have hvv:=hc.vars_bd
 refine qam (E:=Tryz.env 0) Tryz.tok rfl 1000 Tryz.func81 rfl rfl Tryz.ntmps81 (by simp) fun ok=>?_
 simp only[go_sem,seval] at ok
 simp only[go_sem,seval,Tryz.results81]
 repeat' first|assumption|(simp (disch:=first|assumption|omega|(simp;done)|(simp;omega)) only[qaa,qac,List.take_of_length_le,qab,qae,qaf];try simp only[go_sem,seval,Tryz.results81])|(with_reducible refine And.intro ?_ ?_)|(with_reducible intro _)|((try rw[qad]);omega)
 ·rw[qad]
  match leaves.length,hl with
  | 0,_|1,_|2,_|3,_=>decide
 have hN:(2:Int) ^ leaves.length=((2 ^ leaves.length:Nat):Int):=by simp
 have hN8:2 ^ leaves.length≤8:=by
  match leaves.length,hl with
  | 0,_|1,_|2,_|3,_=>decide
 rw[hN]
 refine qaB (E:=Tryz.env 0) Tryz.tok (σ:=Nat) (fun x=>[(7,.d (dI (qdN c v leaves x:Nat))),(15,.d (dI x)),(14,.d (dI (2 ^ leaves.length:Nat))),(0,.d (pC c)),(1,.d (dI v)),(2,.d (dIs leaves))]) (fun _=>[])
  (fun x=>x≤2 ^ leaves.length) (fun x=>2 ^ leaves.length-x) [] 1000 1000 ?_ ?_ ?_
 ·simp only[go_sem,seval]
 ·simp only[go_sem,seval]
  exact⟨0,Nat.zero_le _,rfl,rfl⟩
 ·intro x hx
  have htl:=qhN c v leaves x
  by_cases hlt:x<2 ^ leaves.length
  ·simp only[go_sem,seval,Tryz.results81]
   repeat' first|assumption|(simp (disch:=first|assumption|omega|(simp;done)|(simp;omega)) only[qaa,qac,List.take_of_length_le,qab,qae,qaf];try simp only[go_sem,seval,Tryz.results81])|(with_reducible refine And.intro ?_ ?_)|(with_reducible intro _)|((try rw[qad]);omega)
   have hc0:qcv c leaves x 0=false:=by
    rw[qfU (Int.le_refl 0) (by have:=hc.first_bd;omega),qeE,if_neg (fun h=>by have:=(hz 0 h).1;omega)]
   refine qaB (E:=Tryz.env 0) Tryz.tok (σ:=Nat×Kn) (fun s=>[(9,.map 0),(22,.d (dI s.1)),(20,.d (dIs leaves)),(21,.d (dI leaves.length)),(8,.d (dI x)),(7,.d (dI (qdN c v leaves x:Nat))),(15,.d (dI x)),(14,.d (dI (2 ^ leaves.length:Nat))),(0,.d (pC c)),(1,.d (dI v)),(2,.d (dIs leaves))]) (fun s=>[.map (knE s.2)])
    (fun s=>s.1≤leaves.length∧KnTo c leaves x s.1 s.2) (fun s=>leaves.length-s.1) [] 1000 1000 ?_ ?_ ?_
   ·simp only[go_sem,seval]
   ·simp only[go_sem,seval]
    exact⟨(0,[(0,false)]),⟨Nat.zero_le _,KnTo.zero hc0⟩,rfl,rfl⟩
   ·rintro⟨k,m⟩ ⟨hk,hm⟩
    simp only at hk hm
    have hks:=qg1 m
    by_cases hlk:k<leaves.length
    ·have hzk:=hz _ (qak hlk:leaves.getD k 0∈leaves)
     have hid:leaves.idxOf (leaves.getD k 0)=k:=by
      refine qfp hlk rfl fun j hj=>?_
      have h1:leaves.getD j 0=leaves[j]:=by simp[List.getD,show j<leaves.length by omega]
      have h2:leaves.getD k 0=leaves[k]:=by simp[List.getD,hlk]
      rw[h1,h2]
      have:=List.pairwise_iff_getElem.1 ha j k (by omega) hlk hj
      omega
     have hcl:=qiI hc (leaves:=leaves) (x:=x) (by omega) hzk.2 (qak hlk)
     rw[hid] at hcl
     have hsa:=shr_and x k
     have eu:=qjs (leaves.getD k 0) (x.testBit k) m
     have hup:=hm.up (b:=x.testBit k) hcl.symm
     generalize hz9:leaves.getD k 0=z at *
     simp only[go_sem,seval,Tryz.results81,hz9]
     repeat' first|assumption|(simp (disch:=first|assumption|omega|(simp;done)|(simp;omega)) only[qaa,qac,List.take_of_length_le,qab,qae,qaf];try simp only[go_sem,seval,Tryz.results81,hz9])|(with_reducible refine And.intro ?_ ?_)|(with_reducible intro _)|((try rw[qad]);omega)
     ·exact Int.ediv_nonneg (by omega) (Int.pow_nonneg (by decide))
     ·refine⟨(k+1,knUp m z (x.testBit k)),⟨by omega,hup⟩,by omega,rfl,?_⟩
      have hb:decide (((((x:Int)/2 ^ k).toNat &&& 1:Nat):Int)=1)=x.testBit k:=by
       rw[hsa];cases x.testBit k <;> simp
      rw[hb,eu]
    ·obtain rfl:k=leaves.length:=by omega
     have hok:=hm.ok
     simp only[go_sem,seval,Tryz.results81]
     repeat' first|assumption|(simp (disch:=first|assumption|omega|(simp;done)|(simp;omega)) only[qaa,qac,List.take_of_length_le,qab,qae,qaf];try simp only[go_sem,seval,Tryz.results81])|(with_reducible refine And.intro ?_ ?_)|(with_reducible intro _)|((try rw[qad]);omega)
     refine qax (Tryz.c_coneValue c hc leaves x (v.toNat+1) v m (by omega) hv0 hv hok) [0] (by simp only[go_sem,seval]) ?_
     rintro r0 H1 ⟨m2,hm2,rfl,rfl⟩
     simp only[go_sem,seval]
     repeat' first|assumption|(simp (disch:=first|assumption|omega|(simp;done)|(simp;omega)) only[qaa,qac,List.take_of_length_le,qab,qae,qaf];try simp only[go_sem,seval,Tryz.results81])|(with_reducible refine And.intro ?_ ?_)|(with_reducible intro _)|((try rw[qad]);omega)
     ·rw[qad]
      have h2:2 ^ x≤2 ^ 8:=Nat.pow_le_pow_right (by decide) (by omega)
      have hc2:(2:Int) ^ x=((2 ^ x:Nat):Int):=by simp
      rw[hc2]
      omega
     ·exact Int.pow_nonneg (by decide)
     ·have hp2:(2:Int) ^ x=((2 ^ x:Nat):Int):=by simp
      refine⟨x+1,hlt,by omega,?_,rfl⟩
      rw[hp2,Int.toNat_natCast,qdN]
      rw[if_pos (by assumption)]
      have:=Nat.two_pow_add_eq_or_of_lt htl 1
      simp only[Nat.mul_one] at this
      rw[Nat.or_comm,←this,Nat.add_comm]
     ·refine⟨x+1,hlt,by omega,?_,rfl⟩
      rw[qdN,if_neg (by simp_all)]
      rfl
  ·obtain rfl:x=2 ^ leaves.length:=by omega
   simp only[go_sem,seval,Tryz.results81]
   repeat' first|assumption|(simp (disch:=first|assumption|omega|(simp;done)|(simp;omega)) only[qaa,qac,List.take_of_length_le,qab,qae,qaf];try simp only[go_sem,seval,Tryz.results81])|(with_reducible refine And.intro ?_ ?_)|(with_reducible intro _)|((try rw[qad]);omega)
   rfl
end Go.Proofs

set_option maxRecDepth 20000
set_option linter.unusedVariables false
set_option linter.unusedSimpArgs false
namespace Go.Proofs
open Go Go.VL
def qbS:List Int→List Int
 | []=>[]
 | [x]=>[x]
 | x::y::r=>if x=y then qbS (y::r) else x::qbS (y::r)
theorem qgt {z:Int} : ∀ (l:List Int),z∈qbS l↔z∈l
 | []=>Iff.rfl
 | [x]=>Iff.rfl
 | x::y::r=>by
  have ih:=qgt (z:=z) (y::r)
  by_cases hxy:x=y
  ·subst hxy
   rw[qbS,if_pos rfl,ih]
   simp
  ·rw[qbS,if_neg hxy,List.mem_cons,ih,List.mem_cons (a:=z) (b:=x)]
theorem qiN : ∀ (l:List Int),l.Pairwise (·≤·)→asc (qbS l)
 | [],_=>List.Pairwise.nil
 | [x],_=>by show List.Pairwise _ [x];simp
 | x::y::r,h=>by
  have h2:=(List.pairwise_cons.1 h).2
  have ih:=qiN (y::r) h2
  by_cases hxy:x=y
  ·rw[qbS,if_pos hxy];exact ih
  ·rw[qbS,if_neg hxy]
   refine List.pairwise_cons.2 ⟨fun z hz=>?_,ih⟩
   rw[qgt] at hz
   have hxz:=(List.pairwise_cons.1 h).1 z hz
   have hxy':=(List.pairwise_cons.1 h).1 y (List.mem_cons_self ..)
   rcases List.mem_cons.1 hz with rfl|hz'
   ·omega
   ·have:=(List.pairwise_cons.1 h2).1 z hz'
    omega
theorem join_eq {a b l:List Int}(ha:asc a) (hb:asc b) (hp:l.Perm (a++b)) (hs:l.Pairwise (·≤·)):qbS l=qaI a b:=by
 refine qnJ (qiN l hs) (qdJ ha hb) fun z=>?_
 rw[qgt,hp.mem_iff,List.mem_append,qbJ]
def qdS (l:List Int) (n:Nat):List Int:=qbS (l.take n)
theorem qhV (x:Int) : ∀ (l:List Int),l≠[]→qbS (l ++ [x])=if l.getLast?=some x then qbS l else qbS l ++ [x]
 | [],h=>absurd rfl h
 | [y],_=>by
  by_cases h:y=x
  ·subst h;simp[qbS]
  ·simp[qbS,h]
 | y::z::r,_=>by
  have ih:=qhV x (z::r) (by simp)
  have e:(y::z::r).getLast?=(z::r).getLast?:=by simp[List.getLast?_cons_cons]
  rw[e]
  show qbS (y::z::(r ++ [x]))=_
  rw[qbS,qbS]
  have e2:z::(r ++ [x])=(z::r) ++ [x]:=rfl
  rw[e2,ih]
  by_cases hyz:y=z
  ·rw[if_pos hyz,if_pos hyz]
  ·rw[if_neg hyz,if_neg hyz]
   by_cases h:(z::r).getLast?=some x
   ·rw[if_pos h,if_pos h]
   ·rw[if_neg h,if_neg h];rfl
theorem qeb {l:List Int}{n:Nat}(h0:0<n) (h:n<l.length):qdS l (n+1)=if l.getD n 0=l.getD (n-1) 0 then qdS l n else qdS l n ++ [l.getD n 0]:=by
 unfold qdS
 have hg:l.getD n 0=l[n]:=by simp[List.getD,h]
 have hg1:l.getD (n-1) 0=l[n-1]:=by simp[List.getD,show n-1<l.length by omega]
 have hne:l.take n≠[]:=by
  intro e
  have:=congrArg List.length e
  rw[List.length_take,List.length_nil] at this
  omega
 have hl:(l.take n).getLast?=some l[n-1]:=by
  rw[List.getLast?_eq_getElem?,List.length_take,show min n l.length=n by omega,List.getElem?_take,if_pos (by omega)]
  simp[show n-1<l.length by omega]
 rw[List.take_succ_eq_append_getElem h,qhV _ _ hne,hl,hg,hg1]
 by_cases e:l[n]=l[n-1]
 ·rw[if_pos (by rw[e]),if_pos e]
 ·rw[if_neg (by simpa using fun h=>e h.symm),if_neg e]
theorem qmi {l:List Int}(h:0<l.length):qdS l 1=[l.getD 0 0]:=by
 match l,h with
 | x::r,_=>rfl
theorem qgu (l:List Int):qdS l l.length=qbS l:=by unfold qdS;rw[List.take_length]
structure InsOk (l m:List Int) (i j:Nat):Prop where
 perm:m.Perm l
 low : ∀ p q,p<q→q≤i→p≠j→q≠j→m.getD p 0≤m.getD q 0
 up : ∀ q,j<q→q≤i→m.getD j 0≤m.getD q 0
def qkk (m:List Int) (j:Nat):List Int:=(m.set j (m.getD (j-1) 0)).set (j-1) (m.getD j 0)
theorem qhW {m:List Int}{a p:Nat}{x:Int}(h:a<m.length):(m.set a x).getD p 0=if p=a then x else m.getD p 0:=by
 by_cases e:p=a
 ·subst e;rw[if_pos rfl];simp[List.getD,h]
 ·rw[if_neg e];simp[List.getD,List.getElem?_set,Ne.symm e]
theorem qnT {m:List Int}{j:Nat}(h:j<m.length) (h0:0<j) (p:Nat):(qkk m j).getD p 0=if p=j then m.getD (j-1) 0 else if p=j-1 then m.getD j 0 else m.getD p 0:=by
 unfold qkk
 rw[qhW (by rw[List.length_set];omega),qhW h]
 by_cases e1:p=j-1
 ·rw[if_pos e1,if_neg (by omega),if_pos e1]
 ·rw[if_neg e1]
  by_cases e2:p=j
  ·rw[if_pos e2,if_pos e2]
  ·rw[if_neg e2,if_neg e2,if_neg e1]
theorem qiO : ∀ {m:List Int}{j:Nat},j<m.length→0<j→(qkk m j).Perm m
 | x::y::r,1,_,_=>by
  show(y::x::r).Perm (x::y::r)
  exact List.Perm.swap x y r
 | x::r,j+2,h,_=>by
  have ih:=qiO (m:=r) (j:=j+1) (by simp at h;omega) (by omega)
  have e:qkk (x::r) (j+2)=x::qkk r (j+1):=by simp[qkk,List.set]
  rw[e]
  exact ih.cons x
theorem InsOk.swap {l m:List Int}{i j:Nat}(h:InsOk l m i j) (hi:i<m.length) (hj:j≤i) (h0:0<j) (hlt:m.getD j 0<m.getD (j-1) 0):InsOk l (qkk m j) i (j-1):=by
 have g:=qnT (m:=m) (j:=j) (by omega) h0
 refine⟨(qiO (by omega) h0).trans h.perm,fun p q hpq hq hp1 hq1=>?_,fun q hq hqi=>?_⟩
 ·rw[g,g]
  rw[if_neg hp1,if_neg hq1] at *
  by_cases e1:p=j
  ·rw[if_pos e1,if_neg (by omega)]
   have:=h.low (j-1) q (by omega) hq (by omega) (by omega)
   exact this
  ·rw[if_neg e1]
   by_cases e2:q=j
   ·rw[if_pos e2]
    exact h.low p (j-1) (by omega) (by omega) e1 (by omega)
   ·rw[if_neg e2]
    exact h.low p q hpq hq e1 e2
 ·rw[g,g,if_neg (by omega),if_pos rfl]
  by_cases e1:q=j
  ·rw[if_pos e1];omega
  ·rw[if_neg e1,if_neg (by omega)]
   exact h.up q (by omega) hqi
def SortTo (l m:List Int) (i:Nat):Prop:=m.Perm l∧∀ p q,p<q→q<i→m.getD p 0≤m.getD q 0
theorem InsOk.start {l m:List Int}{i:Nat}(h:SortTo l m i):InsOk l m i i:=
 ⟨h.1,fun p q hpq hq _ hq1=>h.2 p q hpq (by omega),fun q hq hqi=>by omega⟩
theorem InsOk.done {l m:List Int}{i j:Nat}(h:InsOk l m i j) (hj:j≤i) (hd:j=0∨m.getD (j-1) 0≤m.getD j 0):SortTo l m (i+1):=by
 refine⟨h.perm,fun p q hpq hq=>?_⟩
 by_cases e1:p=j
 ·subst e1;exact h.up q hpq (by omega)
 ·by_cases e2:q=j
  ·subst e2
   rcases hd with hd|hd
   ·omega
   ·by_cases e3:p=q-1
    ·rw[e3];exact hd
    ·exact Int.le_trans (h.low p (q-1) (by omega) (by omega) e1 (by omega)) hd
  ·exact h.low p q hpq (by omega) e1 e2
theorem SortTo.pairwise {l m:List Int}(h:SortTo l m m.length):m.Pairwise (·≤·):=by
 rw[List.pairwise_iff_getElem]
 intro i j hi hj hij
 have:=h.2 i j hij hj
 simpa [List.getD,hi,hj] using this
end Go.Proofs
