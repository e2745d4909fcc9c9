/- Contracts, plain definitions and lemmas. Conditions: none; lemmas. -/
import Derived.Test.YtoanmdnkgjdinaaC61
import Derived.Test.YtoanmdnkgjdinaaC6
set_option maxRecDepth 20000
set_option linter.unusedVariables false
set_option linter.unusedSimpArgs false
namespace Go.Proofs
open Go Go.VL
abbrev Kn:=List (Int×Bool)
def kn (m:Kn) (k:Int):Option Bool:=(m.find? fun e=>decide (e.1=k)).map fun e=>e.2
def knUp:Kn→Int→Bool→Kn
 | [],k,b=>[(k,b)]
 | e::r,k,b=>if e.1=k then(k,b)::r else e::knUp r k b
theorem qkK (k:Int) (b:Bool) (j:Int) : ∀ m,kn (knUp m k b) j=if j=k then some b else kn m j
 | []=>by by_cases h:j=k <;> simp[kn,knUp,h,eq_comm]
 | e::r=>by
  have ih:=qkK k b j r
  unfold knUp
  by_cases h:e.1=k
  ·rw[if_pos h]
   by_cases h2:j=k
   ·simp[kn,h2]
   ·have h3 : ¬ e.1=j:=fun h4=>h2 (by rw[←h4,h])
    have h4 : ¬ k=j:=fun h5=>h2 h5.symm
    simp[kn,h2,h3,h4]
  ·rw[if_neg h]
   by_cases h3:e.1=j
   ·have h2 : ¬ j=k:=fun h4=>h (by rw[h3,h4])
    simp[kn,h2,h3]
   ·unfold kn at ih ⊢
    simp only[List.find?_cons,decide_eq_false h3,ih]
def knE (m:Kn):List (D×D):=m.map fun e=>(dI e.1,D.bool e.2)
theorem qjc (k:Int) : ∀ m,qdl (knE m) (dI k)=(kn m k).map D.bool
 | []=>rfl
 | e::r=>by
  have ih:=qjc k r
  show qdl ((dI e.1,D.bool e.2)::knE r) _=_
  rw[qij,qeI]
  by_cases h:e.1=k
  ·subst h;simp[kn]
  ·rw[decide_eq_false (fun h2=>h h2.symm)]
   simp only[Bool.false_eq_true,if_false,ih]
   simp[kn,h]
theorem qjd (k:Int) (b:Bool) : ∀ m,updD (knE m) (dI k) (D.bool b)=knE (knUp m k b)
 | []=>rfl
 | e::r=>by
  have ih:=qjd k b r
  show updD ((dI e.1,D.bool e.2)::knE r) _ _=_
  rw[updD,qeI]
  by_cases h:e.1=k
  ·subst h;simp[knUp,knE]
  ·rw[decide_eq_false (fun h2=>h h2.symm)]
   simp only[Bool.false_eq_true,if_false,ih]
   simp[knUp,knE,h]
theorem qgP (m:Kn):qbx (.int .i64) (knE m):=by
 rw[qe3]
 intro e he
 obtain⟨x,_,rfl⟩:=List.mem_map.1 he
 exact rfl
structure KnOk (c:Circ) (leaves:List Int) (x:Nat) (m:Kn):Prop where
 val : ∀ k b,kn m k=some b→b=qcq c leaves x k
 leaf : ∀ z∈leaves,kn m z≠none
theorem KnOk.up {c:Circ}{leaves:List Int}{x:Nat}{m:Kn}(h:KnOk c leaves x m) (k:Int):KnOk c leaves x (knUp m k (qcq c leaves x k)):=by
 refine⟨fun j b hj=>?_,fun z hz=>?_⟩
 ·rw[qkK] at hj
  split at hj
  ·rename_i e;subst e;simpa using hj.symm
  ·exact h.val j b hj
 ·rw[qkK];split
  ·simp
  ·exact h.leaf z hz
theorem qqG {c:Circ}{leaves:List Int}{x:Nat}{v:Int}{m:Kn}{X:Bool}{T:List R}(hm:KnOk c leaves x m) (hX:X=qcq c leaves x v) :
  endI 1 (fun r H'=>∃ m',KnOk c leaves x m'∧r=I.d (dB (qcq c leaves x v))∧H'=[R.map (knE m')]) (I.d (D.bool X)) (.map (updD (knE m) (dI v) (D.bool X))::T):=by
 subst hX
 rw[qjd]
 refine qbb (r0:=.d (dB (qcq c leaves x v))) (H1:=[.map (knE (knUp m v (qcq c leaves x v)))]) ?_ ⟨_,hm.up v,rfl,rfl⟩
 simp only[go_sem,seval]
set_option maxHeartbeats 4000000 in
theorem Try.c_coneValue (c:Circ) (hc:c.Valid) (leaves:List Int) (x:Nat) : ∀ (n:Nat) (v:Int) (m:Kn),v.toNat<n→0≤v→v<c.vars→KnOk c leaves x m→
  ICall Try.prog 92 [.d (pC c),.d (dI v),.map 0] [.map (knE m)] (fun r H'=>∃ m',KnOk c leaves x m'∧r=.d (dB (qcq c leaves x v))∧H'=[.map (knE m')]):=by
 have hf:=hc.first_bd
 have hi0:=hc.i0
 have hi1:=hc.i1
 have hvv:=hc.vars_bd
 have hfst:=Try.c_firstGate c (by omega)
 intro n
 induction n with
 | zero=>intro v m h;omega
 | succ n ih=>
  intro v m hvn hv0 hv hm
  have ek:=qjc v m
  have hks:=qgP m
  have hnl:kn m v=none→v∉leaves:=fun h hv=>hm.leaf v hv h
  cases hkn:kn m v with
  | some b=>
   rw[hkn] at ek
   refine qaJ (E:=Try.env 1) Try.tok rfl 1000 Try.func92 rfl rfl Try.ntmps92 (by simp) ?_
   simp only[go_sem,seval,Try.results92,ek,Option.map_some]
   repeat' first|assumption|(simp (disch:=first|assumption|omega|(simp;done)|(simp;omega)) only[qaa,qac,List.take_of_length_le,qab,qae,qaf];try simp only[go_sem,seval,Try.results92,ek,Option.map_some])|(with_reducible refine And.intro ?_ ?_)|(with_reducible intro _)|(refine qai hfst ?_;simp only[go_sem,seval,Try.results92,ek,Option.map_some])|(refine qa7 (fun _=>hfst) ?_;simp only[go_sem,seval,Try.results92,ek,Option.map_some])|(refine @Exists.intro I _ (I.d D.nil) ?_;simp only[go_sem,seval,Try.results92,ek,Option.map_some])|((with_reducible (show Region.lexB _ _=true));kernel_rfl)|((try rw[qad]);omega)
   refine qbb (r0:=.d (dB (qcq c leaves x v))) (H1:=[.map (knE m)]) ?_ ⟨m,hm,rfl,rfl⟩
   rw[←hm.val v b hkn]
   simp only[go_sem,seval]
  | none=>
   rw[hkn] at ek
   have hvl:=hnl hkn
   by_cases hlow:v<c.first
   ·have hval:qcq c leaves x v=false:=by rw[qfJ hv0 hlow,qew,if_neg hvl]
    refine qaJ (E:=Try.env 1) Try.tok rfl 1000 Try.func92 rfl rfl Try.ntmps92 (by simp) ?_
    simp only[go_sem,seval,Try.results92,ek,Option.map_none]
    repeat' first|assumption|(simp (disch:=first|assumption|omega|(simp;done)|(simp;omega)) only[qaa,qac,List.take_of_length_le,qab,qae,qaf];try simp only[go_sem,seval,Try.results92,ek,Option.map_none])|(with_reducible refine And.intro ?_ ?_)|(with_reducible intro _)|(refine qai hfst ?_;simp only[go_sem,seval,Try.results92,ek,Option.map_none])|(refine qa7 (fun _=>hfst) ?_;simp only[go_sem,seval,Try.results92,ek,Option.map_none])|(refine @Exists.intro I _ (I.d D.nil) ?_;simp only[go_sem,seval,Try.results92,ek,Option.map_none])|((with_reducible (show Region.lexB _ _=true));kernel_rfl)|((try rw[qad]);omega)
    refine qbb (r0:=.d (dB (qcq c leaves x v))) (H1:=[.map (knE m)]) ?_ ⟨m,hm,rfl,rfl⟩
    rw[hval]
    simp only[go_sem,seval]
   ·obtain⟨i,rfl⟩ : ∃ i:Nat,v=c.first+(i:Int):=⟨(v-c.first).toNat,by omega⟩
    have hi:i<c.gates.length:=by unfold Circ.vars at hv;omega
    obtain⟨g1,g2⟩:=hc.g i hi
    have hval:=qgf hc (leaves:=leaves) (x:=x) hi
    rw[qew,if_neg hvl] at hval
    have ei:(c.first+(i:Int)-c.first).toNat=i:=by omega
    have ea:qbB c i=(c.gates.getD i (0,0)).1:=rfl
    have eb:qbC c i=(c.gates.getD i (0,0)).2:=rfl
    rw[ea,eb] at hval
    unfold qbc at g1 g2
    have iha:=fun m hm=>ih ((c.gates.getD i (0,0)).1/2) m (by omega) (by omega) (by unfold Circ.vars;omega) hm
    have ihb:=fun m hm=>ih ((c.gates.getD i (0,0)).2/2) m (by omega) (by omega) (by unfold Circ.vars;omega) hm
    have hg : ∀ z,(c.gates.map fun x=>dP x).getD i z=dP (c.gates.getD i (0,0)):=fun z=>getD_lt _ _ _ _ _ hi
    generalize c.gates.getD i (0,0)=gg at *
    obtain⟨ga,gb⟩:=gg
    simp only at hval g1 g2 iha ihb
    have ha2:((ga.toNat &&& 1:Nat):Int)=ga%2:=by rw[Nat.and_one_is_mod];omega
    have hb2:((gb.toNat &&& 1:Nat):Int)=gb%2:=by rw[Nat.and_one_is_mod];omega
    have cva : ∀ {m:Kn}{T:List R}{K:I→List R→Prop},KnOk c leaves x m→(∀ m',KnOk c leaves x m'→K (.d (dB (qcq c leaves x (ga/2)))) (.map (knE m')::T))→
      ICall Try.prog 92 [.d (pC c),.d (dI (ga/2)),.map 0] (.map (knE m)::T) K:=fun {m T K} hm hk=>by
     refine qar (iha m hm) [0] (by simp only[go_sem,seval]) ?_
     rintro r0 H1 ⟨m',hm',rfl,rfl⟩
     have:=hk m' hm'
     simp only[go_sem,seval]
     simpa using this
    have cvb : ∀ {m:Kn}{T:List R}{K:I→List R→Prop},KnOk c leaves x m→(∀ m',KnOk c leaves x m'→K (.d (dB (qcq c leaves x (gb/2)))) (.map (knE m')::T))→
      ICall Try.prog 92 [.d (pC c),.d (dI (gb/2)),.map 0] (.map (knE m)::T) K:=fun {m T K} hm hk=>by
     refine qar (ihb m hm) [0] (by simp only[go_sem,seval]) ?_
     rintro r0 H1 ⟨m',hm',rfl,rfl⟩
     have:=hk m' hm'
     simp only[go_sem,seval]
     simpa using this
    refine qaJ (E:=Try.env 1) Try.tok rfl 1000 Try.func92 rfl rfl Try.ntmps92 (by simp) ?_
    simp only[go_sem,seval,Try.results92,ek,Option.map_none,ei,hg]
    repeat' first|assumption|(simp (disch:=first|assumption|omega|(simp;done)|(simp;omega)) only[qaa,qac,List.take_of_length_le,qab,qae,qaf];try simp only[go_sem,seval,Try.results92,ek,Option.map_none,ei,hg])|(with_reducible refine And.intro ?_ ?_)|(with_reducible intro _)|(refine qai hfst ?_;simp only[go_sem,seval,Try.results92,ek,Option.map_none,ei,hg])|(refine qa7 (fun _=>hfst) ?_;simp only[go_sem,seval,Try.results92,ek,Option.map_none,ei,hg])|(refine @Exists.intro I _ (I.d D.nil) ?_;simp only[go_sem,seval,Try.results92,ek,Option.map_none,ei,hg])|((with_reducible (show Region.lexB _ _=true));kernel_rfl)|((try rw[qad]);omega)
    refine qaS (E:=Try.env 1) Try.tok Try.follows 1000 1000 [11] (.fst 0 (.fst 1 (.fst 2 (.fst 4 (.fst 5 (.fst 3 (.two 6 (.fst 7 (.fst 8 (.two 9 (.one 10 (.one 11 (.done))) 10 (.one 9 (.one 11 (.done)))))) 10 (.one 6 (.fst 7 (.fst 8 (.one 9 (.one 11 (.done))))))))))))) (by kernel_rfl) ?_
    simp only[go_sem,seval,Try.results92,ek,Option.map_none,ei,hg]
    repeat' first|assumption|(simp (disch:=first|assumption|omega|(simp;done)|(simp;omega)) only[qaa,qac,List.take_of_length_le,qab,qae,qaf];try simp only[go_sem,seval,Try.results92,ek,Option.map_none,ei,hg])|(with_reducible refine And.intro ?_ ?_)|(with_reducible intro _)|(refine qai hfst ?_;simp only[go_sem,seval,Try.results92,ek,Option.map_none,ei,hg])|(refine qa7 (fun _=>hfst) ?_;simp only[go_sem,seval,Try.results92,ek,Option.map_none,ei,hg])|(refine @Exists.intro I _ (I.d D.nil) ?_;simp only[go_sem,seval,Try.results92,ek,Option.map_none,ei,hg])|((with_reducible (show Region.lexB _ _=true));kernel_rfl)|((try rw[qad]);omega)
    all_goals (
     refine qaS (E:=Try.env 1) Try.tok Try.follows 1000 1000 [5,17] (.fst 0 (.fst 1 (.fst 4 (.fst 6 (.fst 2 (.fst 3 (.two 5 (.one 7 (.fst 8 (.fst 9 (.fst 10 (.fst 11 (.fst 12 (.fst 13 (.fst 16 (.fst 18 (.two 14 (.fst 15 (.two 17 (.one 19 (.fst 20 (.fst 21 (.fst 22 (.fst 23 (.fst 24 (.done))))))) 19 (.fst 20 (.fst 21 (.one 17 (.fst 22 (.fst 23 (.fst 24 (.done))))))))) 19 (.fst 20 (.fst 21 (.one 14 (.fst 15 (.one 17 (.fst 22 (.fst 23 (.fst 24 (.done))))))))))))))))))) 7 (.fst 8 (.fst 9 (.one 5 (.fst 10 (.fst 11 (.fst 12 (.fst 13 (.fst 16 (.fst 18 (.two 14 (.fst 15 (.two 17 (.one 19 (.fst 20 (.fst 21 (.fst 22 (.fst 23 (.fst 24 (.done))))))) 19 (.fst 20 (.fst 21 (.one 17 (.fst 22 (.fst 23 (.fst 24 (.done))))))))) 19 (.fst 20 (.fst 21 (.one 14 (.fst 15 (.one 17 (.fst 22 (.fst 23 (.fst 24 (.done)))))))))))))))))))))))))) (by kernel_rfl) ?_
     simp only[go_sem,seval,Try.results92,ha2,hb2]
     repeat' first|assumption|(simp (disch:=first|assumption|omega|(simp;done)|(simp;omega)) only[qaa,qac,List.take_of_length_le,qab,qae,qaf];try simp only[go_sem,seval,Try.results92,ha2,hb2])|(with_reducible refine And.intro ?_ ?_)|(with_reducible intro _)|(refine cva (by assumption) ?_;simp only[go_sem,seval,Try.results92,ha2,hb2])|(refine cvb (by assumption) ?_;simp only[go_sem,seval,Try.results92,ha2,hb2])|(refine @Exists.intro I _ (I.d (D.bool false)) ?_;simp only[go_sem,seval,Try.results92,ha2,hb2])|(refine @Exists.intro I _ (I.d D.nil) ?_;simp only[go_sem,seval,Try.results92,ha2,hb2])|((with_reducible (show Region.lexB _ _=true));kernel_rfl)|((try rw[qad]);omega))
    all_goals first
     | exact qgP _
     | exact qqG (by assumption) hval.symm
     | exact qqG (by assumption) (by rw[hval];simp_all)
end Go.Proofs

set_option maxRecDepth 20000
set_option linter.unusedVariables false
set_option linter.unusedSimpArgs false
namespace Go.Proofs
open Go Go.VL
noncomputable instance:DecidableEq Circ:=fun _ _=>Classical.propDecidable _
theorem Circ.ext' {c d:Circ}(h1:c.inputs=d.inputs) (h2:c.next=d.next) (h3:c.gates=d.gates) (h4:c.outs=d.outs):c=d:=by cases c;cases d;simp_all
end Go.Proofs

set_option maxRecDepth 20000
set_option linter.unusedVariables false
set_option linter.unusedSimpArgs false
namespace Go.Proofs
open Go Go.VL
theorem qjX {P:Nat→Prop}{n i:Nat}(h1:i<n) (h2:P i) (hinv : ∀ j,j<i→P j) : ∃ s',(s'≤n∧∀ j,j<s'→P j)∧n-s'<n-i∧i+1=s':=
 ⟨i+1,⟨by omega,fun j hj=>by
  by_cases h:j=i
  ·subst h;exact h2
  ·exact hinv j (by omega)⟩,by omega,rfl⟩
theorem no_at {α : Type}{l:List α}{P : α→Prop}{d:Decidable (∀ x∈l,P x)}{i:Nat}(z : α) (h1:i<l.length) (h : ¬ P (l.getD i z)):false=decide (∀ x∈l,P x):=by
 rw[eq_comm,decide_eq_false_iff_not]
 exact fun h2=>h (h2 _ (qaj h1))
theorem yes_at {α : Type}{l:List α}{P : α→Prop}{d:Decidable (∀ x∈l,P x)}(z : α) (h : ∀ j,j<l.length→P (l.getD j z)):true=decide (∀ x∈l,P x):=by
 rw[eq_comm,decide_eq_true_eq]
 exact(qle z).2 h
theorem Try.c_l1First (c:Circ) (h : -1000≤c.inputs∧c.inputs≤1000):Pure Try.prog 69 [dC c] (dI c.first):=by
 refine qau (E:=Try.env 0) Try.tok rfl 1000 Try.func69 rfl rfl Try.ntmps69 (by simp) fun ok=>?_
 simp only[go_sem,seval] at ok
 simp only[go_sem,seval,Try.results69]
 repeat' first|assumption|(simp (disch:=first|assumption|omega|(simp;done)|(simp;omega)) only[qaa,qac,List.take_of_length_le,qab];try simp only[go_sem,seval,Try.results69])|(with_reducible refine And.intro ?_ ?_)|(with_reducible intro _)|(refine @Exists.intro I _ (I.d D.nil) ?_;simp only[go_sem,seval,Try.results69])|((with_reducible (show Region.lexB _ _=true));kernel_rfl)|((try rw[qad]);omega)
 unfold Circ.first
 omega
theorem Try.c_l1Lits (l:List Int) (n:Int) (hn:0≤n∧n≤1000):Pure Try.prog 86 [dIs l,dI n] (.bool (decide (∀ x∈l,qbc x n))):=by
 refine qau (E:=Try.env 0) Try.tok rfl 1000 Try.func86 rfl rfl Try.ntmps86 (by simp) fun ok=>?_
 simp only[go_sem,seval] at ok
 simp only[go_sem,seval,Try.results86]
 refine qaO (E:=Try.env 0) Try.tok (σ:=Nat) (fun i=>[(0,.d (dIs l)),(1,.d (dI n)),(5,.d (dI i))]) (fun _=>[]) (fun i=>i≤l.length∧∀ j,j<i→qbc (l.getD j 0) n) (fun i=>l.length-i) [] 1000 1000 ?_ ?_ ?_
 ·simp only[go_sem,seval]
 ·simp only[go_sem,seval]
  exact⟨0,⟨by omega,fun j hj=>absurd hj (by omega)⟩,rfl⟩
 ·rintro i ⟨hi,hinv⟩
  simp only[go_sem,seval,Try.results86]
  repeat' first|assumption|(simp (disch:=first|assumption|omega|(simp;done)|(simp;omega)) only[qaa,qac,List.take_of_length_le,qab];try simp only[go_sem,seval,Try.results86])|(with_reducible refine And.intro ?_ ?_)|(with_reducible intro _)|(refine qai (Try.c_l1In _ _ _) ?_;simp only[go_sem,seval,Try.results86])|(refine @Exists.intro I _ (I.d D.nil) ?_;simp only[go_sem,seval,Try.results86])|((with_reducible (show Region.lexB _ _=true));kernel_rfl)|((try rw[qad]);omega)
  ·rename_i h1 h2
   exact no_at 0 h1 (by unfold qbc;omega)
  ·rename_i h1 h2
   exact qjX h1 (by unfold qbc;omega) hinv
  ·exact yes_at 0 fun j hj=>hinv j (by omega)
theorem Try.c_sCircuitValid (c:Circ):Pure Try.prog 66 [dC c] (.bool (decide c.Valid)):=by
 refine qau (E:=Try.env 0) Try.tok rfl 1000 Try.func66 rfl rfl Try.ntmps66 (by simp) fun ok=>?_
 simp only[go_sem,seval] at ok
 simp only[go_sem,seval,Try.results66]
 refine qai (Try.c_l1In _ _ _) ?_
 simp only[go_sem,seval,Try.results66]
 refine⟨fun h=>Circ.notValid fun hv=>?_,fun h=>?_⟩
 ·have:=hv.i0;have:=hv.i1;have:=hv.ln;have:=hv.lg;have:=hv.lo
  omega
 refine qai (Try.c_l1First c (by omega)) ?_
 have hb:1≤c.first∧c.first≤8:=by unfold Circ.first;omega
 simp only[go_sem,seval,Try.results66]
 refine qaO (E:=Try.env 0) Try.tok (σ:=Nat) (fun i=>[(1,.ptr 0 0),(3,.d (dI c.first)),(4,.d (dI i))]) (fun i=>[.box [.d (dI c.inputs),.d (dIs c.next),.d (dPs c.gates),.d (dIs c.outs)]])
  (fun i=>i≤c.gates.length∧∀ j,j<i→qbc (c.gates.getD j (0,0)).1 (c.first+(j:Int))∧qbc (c.gates.getD j (0,0)).2 (c.first+(j:Int))) (fun i=>c.gates.length-i) [] 1000 1000 ?_ ?_ ?_
 ·simp only[go_sem,seval]
 ·simp only[go_sem,seval]
  exact⟨0,⟨by omega,fun j hj=>absurd hj (by omega)⟩,rfl⟩
 ·rintro i ⟨hi,hinv⟩
  simp only[go_sem,seval,Try.results66]
  have hv0:c.vars=c.first+c.gates.length:=rfl
  refine⟨fun hlt=>?_,fun hge=>?_⟩
  ·refine qaS (E:=Try.env 0) Try.tok Try.follows 1000 1000 [] (.fst 0 (.fst 2 (.fst 6 (.fst 8 (.fst 13 (.fst 14 (.fst 15 (.fst 1 (.fst 3 (.fst 4 (.fst 5 (.fst 7 (.fst 9 (.fst 10 (.fst 11 (.one 12 (.one 16 (.fst 17 (.done))))))))))))))))))) (by kernel_rfl) ?_
   simp only[go_sem,seval,Try.results66]
   repeat' first|assumption|(simp (disch:=first|assumption|omega|(simp;done)|(simp;omega)) only[qaa,qac,List.take_of_length_le,qab];try simp only[go_sem,seval,Try.results66])|(with_reducible refine And.intro ?_ ?_)|(with_reducible intro _)|(refine qai (Try.c_l1Lits [_,_] _ (by omega)) ?_;simp only[go_sem,seval,Try.results66])|(refine @Exists.intro I _ (I.d D.nil) ?_;simp only[go_sem,seval,Try.results66])|((with_reducible (show Region.lexB _ _=true));kernel_rfl)|((try rw[qad]);omega)
   ·rename_i h2
    exact Circ.notValid fun hv=>h2 (hv.g i hlt)
   ·rename_i h2
    exact qjX hlt h2 hinv
  ·repeat' first|assumption|(simp (disch:=first|assumption|omega|(simp;done)|(simp;omega)) only[qaa,qac,List.take_of_length_le,qab];try simp only[go_sem,seval,Try.results66])|(with_reducible refine And.intro ?_ ?_)|(with_reducible intro _)|(refine qai (Try.c_l1Lits _ _ (by omega)) ?_;simp only[go_sem,seval,Try.results66])|(refine qa7 (fun hg=>Try.c_l1Lits _ _ (by omega)) ?_;simp only[go_sem,seval,Try.results66])|(refine @Exists.intro I _ (I.d D.nil) ?_;simp only[go_sem,seval,Try.results66])|((with_reducible (show Region.lexB _ _=true));kernel_rfl)|((try rw[qad]);omega)
   rw[Bool.eq_iff_iff]
   simp only[Bool.and_eq_true,decide_eq_true_eq]
   refine⟨fun⟨q1,q2⟩=>⟨by omega,by omega,by omega,by omega,by omega,fun j hj=>hinv j (by omega),q1,q2⟩,fun hv=>⟨hv.n,hv.o⟩⟩
end Go.Proofs
