/- Contracts, plain definitions and lemmas. Conditions: none; lemmas. -/
import Derived.Test.YteikeianenfhaaaGreatC60
import Derived.Test.YteikeianenfhaaaGreatC11
import Derived.Test.YteikeianenfhaaaGreatC80
import Derived.Test.YteikeianenfhaaaGreatC61
import Derived.Test.YteikeianenfhaaaGreatC70
set_option maxRecDepth 20000
set_option linter.unusedSimpArgs false
set_option linter.unusedVariables false
set_option maxHeartbeats 2000000
namespace Go.Proofs
set_option linter.defProp false
open Go Go.VL Tryz
variable {b leaves m l:List Int}{n x j i:Nat}{T:List R}{c:Circ}
def Tryz.circ_atM1 {A:R}(hb:Bytes b) {p n:Int}(hp:0<=p/\p<=100000000) (hn:0<=n/\n<=1000) {K:I->List R->Prop}(hk : ∀ (c:Circ) (q:Int),(p<=q/\q<=p+200)->(c.next.length<=40/\c.gates.length<=40/\c.outs.length<=40/\-1<=c.inputs/\c.inputs<=5)->K (.d (dC c)) (A::rd b q::T)) :
  ICall prog 66 [.ptr 1 0,.d (dI n)] (A::rd b p::T) K:=by
 refine qas (c_l20Circuit b p n hb hp hn) [1] (by simp only[go_sem,seval]) ?_;rintro r0 H1 ⟨c,q,hq,hl,rfl,rfl⟩;have:=hk c q hq hl;simp only[go_sem,seval];simpa using this
def Tryz.c_DrawCircuit (code:List Int):PureFE prog 56 [dUs code] (fun x=>∃ c:Circ,x=dC c/\(c.next.length<=40/\c.gates.length<=40/\c.outs.length<=40/\-1<=c.inputs/\c.inputs<=5)):=by
 refine qjA (E:=env 0) tok rfl 1000 func56 rfl rfl ntmps56 (by simp) fun ok=>?_
 simp only[go_sem,seval] at ok⊢;have hb:=bytes_of ok.2 2000;refine qlh (c_l20Open code) [] (by simp only[go_sem,seval]) ?_;simp only[go_sem,seval];refine circ_atM1 (p:=0) (n:=0) hb (by omega) (by omega) fun c q hq hc=>?_
 repeat' first|assumption|(simp (disch:=first|assumption|omega|(simp;done)|(simp;omega)) only[go_sem,seval])|(with_reducible first|apply And.intro|intro _)|((try rw[qaa]);omega)
 exact⟨_,of_eq_true qpq,c,rfl,hc⟩
def Tryz.c_DrawConfigAcyclic (code:List Int):PureFE prog 55 [dUs code] (fun x=>∃ a:Kcfg,x=dK a/\Ksh 9 a):=by
 refine qjA (E:=env 0) tok rfl 1000 func55 rfl rfl ntmps55 (by simp) fun ok=>?_
 simp only[go_sem,seval] at ok⊢;have hb:=bytes_of ok.2 2000;refine qlh (c_l20Open code) [] (by simp only[go_sem,seval]) ?_;simp only[go_sem,seval];refine qas (c_l20Config _ 0 9 hb (by omega) (by omega)) [1] (by simp only[go_sem,seval]) ?_;rintro r0 H1 ⟨k,q,hq,hl,rfl,rfl⟩
 repeat' first|assumption|(simp (disch:=first|assumption|omega|(simp;done)|(simp;omega)) only[go_sem,seval])|(with_reducible first|apply And.intro|intro _)|((try rw[qaa]);omega)
 exact⟨_,of_eq_true qpq,_,rfl,hl⟩

abbrev Kn:=List (Int×Bool)
def kn (m:Kn) (k:Int):Option Bool:=(m.find? fun e=>decide (e.1=k)).map fun e=>e.2
def knUp:Kn->Int->Bool->Kn
 | [],k,b=>[(k,b)]
 | e::r,k,b=>if e.1=k then(k,b)::r else e::knUp r k b
def qmE (k:Int) (b:Bool) (j:Int) : ∀ m,kn (knUp m k b) j=if j=k then some b else kn m j
 | []=>by by_cases h:j=k <;> simp[kn,knUp,h,eq_comm]
 | e::r=>by
  have ih:=qmE k b j r;unfold knUp;by_cases h:e.1=k
  ·rw[if_pos h];by_cases h2:j=k
   ·simp[kn,h2]
   ·have h3 : ¬ e.1=j:=fun h4=>h2 (by rw[<-h4,h])
    have h4 : ¬ k=j:=fun h5=>h2 h5.symm
    simp[kn,h2,h3,h4]
  ·rw[if_neg h];by_cases h3:e.1=j
   ·have h2 : ¬ j=k:=fun h4=>h (by rw[h3,h4])
    simp[kn,h2,h3]
   ·unfold kn at ih ⊢;simp only[List.find?_cons,decide_eq_false h3,ih]
def knE (m:Kn):List (D×D):=m.map fun e=>(dI e.1,D.bool e.2)
def qkC (k:Int) : ∀ m,qc0 (knE m) (dI k)=(kn m k).map D.bool
 | []=>rfl
 | e::r=>by
  have ih:=qkC k r;show qc0 ((dI e.1,D.bool e.2)::knE r) _=_
  rw[qfn,qdx];by_cases h:e.1=k
  ·subst h;simp[kn]
  ·rw[decide_eq_false (fun h2=>h h2.symm)];simp only[yai,if_false,ih];simp[kn,h]
def qkD (k:Int) (b:Bool) : ∀ m,updD (knE m) (dI k) (D.bool b)=knE (knUp m k b)
 | []=>rfl
 | e::r=>by
  have ih:=qkD k b r;show updD ((dI e.1,D.bool e.2)::knE r) _ _=_
  rw[updD,qdx];by_cases h:e.1=k
  ·subst h;simp[knUp,knE]
  ·rw[decide_eq_false (fun h2=>h h2.symm)];simp only[yai,if_false,ih];simp[knUp,knE,h]
def qhQ (m:Kn):qbH (.int .i64) (knE m):=by
 rw[qdB];intro e he;obtain⟨x,_,rfl⟩:=List.mem_map.1 he;exact rfl
structure KnOk (c:Circ) (leaves:List Int) (x:Nat) (m:Kn):Prop where
 val : ∀ k b,kn m k=some b->b=qcp c leaves x k
 leaf : ∀ z∈leaves,kn m z≠none
def KnOk.up {m:Kn}(h:KnOk c leaves x m) (k:Int):KnOk c leaves x (knUp m k (qcp c leaves x k)):=by
 refine⟨fun j b hj=>?_,fun z hz=>?_⟩
 ·rw[qmE] at hj;split at hj
  ·rename_i e;subst e;simpa using hj.symm
  ·exact h.val j b hj
 ·rw[qmE];split
  ·simp
  ·exact h.leaf z hz
def qsY {v:Int}{m:Kn}{X:Bool}(hm:KnOk c leaves x m) (hX:X=qcp c leaves x v) :
  endI 1 (fun r H'=>∃ m',KnOk c leaves x m'/\r=I.d (dB (qcp c leaves x v))/\H'=[R.map (knE m')]) (I.d (D.bool X)) (.map (updD (knE m) (dI v) (D.bool X))::T):=by
 subst hX;rw[qkD];refine qaP (r0:=.d (dB (qcp c leaves x v))) (H1:=[.map (knE (knUp m v (qcp c leaves x v)))]) ?_ ⟨_,hm.up v,rfl,rfl⟩;simp only[go_sem,seval]
set_option maxHeartbeats 4000000 in
def Tryz.c_coneValue (c:Circ) (hc:c.Valid) (leaves:List Int) (x:Nat) : ∀ (n:Nat) (v:Int) (m:Kn),v.toNat<n->0<=v->v<c.vars->KnOk c leaves x m->
  ICall prog 208 [.d (pC c),.d (dI v),.map 0] [.map (knE m)] (fun r H'=>∃ m',KnOk c leaves x m'/\r=.d (dB (qcp c leaves x v))/\H'=[.map (knE m')]):=by
 have hf:=hc.first_bd;have hi0:=hc.i0;have hi1:=hc.i1;have hvv:=hc.vars_bd;have hfst:=c_firstGate c (by omega);intro n;induction n with
 | zero=>intro v m h;omega
 | succ n ih=>
  intro v m hvn hv0 hv hm;have ek:=qkC v m;have hks:=qhQ m;have hnl:kn m v=none->v∉leaves:=fun h hv=>hm.leaf v hv h
  cases hkn:kn m v with
  | some b=>
   rw[hkn] at ek;refine qaL (E:=env 1) tok rfl 1000 func208 rfl rfl ntmps208 (by simp) ?_;simp only[go_sem,seval,ek,yaK]
   repeat' first|assumption|(simp (disch:=first|assumption|omega|(simp;done)|(simp;omega)) only[];try simp only[go_sem,seval,ek,yaK])|(with_reducible first|apply And.intro|intro _)|(refine qad hfst ?_;simp only[go_sem,seval,ek,yaK])|(refine qaK (fun _=>hfst) ?_;simp only[go_sem,seval,ek,yaK])|((try rw[qaa]);omega)
   refine qaP (r0:=.d (dB (qcp c leaves x v))) (H1:=[.map (knE m)]) ?_ ⟨m,hm,rfl,rfl⟩;rw[<-hm.val v b hkn];simp only[go_sem,seval]
  | none=>
   rw[hkn] at ek;have hvl:=hnl hkn;by_cases hlow:v<c.first
   ·have hval:qcp c leaves x v=false:=by rw[qe7 hv0 hlow,qdK,if_neg hvl]
    refine qaL (E:=env 1) tok rfl 1000 func208 rfl rfl ntmps208 (by simp) ?_;simp only[go_sem,seval,ek,yaJ]
    repeat' first|assumption|(simp (disch:=first|assumption|omega|(simp;done)|(simp;omega)) only[];try simp only[go_sem,seval,ek,yaJ])|(with_reducible first|apply And.intro|intro _)|(refine qad hfst ?_;simp only[go_sem,seval,ek,yaJ])|(refine qaK (fun _=>hfst) ?_;simp only[go_sem,seval,ek,yaJ])|((try rw[qaa]);omega)
    refine qaP (r0:=.d (dB (qcp c leaves x v))) (H1:=[.map (knE m)]) ?_ ⟨m,hm,rfl,rfl⟩;rw[hval];simp only[go_sem,seval]
   ·obtain⟨i,rfl⟩ : ∃ i:Nat,v=c.first+(i:Int):=⟨(v-c.first).toNat,by omega⟩
    have hi:i<c.gates.length:=by unfold Circ.vars at hv;omega
    obtain⟨g1,g2⟩:=hc.g i hi;have hval:=qfs hc (leaves:=leaves) (x:=x) hi;rw[qdK,if_neg hvl] at hval;have ei:(c.first+(i:Int)-c.first).toNat=i:=by omega
    have ea:qbm c i=(c.gates.getD i (0,0)).1:=rfl;have eb:qbn c i=(c.gates.getD i (0,0)).2:=rfl;rw[ea,eb] at hval;unfold qa7 at g1 g2;have iha:=fun m hm=>ih ((c.gates.getD i (0,0)).1/2) m (by omega) (by omega) (by unfold Circ.vars;omega) hm
    have ihb:=fun m hm=>ih ((c.gates.getD i (0,0)).2/2) m (by omega) (by omega) (by unfold Circ.vars;omega) hm
    have hg : ∀ z,(c.gates.map fun x=>dP x).getD i z=dP (c.gates.getD i (0,0)):=fun z=>getD_lt _ _ _ _ _ hi
    generalize c.gates.getD i (0,0)=gg at *
    obtain⟨ga,gb⟩:=gg;simp only at hval g1 g2 iha ihb;have ha2:((ga.toNat &&& 1:Nat):Int)=ga%2:=by rw[Nat.and_one_is_mod];omega
    have hb2:((gb.toNat &&& 1:Nat):Int)=gb%2:=by rw[Nat.and_one_is_mod];omega
    have cva : ∀ {m:Kn}{T:List R}{K:I->List R->Prop},KnOk c leaves x m->(∀ m',KnOk c leaves x m'->K (.d (dB (qcp c leaves x (ga/2)))) (.map (knE m')::T))->
      ICall prog 208 [.d (pC c),.d (dI (ga/2)),.map 0] (.map (knE m)::T) K:=fun {m T K} hm hk=>by
     refine qas (iha m hm) [0] (by simp only[go_sem,seval]) ?_;rintro r0 H1 ⟨m',hm',rfl,rfl⟩;have:=hk m' hm';simp only[go_sem,seval];simpa using this
    have cvb : ∀ {m:Kn}{T:List R}{K:I->List R->Prop},KnOk c leaves x m->(∀ m',KnOk c leaves x m'->K (.d (dB (qcp c leaves x (gb/2)))) (.map (knE m')::T))->
      ICall prog 208 [.d (pC c),.d (dI (gb/2)),.map 0] (.map (knE m)::T) K:=fun {m T K} hm hk=>by
     refine qas (ihb m hm) [0] (by simp only[go_sem,seval]) ?_;rintro r0 H1 ⟨m',hm',rfl,rfl⟩;have:=hk m' hm';simp only[go_sem,seval];simpa using this
    refine qaL (E:=env 1) tok rfl 1000 func208 rfl rfl ntmps208 (by simp) ?_;simp only[go_sem,seval,ek,yaJ,ei,hg]
    repeat' first|assumption|(simp (disch:=first|assumption|omega|(simp;done)|(simp;omega)) only[];try simp only[go_sem,seval,ek,yaJ,ei,hg])|(with_reducible first|apply And.intro|intro _)|(refine qad hfst ?_;simp only[go_sem,seval,ek,yaJ,ei,hg])|(refine qaK (fun _=>hfst) ?_;simp only[go_sem,seval,ek,yaJ,ei,hg])|((try rw[qaa]);omega)
    refine qaS (n:=1) [11] (fsts [0,1,2,4,5,3] (.two 6 (fsts [7,8] (.two 9 (.one 10 (.one 11 .done)) 10 (.one 9 (.one 11 .done)))) 10 (.one 6 (fsts [7,8] (.one 9 (.one 11 .done)))))) ?_;simp only[go_sem,seval,ek,yaJ,ei,hg]
    repeat' first|assumption|(simp (disch:=first|assumption|omega|(simp;done)|(simp;omega)) only[];try simp only[go_sem,seval,ek,yaJ,ei,hg])|(with_reducible first|apply And.intro|intro _)|(refine qad hfst ?_;simp only[go_sem,seval,ek,yaJ,ei,hg])|(refine qaK (fun _=>hfst) ?_;simp only[go_sem,seval,ek,yaJ,ei,hg])|((try rw[qaa]);omega)
    all_goals (
     refine qaS (n:=1) [5,17] (fsts [0,1,4,6,2,3] (.two 5 (.one 7 (fsts [8,9,10,11,12,13,16,18] (.two 14 (.fst 15 (.two 17 (.one 19 (fsts [20,21,22,23,24] .done)) 19 (fsts [20,21] (.one 17 (fsts [22,23,24] .done))))) 19 (fsts [20,21] (.one 14 (.fst 15 (.one 17 (fsts [22,23,24] .done)))))))) 7 (fsts [8,9] (.one 5 (fsts [10,11,12,13,16,18] (.two 14 (.fst 15 (.two 17 (.one 19 (fsts [20,21,22,23,24] .done)) 19 (fsts [20,21] (.one 17 (fsts [22,23,24] .done))))) 19 (fsts [20,21] (.one 14 (.fst 15 (.one 17 (fsts [22,23,24] .done))))))))))) ?_;simp only[go_sem,seval,ha2,hb2]
     repeat' first|assumption|(simp (disch:=first|assumption|omega|(simp;done)|(simp;omega)) only[];try simp only[go_sem,seval,ha2,hb2])|(with_reducible first|apply And.intro|intro _)|(refine cva (by assumption) ?_;simp only[go_sem,seval,ha2,hb2])|(refine cvb (by assumption) ?_;simp only[go_sem,seval,ha2,hb2])|(refine @Exists.intro I _ (I.d (D.bool false)) ?_;simp only[go_sem,seval,ha2,hb2])|((try rw[qaa]);omega))
    all_goals first
     | exact qhQ _
     | exact qsY (by assumption) hval.symm
     | exact qsY (by assumption) (by rw[hval];simp_all)

def shr_and (x k:Nat):((((x:Int)/2 ^ k).toNat &&& 1:Nat):Int)=if x.testBit k then 1 else 0:=by
 have e:((x:Int)/2 ^ k).toNat=x/2 ^ k:=by
  have:((x:Int)/2 ^ k)=((x/2 ^ k:Nat):Int):=by simp
  rw[this,ybk]
 rw[e,Nat.and_one_is_mod,Nat.testBit_eq_decide_div_mod_eq];by_cases h:x/2 ^ k%2=1
 ·simp[h]
 ·have h2:x/2 ^ k%2=0:=by omega
  simp[h2]
structure KnTo (c:Circ) (leaves:List Int) (x:Nat) (n:Nat) (m:Kn):Prop where
 val : ∀ k b,kn m k=some b->b=qcp c leaves x k
 leaf : ∀ j,j<n->kn m (leaves.getD j 0)≠none
def KnTo.zero (h0:qcp c leaves x 0=false):KnTo c leaves x 0 [(0,false)]:=by
 refine⟨fun k b hk=>?_,fun j hj=>by omega⟩;by_cases h:(0:Int)=k
 ·subst h;cases b with
  | false=>exact h0.symm
  | true=>simp[kn] at hk
 ·simp[kn,h] at hk
def KnTo.up {m:Kn}(h:KnTo c leaves x n m) {b:Bool}(hb:b=qcp c leaves x (leaves.getD n 0)):KnTo c leaves x (n+1) (knUp m (leaves.getD n 0) b):=by
 refine⟨fun k b' hk=>?_,fun j hj=>?_⟩
 ·rw[qmE] at hk;split at hk
  ·rename_i e;rw[e,<-hb];simpa using hk.symm
  ·exact h.val k b' hk
 ·rw[qmE];split
  ·simp
  ·rename_i hne;by_cases hjn:j=n
   ·subst hjn;exact absurd rfl hne
   ·exact h.leaf j (by omega)
def KnTo.ok {m:Kn}(h:KnTo c leaves x leaves.length m):KnOk c leaves x m:=by
 refine⟨h.val,fun z hz=>?_⟩;obtain⟨j,hj,rfl⟩:=qa4 (0:Int) hz;exact h.leaf j hj
def Tryz.c_coneTable (c:Circ) (hc:c.Valid) (v:Int) (hv0:0<=v) (hv:v<c.vars) (leaves:List Int) (hl:leaves.length<=3) (ha:asc leaves) (hz : ∀ z∈leaves,1<=z/\z<c.vars) :
  Pure prog 174 [pC c,dI v,dIs leaves] (dI (qgn c v leaves)):=by
 have hvv:=hc.vars_bd;refine qaC func174 rfl ntmps174 fun ok=>?_
 simp only[go_sem,seval] at ok
 repeat' first|assumption|(simp (disch:=first|assumption|omega|(simp;done)|(simp;omega)) only[go_sem,seval])|(with_reducible first|apply And.intro|intro _)|((try rw[qaa]);omega)
 ·rw[qaa];match leaves.length,hl with
  | 0,_|1,_|2,_|3,_=>decide
 have hN:(2:Int) ^ leaves.length=((2 ^ leaves.length:Nat):Int):=by simp
 have hN8:2 ^ leaves.length<=8:=by
  match leaves.length,hl with
  | 0,_|1,_|2,_|3,_=>decide
 rw[hN];refine qaB (E:=env 0) tok (σ:=Nat) (fun x=>[(7,.d (dI (qdd c v leaves x:Nat))),(15,.d (dI x)),(14,.d (dI (2 ^ leaves.length:Nat))),(0,.d (pC c)),(1,.d (dI v)),(2,.d (dIs leaves))]) (fun _=>[])
  (fun x=>x<=2 ^ leaves.length) (fun x=>2 ^ leaves.length-x) [] 1000 1000 ?_ ?_ ?_
 ·simp only[go_sem,seval]
 ·simp only[go_sem,seval];exact⟨0,yaW _,rfl,rfl⟩
 ·intro x hx;have htl:=qe8 c v leaves x;by_cases hlt:x<2 ^ leaves.length
  ·repeat' first|assumption|(simp (disch:=first|assumption|omega|(simp;done)|(simp;omega)) only[go_sem,seval])|(with_reducible first|apply And.intro|intro _)|((try rw[qaa]);omega)
   have hc0:qcp c leaves x 0=false:=by
    rw[qe7 (Int.le_refl 0) (by have:=hc.first_bd;omega),qdK,if_neg (fun h=>by have:=(hz 0 h).1;omega)]
   refine qaB (E:=env 0) tok (σ:=Nat×Kn) (fun s=>[(9,.map 0),(22,.d (dI s.1)),(20,.d (dIs leaves)),(21,.d (dI leaves.length)),(8,.d (dI x)),(7,.d (dI (qdd c v leaves x:Nat))),(15,.d (dI x)),(14,.d (dI (2 ^ leaves.length:Nat))),(0,.d (pC c)),(1,.d (dI v)),(2,.d (dIs leaves))]) (fun s=>[.map (knE s.2)])
    (fun s=>s.1<=leaves.length/\KnTo c leaves x s.1 s.2) (fun s=>leaves.length-s.1) [] 1000 1000 ?_ ?_ ?_
   ·simp only[go_sem,seval]
   ·simp only[go_sem,seval];exact⟨(0,[(0,false)]),⟨yaW _,KnTo.zero hc0⟩,rfl,rfl⟩
   ·rintro⟨k,m⟩ ⟨hk,hm⟩;simp only at hk hm;have hks:=qhQ m;by_cases hlk:k<leaves.length
    ·have hzk:=hz _ (qae hlk:leaves.getD k 0∈leaves);have hid:leaves.idxOf (leaves.getD k 0)=k:=by
      refine qf0 hlk rfl fun j hj=>?_
      have h1:leaves.getD j 0=leaves[j]:=by simp[List.getD,show j<leaves.length by omega]
      have h2:leaves.getD k 0=leaves[k]:=by simp[List.getD,hlk]
      rw[h1,h2];have:=List.pairwise_iff_getElem.1 ha j k (by omega) hlk hj;omega
     have hcl:=qjJ hc (leaves:=leaves) (x:=x) (by omega) hzk.2 (qae hlk);rw[hid] at hcl;have hsa:=shr_and x k;have eu:=qkD (leaves.getD k 0) (x.testBit k) m;have hup:=hm.up (b:=x.testBit k) hcl.symm;generalize hz9:leaves.getD k 0=z at *
     repeat' first|assumption|(simp (disch:=first|assumption|omega|(simp;done)|(simp;omega)) only[go_sem,seval,hz9])|(with_reducible first|apply And.intro|intro _)|((try rw[qaa]);omega)
     ·exact Int.ediv_nonneg (by omega) (Int.pow_nonneg (by decide))
     ·refine⟨(k+1,knUp m z (x.testBit k)),⟨by omega,hup⟩,by omega,rfl,?_⟩;have hb:decide (((((x:Int)/2 ^ k).toNat &&& 1:Nat):Int)=1)=x.testBit k:=by
       rw[hsa];cases x.testBit k <;> simp
      rw[hb,eu]
    ·obtain rfl:k=leaves.length:=by omega
     have hok:=hm.ok
     repeat' first|assumption|(simp (disch:=first|assumption|omega|(simp;done)|(simp;omega)) only[go_sem,seval])|(with_reducible first|apply And.intro|intro _)|((try rw[qaa]);omega)
     refine qas (c_coneValue c hc leaves x (v.toNat+1) v m (by omega) hv0 hv hok) [0] (by simp only[go_sem,seval]) ?_;rintro r0 H1 ⟨m2,hm2,rfl,rfl⟩;simp only[go_sem,seval]
     repeat' first|assumption|(simp (disch:=first|assumption|omega|(simp;done)|(simp;omega)) only[go_sem,seval])|(with_reducible first|apply And.intro|intro _)|((try rw[qaa]);omega)
     ·rw[qaa];have h2:2 ^ x<=2 ^ 8:=yaY (by decide) (by omega);have hc2:(2:Int) ^ x=((2 ^ x:Nat):Int):=by simp
      rw[hc2];omega
     ·exact Int.pow_nonneg (by decide)
     ·have hp2:(2:Int) ^ x=((2 ^ x:Nat):Int):=by simp
      refine⟨x+1,hlt,by omega,?_,rfl⟩;rw[hp2,ybk,qdd];rw[if_pos (by assumption)];have:=Nat.two_pow_add_eq_or_of_lt htl 1;simp only[yaQ] at this;rw[Nat.or_comm,<-this,Nat.add_comm]
     ·refine⟨x+1,hlt,by omega,?_,rfl⟩;rw[qdd,if_neg (by simp_all)];rfl
  ·obtain rfl:x=2 ^ leaves.length:=by omega
   repeat' first|assumption|(simp (disch:=first|assumption|omega|(simp;done)|(simp;omega)) only[go_sem,seval])|(with_reducible first|apply And.intro|intro _)|((try rw[qaa]);omega)
   rfl

def qbY:List Int->List Int
 | []=>[]
 | [x]=>[x]
 | x::y::r=>if x=y then qbY (y::r) else x::qbY (y::r)
def qha {z:Int} : ∀ (l:List Int),z∈qbY l↔z∈l
 | []=>Iff.rfl
 | [x]=>Iff.rfl
 | x::y::r=>by
  have ih:=qha (z:=z) (y::r);by_cases hxy:x=y
  ·subst hxy;rw[qbY,if_pos rfl,ih];simp
  ·rw[qbY,if_neg hxy,yaz,ih,yaz (a:=z) (b:=x)]
def qjO : ∀ (l:List Int),l.Pairwise (·<=·)->asc (qbY l)
 | [],_=>List.Pairwise.nil
 | [x],_=>by show List.Pairwise _ [x];simp
 | x::y::r,h=>by
  have h2:=(List.pairwise_cons.1 h).2;have ih:=qjO (y::r) h2;by_cases hxy:x=y
  ·rw[qbY,if_pos hxy];exact ih
  ·rw[qbY,if_neg hxy];refine List.pairwise_cons.2 ⟨fun z hz=>?_,ih⟩;rw[qha] at hz;have hxz:=(List.pairwise_cons.1 h).1 z hz;have hxy':=(List.pairwise_cons.1 h).1 y (yaC ..);rcases List.mem_cons.1 hz with rfl|hz'
   ·omega
   ·have:=(List.pairwise_cons.1 h2).1 z hz';omega
def join_eq {a:List Int}(ha:asc a) (hb:asc b) (hp:l.Perm (a++b)) (hs:l.Pairwise (·<=·)):qbY l=qaM a b:=by
 refine qpC (qjO l hs) (qeg ha hb) fun z=>?_
 rw[qha,hp.mem_iff,yat,qbt]
def qeq (l:List Int) (n:Nat):List Int:=qbY (l.take n)
def qiS (x:Int) : ∀ (l:List Int),l≠[]->qbY (l ++ [x])=if l.getLast?=some x then qbY l else qbY l ++ [x]
 | [],h=>absurd rfl h
 | [y],_=>by
  by_cases h:y=x
  ·subst h;simp[qbY]
  ·simp[qbY,h]
 | y::z::r,_=>by
  have ih:=qiS x (z::r) (by simp);have e:(y::z::r).getLast?=(z::r).getLast?:=by simp[List.getLast?_cons_cons]
  rw[e];show qbY (y::z::(r ++ [x]))=_
  rw[qbY,qbY];have e2:z::(r ++ [x])=(z::r) ++ [x]:=rfl;rw[e2,ih];by_cases hyz:y=z
  ·rw[if_pos hyz,if_pos hyz]
  ·rw[if_neg hyz,if_neg hyz];by_cases h:(z::r).getLast?=some x
   ·rw[if_pos h,if_pos h]
   ·rw[if_neg h,if_neg h];rfl
def qeI (h0:0<n) (h:n<l.length):qeq l (n+1)=if l.getD n 0=l.getD (n-1) 0 then qeq l n else qeq l n ++ [l.getD n 0]:=by
 unfold qeq;have hg:l.getD n 0=l[n]:=by simp[List.getD,h]
 have hg1:l.getD (n-1) 0=l[n-1]:=by simp[List.getD,show n-1<l.length by omega]
 have hne:l.take n≠[]:=by
  intro e;have:=congrArg List.length e;rw[yaw,yal] at this;omega
 have hl:(l.take n).getLast?=some l[n-1]:=by
  rw[List.getLast?_eq_getElem?,yaw,show min n l.length=n by omega,List.getElem?_take,if_pos (by omega)];simp[show n-1<l.length by omega]
 rw[yaI h,qiS _ _ hne,hl,hg,hg1];by_cases e:l[n]=l[n-1]
 ·rw[if_pos (by rw[e]),if_pos e]
 ·rw[if_neg (by simpa using fun h=>e h.symm),if_neg e]
def qoi (h:0<l.length):qeq l 1=[l.getD 0 0]:=by
 match l,h with
 | x::r,_=>rfl
def qhb (l:List Int):qeq l l.length=qbY l:=by unfold qeq;rw[yax]
structure InsOk (l m:List Int) (i j:Nat):Prop where
 perm:m.Perm l
 low : ∀ p q,p<q->q<=i->p≠j->q≠j->m.getD p 0<=m.getD q 0
 up : ∀ q,j<q->q<=i->m.getD j 0<=m.getD q 0
def qlC (m:List Int) (j:Nat):List Int:=(m.set j (m.getD (j-1) 0)).set (j-1) (m.getD j 0)
def qiT {a p:Nat}{x:Int}(h:a<m.length):(m.set a x).getD p 0=if p=a then x else m.getD p 0:=by
 by_cases e:p=a
 ·subst e;rw[if_pos rfl];simp[List.getD,h]
 ·rw[if_neg e];simp[List.getD,List.getElem?_set,Ne.symm e]
def qpR (h:j<m.length) (h0:0<j) (p:Nat):(qlC m j).getD p 0=if p=j then m.getD (j-1) 0 else if p=j-1 then m.getD j 0 else m.getD p 0:=by
 unfold qlC;rw[qiT (by rw[yae];omega),qiT h];by_cases e1:p=j-1
 ·rw[if_pos e1,if_neg (by omega),if_pos e1]
 ·rw[if_neg e1];by_cases e2:p=j
  ·rw[if_pos e2,if_pos e2]
  ·rw[if_neg e2,if_neg e2,if_neg e1]
def qjP : ∀ {m:List Int}{j:Nat},j<m.length->0<j->(qlC m j).Perm m
 | x::y::r,1,_,_=>by
  show(y::x::r).Perm (x::y::r)
  exact List.Perm.swap x y r
 | x::r,j+2,h,_=>by
  have ih:=qjP (m:=r) (j:=j+1) (by simp at h;omega) (by omega);have e:qlC (x::r) (j+2)=x::qlC r (j+1):=by simp[qlC,List.set]
  rw[e];exact ih.cons x
def InsOk.swap (h:InsOk l m i j) (hi:i<m.length) (hj:j<=i) (h0:0<j) (hlt:m.getD j 0<m.getD (j-1) 0):InsOk l (qlC m j) i (j-1):=by
 have g:=qpR (m:=m) (j:=j) (by omega) h0;refine⟨(qjP (by omega) h0).trans h.perm,fun p q hpq hq hp1 hq1=>?_,fun q hq hqi=>?_⟩
 ·rw[g,g];rw[if_neg hp1,if_neg hq1] at *
  by_cases e1:p=j
  ·rw[if_pos e1,if_neg (by omega)];have:=h.low (j-1) q (by omega) hq (by omega) (by omega);exact this
  ·rw[if_neg e1];by_cases e2:q=j
   ·rw[if_pos e2];exact h.low p (j-1) (by omega) (by omega) e1 (by omega)
   ·rw[if_neg e2];exact h.low p q hpq hq e1 e2
 ·rw[g,g,if_neg (by omega),if_pos rfl];by_cases e1:q=j
  ·rw[if_pos e1];omega
  ·rw[if_neg e1,if_neg (by omega)];exact h.up q (by omega) hqi
def SortTo (l m:List Int) (i:Nat):Prop:=m.Perm l/\∀ p q,p<q->q<i->m.getD p 0<=m.getD q 0
def InsOk.start (h:SortTo l m i):InsOk l m i i:=
 ⟨h.1,fun p q hpq hq _ hq1=>h.2 p q hpq (by omega),fun q hq hqi=>by omega⟩
def InsOk.done (h:InsOk l m i j) (hj:j<=i) (hd:j=0∨m.getD (j-1) 0<=m.getD j 0):SortTo l m (i+1):=by
 refine⟨h.perm,fun p q hpq hq=>?_⟩;by_cases e1:p=j
 ·subst e1;exact h.up q hpq (by omega)
 ·by_cases e2:q=j
  ·subst e2;rcases hd with hd|hd
   ·omega
   ·by_cases e3:p=q-1
    ·rw[e3];exact hd
    ·exact Int.le_trans (h.low p (q-1) (by omega) (by omega) e1 (by omega)) hd
  ·exact h.low p q hpq (by omega) e1 e2
def SortTo.pairwise (h:SortTo l m m.length):m.Pairwise (·<=·):=by
 rw[ybn];intro i j hi hj hij;have:=h.2 i j hij hj;simpa [List.getD,hi,hj] using this
end Go.Proofs
