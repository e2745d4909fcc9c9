/- Contracts, plain definitions and lemmas. Conditions: none; lemmas. -/
import Derived.Test.YteikeianenfhaaaGreatC61
import Derived.Test.YteikeianenfhaaaGreatC6
set_option maxRecDepth 20000
set_option linter.unusedSimpArgs false
set_option linter.unusedVariables false
namespace Go.Proofs
open Go Go.VL
abbrev Kn:=List (Int×Bool)
def kn (m:Kn) (k:Int):Option Bool:=(m.find? fun e=>decide (e.1=k)).map fun e=>e.2
def knUp:Kn->Int->Bool->Kn
 | [],k,b=>[(k,b)]
 | e::r,k,b=>if e.1=k then(k,b)::r else e::knUp r k b
theorem qmh (k:Int) (b:Bool) (j:Int) : ∀ m,kn (knUp m k b) j=if j=k then some b else kn m j
 | []=>by by_cases h:j=k <;> simp[kn,knUp,h,eq_comm]
 | e::r=>by
  have ih:=qmh k b j r;unfold knUp;by_cases h:e.1=k
  ·rw[if_pos h];by_cases h2:j=k
   ·simp[kn,h2]
   ·have h3 : ¬ e.1=j:=fun h4=>h2 (by rw[<-h4,h])
    have h4 : ¬ k=j:=fun h5=>h2 h5.symm
    simp[kn,h2,h3,h4]
  ·rw[if_neg h];by_cases h3:e.1=j
   ·have h2 : ¬ j=k:=fun h4=>h (by rw[h3,h4])
    simp[kn,h2,h3]
   ·unfold kn at ih ⊢;simp only[List.find?_cons,decide_eq_false h3,ih]
def knE (m:Kn):List (D×D):=m.map fun e=>(dI e.1,D.bool e.2)
theorem qkf (k:Int) : ∀ m,qdj (knE m) (dI k)=(kn m k).map D.bool
 | []=>rfl
 | e::r=>by
  have ih:=qkf k r;show qdj ((dI e.1,D.bool e.2)::knE r) _=_
  rw[qgN,qdy];by_cases h:e.1=k
  ·subst h;simp[kn]
  ·rw[decide_eq_false (fun h2=>h h2.symm)];simp only[yaj,if_false,ih];simp[kn,h]
theorem qkg (k:Int) (b:Bool) : ∀ m,updD (knE m) (dI k) (D.bool b)=knE (knUp m k b)
 | []=>rfl
 | e::r=>by
  have ih:=qkg k b r;show updD ((dI e.1,D.bool e.2)::knE r) _ _=_
  rw[updD,qdy];by_cases h:e.1=k
  ·subst h;simp[knUp,knE]
  ·rw[decide_eq_false (fun h2=>h h2.symm)];simp only[yaj,if_false,ih];simp[knUp,knE,h]
theorem qhF (m:Kn):qbO (.int .i64) (knE m):=by
 rw[qet];intro e he;obtain⟨x,_,rfl⟩:=List.mem_map.1 he;exact rfl
structure KnOk (c:Circ) (leaves:List Int) (x:Nat) (m:Kn):Prop where
 val : ∀ k b,kn m k=some b->b=qcr c leaves x k
 leaf : ∀ z∈leaves,kn m z≠none
theorem KnOk.up {c:Circ}{leaves:List Int}{x:Nat}{m:Kn}(h:KnOk c leaves x m) (k:Int):KnOk c leaves x (knUp m k (qcr c leaves x k)):=by
 refine⟨fun j b hj=>?_,fun z hz=>?_⟩
 ·rw[qmh] at hj;split at hj
  ·rename_i e;subst e;simpa using hj.symm
  ·exact h.val j b hj
 ·rw[qmh];split
  ·simp
  ·exact h.leaf z hz
theorem qsj {c:Circ}{leaves:List Int}{x:Nat}{v:Int}{m:Kn}{X:Bool}{T:List R}(hm:KnOk c leaves x m) (hX:X=qcr c leaves x v) :
  endI 1 (fun r H'=>∃ m',KnOk c leaves x m'/\r=I.d (dB (qcr c leaves x v))/\H'=[R.map (knE m')]) (I.d (D.bool X)) (.map (updD (knE m) (dI v) (D.bool X))::T):=by
 subst hX;rw[qkg];refine qcu (r0:=.d (dB (qcr c leaves x v))) (H1:=[.map (knE (knUp m v (qcr c leaves x v)))]) ?_ ⟨_,hm.up v,rfl,rfl⟩;simp only[go_sem,seval]
set_option maxHeartbeats 4000000 in
theorem Tryz.c_coneValue (c:Circ) (hc:c.Valid) (leaves:List Int) (x:Nat) : ∀ (n:Nat) (v:Int) (m:Kn),v.toNat<n->0<=v->v<c.vars->KnOk c leaves x m->
  ICall Tryz.prog 208 [.d (pC c),.d (dI v),.map 0] [.map (knE m)] (fun r H'=>∃ m',KnOk c leaves x m'/\r=.d (dB (qcr c leaves x v))/\H'=[.map (knE m')]):=by
 have hf:=hc.first_bd;have hi0:=hc.i0;have hi1:=hc.i1;have hvv:=hc.vars_bd;have hfst:=Tryz.c_firstGate c (by omega);intro n;induction n with
 | zero=>intro v m h;omega
 | succ n ih=>
  intro v m hvn hv0 hv hm;have ek:=qkf v m;have hks:=qhF m;have hnl:kn m v=none->v∉leaves:=fun h hv=>hm.leaf v hv h
  cases hkn:kn m v with
  | some b=>
   rw[hkn] at ek;refine qaO (E:=Tryz.env 1) Tryz.tok rfl 1000 Tryz.func208 rfl rfl Tryz.ntmps208 (by simp) ?_;simp only[go_sem,seval,ek,yaD]
   repeat' first|assumption|(simp (disch:=first|assumption|omega|(simp;done)|(simp;omega)) only[qaa,qac,yaa,qab,qae,qaf];try simp only[go_sem,seval,ek,yaD])|(with_reducible first|refine And.intro ?_ ?_|intro _)|(refine qaj hfst ?_;simp only[go_sem,seval,ek,yaD])|(refine qaZ (fun _=>hfst) ?_;simp only[go_sem,seval,ek,yaD])|((try rw[qad]);omega)
   refine qcu (r0:=.d (dB (qcr c leaves x v))) (H1:=[.map (knE m)]) ?_ ⟨m,hm,rfl,rfl⟩;rw[<-hm.val v b hkn];simp only[go_sem,seval]
  | none=>
   rw[hkn] at ek;have hvl:=hnl hkn;by_cases hlow:v<c.first
   ·have hval:qcr c leaves x v=false:=by rw[qe5 hv0 hlow,qdK,if_neg hvl]
    refine qaO (E:=Tryz.env 1) Tryz.tok rfl 1000 Tryz.func208 rfl rfl Tryz.ntmps208 (by simp) ?_;simp only[go_sem,seval,ek,yaz]
    repeat' first|assumption|(simp (disch:=first|assumption|omega|(simp;done)|(simp;omega)) only[qaa,qac,yaa,qab,qae,qaf];try simp only[go_sem,seval,ek,yaz])|(with_reducible first|refine And.intro ?_ ?_|intro _)|(refine qaj hfst ?_;simp only[go_sem,seval,ek,yaz])|(refine qaZ (fun _=>hfst) ?_;simp only[go_sem,seval,ek,yaz])|((try rw[qad]);omega)
    refine qcu (r0:=.d (dB (qcr c leaves x v))) (H1:=[.map (knE m)]) ?_ ⟨m,hm,rfl,rfl⟩;rw[hval];simp only[go_sem,seval]
   ·obtain⟨i,rfl⟩ : ∃ i:Nat,v=c.first+(i:Int):=⟨(v-c.first).toNat,by omega⟩
    have hi:i<c.gates.length:=by unfold Circ.vars at hv;omega
    obtain⟨g1,g2⟩:=hc.g i hi;have hval:=qfk hc (leaves:=leaves) (x:=x) hi;rw[qdK,if_neg hvl] at hval;have ei:(c.first+(i:Int)-c.first).toNat=i:=by omega
    have ea:qbn c i=(c.gates.getD i (0,0)).1:=rfl;have eb:qbo c i=(c.gates.getD i (0,0)).2:=rfl;rw[ea,eb] at hval;unfold qa4 at g1 g2;have iha:=fun m hm=>ih ((c.gates.getD i (0,0)).1/2) m (by omega) (by omega) (by unfold Circ.vars;omega) hm
    have ihb:=fun m hm=>ih ((c.gates.getD i (0,0)).2/2) m (by omega) (by omega) (by unfold Circ.vars;omega) hm
    have hg : ∀ z,(c.gates.map fun x=>dP x).getD i z=dP (c.gates.getD i (0,0)):=fun z=>getD_lt _ _ _ _ _ hi
    generalize c.gates.getD i (0,0)=gg at *
    obtain⟨ga,gb⟩:=gg;simp only at hval g1 g2 iha ihb;have ha2:((ga.toNat &&& 1:Nat):Int)=ga%2:=by rw[Nat.and_one_is_mod];omega
    have hb2:((gb.toNat &&& 1:Nat):Int)=gb%2:=by rw[Nat.and_one_is_mod];omega
    have cva : ∀ {m:Kn}{T:List R}{K:I->List R->Prop},KnOk c leaves x m->(∀ m',KnOk c leaves x m'->K (.d (dB (qcr c leaves x (ga/2)))) (.map (knE m')::T))->
      ICall Tryz.prog 208 [.d (pC c),.d (dI (ga/2)),.map 0] (.map (knE m)::T) K:=fun {m T K} hm hk=>by
     refine qaB (iha m hm) [0] (by simp only[go_sem,seval]) ?_;rintro r0 H1 ⟨m',hm',rfl,rfl⟩;have:=hk m' hm';simp only[go_sem,seval];simpa using this
    have cvb : ∀ {m:Kn}{T:List R}{K:I->List R->Prop},KnOk c leaves x m->(∀ m',KnOk c leaves x m'->K (.d (dB (qcr c leaves x (gb/2)))) (.map (knE m')::T))->
      ICall Tryz.prog 208 [.d (pC c),.d (dI (gb/2)),.map 0] (.map (knE m)::T) K:=fun {m T K} hm hk=>by
     refine qaB (ihb m hm) [0] (by simp only[go_sem,seval]) ?_;rintro r0 H1 ⟨m',hm',rfl,rfl⟩;have:=hk m' hm';simp only[go_sem,seval];simpa using this
    refine qaO (E:=Tryz.env 1) Tryz.tok rfl 1000 Tryz.func208 rfl rfl Tryz.ntmps208 (by simp) ?_;simp only[go_sem,seval,ek,yaz,ei,hg]
    repeat' first|assumption|(simp (disch:=first|assumption|omega|(simp;done)|(simp;omega)) only[qaa,qac,yaa,qab,qae,qaf];try simp only[go_sem,seval,ek,yaz,ei,hg])|(with_reducible first|refine And.intro ?_ ?_|intro _)|(refine qaj hfst ?_;simp only[go_sem,seval,ek,yaz,ei,hg])|(refine qaZ (fun _=>hfst) ?_;simp only[go_sem,seval,ek,yaz,ei,hg])|((try rw[qad]);omega)
    refine qaL (E:=Tryz.env 1) Tryz.tok Tryz.follows 1000 1000 [11] (.fst 0 (.fst 1 (.fst 2 (.fst 4 (.fst 5 (.fst 3 (.two 6 (.fst 7 (.fst 8 (.two 9 (.one 10 (.one 11 (.done))) 10 (.one 9 (.one 11 (.done)))))) 10 (.one 6 (.fst 7 (.fst 8 (.one 9 (.one 11 (.done))))))))))))) (by kernel_rfl) ?_;simp only[go_sem,seval,ek,yaz,ei,hg]
    repeat' first|assumption|(simp (disch:=first|assumption|omega|(simp;done)|(simp;omega)) only[qaa,qac,yaa,qab,qae,qaf];try simp only[go_sem,seval,ek,yaz,ei,hg])|(with_reducible first|refine And.intro ?_ ?_|intro _)|(refine qaj hfst ?_;simp only[go_sem,seval,ek,yaz,ei,hg])|(refine qaZ (fun _=>hfst) ?_;simp only[go_sem,seval,ek,yaz,ei,hg])|((try rw[qad]);omega)
    all_goals (
     refine qaL (E:=Tryz.env 1) Tryz.tok Tryz.follows 1000 1000 [5,17] (.fst 0 (.fst 1 (.fst 4 (.fst 6 (.fst 2 (.fst 3 (.two 5 (.one 7 (.fst 8 (.fst 9 (.fst 10 (.fst 11 (.fst 12 (.fst 13 (.fst 16 (.fst 18 (.two 14 (.fst 15 (.two 17 (.one 19 (.fst 20 (.fst 21 (.fst 22 (.fst 23 (.fst 24 (.done))))))) 19 (.fst 20 (.fst 21 (.one 17 (.fst 22 (.fst 23 (.fst 24 (.done))))))))) 19 (.fst 20 (.fst 21 (.one 14 (.fst 15 (.one 17 (.fst 22 (.fst 23 (.fst 24 (.done))))))))))))))))))) 7 (.fst 8 (.fst 9 (.one 5 (.fst 10 (.fst 11 (.fst 12 (.fst 13 (.fst 16 (.fst 18 (.two 14 (.fst 15 (.two 17 (.one 19 (.fst 20 (.fst 21 (.fst 22 (.fst 23 (.fst 24 (.done))))))) 19 (.fst 20 (.fst 21 (.one 17 (.fst 22 (.fst 23 (.fst 24 (.done))))))))) 19 (.fst 20 (.fst 21 (.one 14 (.fst 15 (.one 17 (.fst 22 (.fst 23 (.fst 24 (.done)))))))))))))))))))))))))) (by kernel_rfl) ?_;simp only[go_sem,seval,ha2,hb2]
     repeat' first|assumption|(simp (disch:=first|assumption|omega|(simp;done)|(simp;omega)) only[qaa,qac,yaa,qab,qae,qaf];try simp only[go_sem,seval,ha2,hb2])|(with_reducible first|refine And.intro ?_ ?_|intro _)|(refine cva (by assumption) ?_;simp only[go_sem,seval,ha2,hb2])|(refine cvb (by assumption) ?_;simp only[go_sem,seval,ha2,hb2])|(refine @Exists.intro I _ (I.d (D.bool false)) ?_;simp only[go_sem,seval,ha2,hb2])|((try rw[qad]);omega))
    all_goals first
     | exact qhF _
     | exact qsj (by assumption) hval.symm
     | exact qsj (by assumption) (by rw[hval];simp_all)

noncomputable instance:DecidableEq Circ:=fun _ _=>Classical.propDecidable _
theorem Tryz.c_eqGate (p q:Int×Int):Pure Tryz.prog 158 [dP p,dP q] (.bool (decide (p=q))):=by
 refine qas (E:=Tryz.env 0) Tryz.tok rfl 1000 Tryz.func158 rfl rfl Tryz.ntmps158 (by simp) fun ok=>?_
 simp only[go_sem,seval] at ok;simp only[go_sem,seval];obtain⟨a,b⟩:=p;obtain⟨c,d⟩:=q;simp only[yac,false_eq_decide_iff,true_eq_decide_iff];exact⟨fun h=>by simp[h],fun h=>⟨fun h2=>by simp[h2],fun h2=>⟨h,h2⟩⟩⟩
theorem Tryz.c_eqGateS (a b:List (Int×Int)):Pure Tryz.prog 91 [dPs a,dPs b] (.bool (decide (a=b))):=by
 refine qas (E:=Tryz.env 0) Tryz.tok rfl 1000 Tryz.func91 rfl rfl Tryz.ntmps91 (by simp) fun ok=>?_
 simp only[go_sem,seval] at ok;simp only[go_sem,seval];refine⟨fun h=>?_,fun hlen=>?_⟩
 ·simp only[false_eq_decide_iff];rintro rfl;exact h rfl
 refine qaF (E:=Tryz.env 0) Tryz.tok (σ:=Nat) (fun i=>[(0,.d (dPs a)),(1,.d (dPs b)),(5,.d (dI i))]) (fun _=>[]) (fun i=>i<=a.length/\∀ j,j<i->a.getD j (0,0)=b.getD j (0,0)) (fun i=>a.length-i) [] 1000 1000 ?_ ?_ ?_
 ·simp only[go_sem,seval]
 ·simp only[go_sem,seval];exact⟨0,⟨by omega,by omega⟩,rfl⟩
 ·intro i hi;simp only[go_sem,seval];refine⟨fun h1=>⟨by kernel_rfl,h1,by omega,qb6 (fun _=>⟨Tryz.c_eqGate _ _,trivial⟩) ?_⟩,fun h1=>?_⟩
  ·simp only[go_sem,seval];refine⟨fun h2=>?_,fun h2=>⟨by rw[qad];omega,i+1,⟨by omega,fun j hj=>?_⟩,by omega,rfl⟩⟩
   ·simp only[false_eq_decide_iff];rintro rfl;exact h2 rfl
   ·by_cases hji:j=i
    ·subst hji;exact h2
    ·exact hi.2 j (by omega)
  ·simp only[true_eq_decide_iff];exact qbz (0,0) hlen fun j hj=>hi.2 j (by omega)
theorem Circ.ext' {c d:Circ}(h1:c.inputs=d.inputs) (h2:c.next=d.next) (h3:c.gates=d.gates) (h4:c.outs=d.outs):c=d:=by cases c;cases d;simp_all
theorem Tryz.c_eqCircuit (c d:Circ):Pure Tryz.prog 28 [dC c,dC d] (.bool (decide (c=d))):=by
 refine qas (E:=Tryz.env 0) Tryz.tok rfl 1000 Tryz.func28 rfl rfl Tryz.ntmps28 (by simp) fun ok=>?_
 simp only[go_sem,seval] at ok;simp only[go_sem,seval]
 repeat' first|assumption|(simp (disch:=first|assumption|omega|(simp;done)|(simp;omega)) only[qaa,qac,yaa,qab];try simp only[go_sem,seval])|(with_reducible first|refine And.intro ?_ ?_|intro _)|(refine qaj (Tryz.c_eqIntS _ _) ?_;simp only[go_sem,seval])|(refine qaj (Tryz.c_eqGateS _ _) ?_;simp only[go_sem,seval])|((try rw[qad]);omega)
 ·simp only[false_eq_decide_iff];rintro rfl;simp_all
 ·simp only[false_eq_decide_iff];rintro rfl;simp_all
 ·simp only[false_eq_decide_iff];rintro rfl;simp_all
 ·simp only[false_eq_decide_iff];rintro rfl;simp_all
 ·simp only[true_eq_decide_iff];exact Circ.ext' (by assumption) (by assumption) (by assumption) (by assumption)
def qkh (k:Int) (n:Nat):List (Int×Int):=(List.range n).map fun(j:Nat)=>(k+2*(j:Int),k+2*(j:Int)+1)
theorem Tryz.c_markGateS (g:Nat) (a:List (Int×Int)) (k:Int) (hk:0<=k/\k+2*a.length<=9000000000000000000) (ha:a.length<=281474976710656) :
  Proc Tryz.prog 93 [.sl 0 g 2 0 a.length,.d (dI k)] [.row g 2 true (a.map dP)] (.d (dI (k+2*(a.length:Int)))) [.row g 2 true ((qkh k a.length).map dP)]:=by
 refine qma (E:=Tryz.env 1) Tryz.tok rfl 1000 Tryz.func93 rfl rfl Tryz.ntmps93 (by simp) ?_;simp only[go_sem,seval];refine qaF (E:=Tryz.env 1) Tryz.tok (σ:=Nat×List (Int×Int)) (fun s=>[(0,.sl 0 g 2 0 a.length),(1,.d (dI (k+2*(s.1:Int)))),(5,.d (dI s.1))]) (fun s=>[.row g 2 true (s.2.map dP)]) (fun s=>s.1<=a.length/\s.2.length=a.length/\∀ (j:Nat),j<s.1->s.2.getD j (0,0)=(k+2*(j:Int),k+2*(j:Int)+1)) (fun s=>a.length-s.1) [] 1000 1000 ?_ ?_ ?_
 ·simp only[go_sem,seval]
 ·simp only[go_sem,seval];exact⟨(0,a),⟨by omega,rfl,fun j hj=>by simp at hj⟩,by simp⟩
 ·rintro⟨i,b⟩ ⟨hi,hb,hinv⟩;simp only at hi hb hinv;simp only[go_sem,seval]
  repeat' first|assumption|(simp (disch:=first|assumption|omega|(simp;done)|(simp;omega)) only[qaa,qac,yaa,qab];try simp only[go_sem,seval])|(with_reducible first|refine And.intro ?_ ?_|intro _)|((try rw[qad]);omega)
  ·refine⟨(i+1,b.set i (k+2*(i:Int),k+2*(i:Int)+1)),⟨by omega,by simpa using hb,fun j hj=>?_⟩,by omega,⟨by simp only;omega,rfl⟩,?_⟩
   ·simp only at hj ⊢;by_cases hji:j=i
    ·subst hji;rw[qcU _ (by omega)]
    ·rw[qdG _ (by omega)];exact hinv j (by omega)
   ·rw[List.set_set,qcU _ (by omega)]
  ·refine qbz (0,0) (by simpa [qkh] using hb) fun j hj=>?_
   rw[hinv j (by omega)];simp[qkh,List.getD,show j<a.length by omega]
theorem Tryz.c_markCircuit (g1 g2 g3:Nat) (c:Circ) (k:Int) (hk:0<=k/\k<=1000000) (h1:c.next.length<=2000000) (h2:c.gates.length<=2000000) (h3:c.outs.length<=2000000) :
  Proc Tryz.prog 29 [.agg [.d (dI c.inputs),.sl 0 g1 1 0 c.next.length,.sl 1 g2 2 0 c.gates.length,.sl 2 g3 1 0 c.outs.length],.d (dI k)]
   [.row g1 1 true (c.next.map (D.int .i64)),.row g2 2 true (c.gates.map dP),.row g3 1 true (c.outs.map (D.int .i64))] (.d (dI (k+c.next.length+2*c.gates.length+c.outs.length)))
   [.row g1 1 true (((List.range c.next.length).map fun(j:Nat)=>k+(j:Int)).map (D.int .i64)),.row g2 2 true ((qkh (k+c.next.length) c.gates.length).map dP),
    .row g3 1 true (((List.range c.outs.length).map fun(j:Nat)=>k+c.next.length+2*c.gates.length+(j:Int)).map (D.int .i64))]:=by
 refine qma (E:=Tryz.env 3) Tryz.tok rfl 1000 Tryz.func29 rfl rfl Tryz.ntmps29 (by simp) ?_;simp only[go_sem,seval];refine qea (Tryz.c_markIntS g1 c.next k (by omega) (by omega)) [0] (by simp only[go_sem,seval]) ?_;simp only[go_sem,seval];refine qea (Tryz.c_markGateS g2 c.gates (k+c.next.length) (by omega) (by omega)) [1] (by simp only[go_sem,seval]) ?_;simp only[go_sem,seval];refine qea (Tryz.c_markIntS g3 c.outs (k+c.next.length+2*c.gates.length) (by omega) (by omega)) [2] (by simp only[go_sem,seval]) ?_;simp only[go_sem,seval]

def rowsOk (c:Circ) (rows:List (List Bool)):Prop:=c.Valid/\rows.length<=40/\∀ r∈rows,(r.length:Int)=c.inputs
noncomputable instance (c:Circ) (rows:List (List Bool)):Decidable (rowsOk c rows):=Classical.propDecidable _
def qgV (c:Circ) (rows:List (List Bool)):Nat->List Bool
 | 0=>List.replicate c.next.length false
 | i+1=>qi3 (values c (qgV c rows i) (rows.getD i [])) c.next
end Go.Proofs
