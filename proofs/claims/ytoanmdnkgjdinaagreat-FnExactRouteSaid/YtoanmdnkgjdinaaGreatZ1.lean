/- Contracts: routes compared, marked and held. Conditions: none; lemmas. -/
import Derived.Test.YtoanmdnkgjdinaaGreatC7
import Derived.Test.YtoanmdnkgjdinaaGreatE7
set_option maxRecDepth 20000
set_option linter.unusedVariables false
set_option linter.unusedSimpArgs false
namespace Go.Proofs
open Go Go.VL
def wR (r:Rt):Nat:=2+2*r.hops.length
def sumR (l:List Rt):Nat:=(l.map wR).sum
theorem qkj {l:List Rt}{i:Nat}(h:i<l.length):sumR (l.take (i+1))=sumR (l.take i)+wR (l.getD i rt0):=by
 unfold sumR
 rw[List.take_succ_eq_append_getElem h,List.map_append,List.sum_append]
 simp[List.getD,h]
theorem qnS {l:List Rt}(i:Nat):sumR (l.take i)≤sumR l:=by
 have h:sumR l=sumR (l.take i)+sumR (l.drop i):=by
  unfold sumR
  rw[←List.sum_append,←List.map_append,List.take_append_drop]
 omega
def mRt (r:Rt) (k:Int):Rt:=⟨k,k+1,qb5 (k+2) r.hops.length⟩
def mRts (l:List Rt) (k:Int):List Rt:=(List.range l.length).map fun j=>mRt (l.getD j rt0) (k+(sumR (l.take j):Int))
theorem qlK (l:List Rt) (k:Int):(mRts l k).length=l.length:=by simp[mRts]
theorem qlL (l:List Rt) (k:Int) {j:Nat}(h:j<l.length):(mRts l k).getD j rt0=mRt (l.getD j rt0) (k+(sumR (l.take j):Int)):=by simp[mRts,List.getD,h]
theorem set_rts {b:List Rt}{i:Nat}{t:Rt}:(b.map fun x=>dRt x).set i (dRt t)=(b.set i t).map fun x=>dRt x:=by rw[List.map_set]
theorem qbL {α : Type}{l:List α}{i:Nat}{x z : α}(h:i<l.length):(l.set i x).getD i z=x:=by simp[List.getD,h]
theorem qiM {α : Type}{l:List α}{i j:Nat}{x z : α}(h:i≠j):(l.set i x).getD j z=l.getD j z:=by simp[List.getD,List.getElem?_set,h]
theorem Tryz.c_eqHop (p q:Int×Int):Pure Tryz.prog 95 [dP p,dP q] (.bool (decide (p=q))):=by
 refine qam (E:=Tryz.env 0) Tryz.tok rfl 1000 Tryz.func95 rfl rfl Tryz.ntmps95 (by simp) fun ok=>?_
 simp only[go_sem,seval] at ok
 simp only[go_sem,seval,Tryz.results95]
 obtain⟨a,b⟩:=p
 obtain⟨c,d⟩:=q
 simp only[Prod.mk.injEq,false_eq_decide_iff,true_eq_decide_iff]
 exact⟨fun h=>by simp[h],fun h=>⟨fun h2=>by simp[h2],fun h2=>⟨h,h2⟩⟩⟩
theorem Tryz.c_eqHopS (a b:List (Int×Int)):Pure Tryz.prog 74 [dPs a,dPs b] (.bool (decide (a=b))):=by
 refine qam (E:=Tryz.env 0) Tryz.tok rfl 1000 Tryz.func74 rfl rfl Tryz.ntmps74 (by simp) fun ok=>?_
 simp only[go_sem,seval] at ok
 simp only[go_sem,seval,Tryz.results74]
 refine⟨fun h=>?_,fun hlen=>?_⟩
 ·simp only[false_eq_decide_iff]
  rintro rfl
  exact h rfl
 refine qaB (E:=Tryz.env 0) Tryz.tok (σ:=Nat) (fun i=>[(0,.d (dPs a)),(1,.d (dPs b)),(5,.d (dI i))]) (fun _=>[]) (fun i=>i≤a.length∧∀ j,j<i→a.getD j (0,0)=b.getD j (0,0)) (fun i=>a.length-i) [] 1000 1000 ?_ ?_ ?_
 ·simp only[go_sem,seval]
 ·simp only[go_sem,seval]
  exact⟨0,⟨by omega,by omega⟩,rfl⟩
 ·intro i hi
  simp only[go_sem,seval,Tryz.results74]
  refine⟨fun h1=>⟨by kernel_rfl,h1,by omega,qa9 (fun _=>⟨Tryz.c_eqHop _ _,trivial⟩) ?_⟩,fun h1=>?_⟩
  ·simp only[go_sem,seval,Tryz.results74]
   refine⟨fun h2=>?_,fun h2=>⟨by rw[qad];omega,i+1,⟨by omega,fun j hj=>?_⟩,by omega,rfl⟩⟩
   ·simp only[false_eq_decide_iff]
    rintro rfl
    exact h2 rfl
   ·by_cases hji:j=i
    ·subst hji;exact h2
    ·exact hi.2 j (by omega)
  ·simp only[true_eq_decide_iff]
   exact qbV (0,0) hlen fun j hj=>hi.2 j (by omega)
theorem Tryz.c_eqNetRoute (a b:Rt):Pure Tryz.prog 46 [dRt a,dRt b] (.bool (decide (a=b))):=by
 have hh:=Tryz.c_eqHopS a.hops b.hops
 have hx:a=b↔a.net=b.net∧a.track=b.track∧a.hops=b.hops:=⟨fun h=>by subst h;exact⟨rfl,rfl,rfl⟩,fun h=>Rt.ext' h.1 h.2.1 h.2.2⟩
 refine qam (E:=Tryz.env 0) Tryz.tok rfl 1000 Tryz.func46 rfl rfl Tryz.ntmps46 (by simp) fun ok=>?_
 simp only[go_sem,seval] at ok
 simp only[go_sem,seval,Tryz.results46]
 repeat' first|assumption|(simp (disch:=first|assumption|omega|(simp;done)|(simp;omega)) only[qaa,qac,List.take_of_length_le,qab,qaj,qbL];try simp only[go_sem,seval,Tryz.results46])|(with_reducible refine And.intro ?_ ?_)|(with_reducible intro _)|(refine qai hh ?_;simp only[go_sem,seval,Tryz.results46])|((with_reducible (show Region.lexB _ _=true));kernel_rfl)|((try rw[qad]);omega)
 all_goals first
  | (rename_i h1;rw[eq_comm,decide_eq_false];rw[hx];rintro⟨q1,q2,q3⟩;first|exact h1 q1|exact h1 q2|exact h1 q3)
  | (rw[eq_comm,decide_eq_true_eq,hx];exact⟨by assumption,by assumption,by assumption⟩)
theorem Tryz.c_eqNetRouteS (a b:List Rt):Pure Tryz.prog 19 [dRts a,dRts b] (.bool (decide (a=b))):=by
 refine qam (E:=Tryz.env 0) Tryz.tok rfl 1000 Tryz.func19 rfl rfl Tryz.ntmps19 (by simp) fun ok=>?_
 simp only[go_sem,seval] at ok
 simp only[go_sem,seval,Tryz.results19]
 refine⟨fun h=>?_,fun hlen=>?_⟩
 ·simp only[false_eq_decide_iff]
  rintro rfl
  exact h rfl
 refine qaB (E:=Tryz.env 0) Tryz.tok (σ:=Nat) (fun i=>[(0,.d (dRts a)),(1,.d (dRts b)),(5,.d (dI i))]) (fun _=>[]) (fun i=>i≤a.length∧∀ j,j<i→a.getD j rt0=b.getD j rt0) (fun i=>a.length-i) [] 1000 1000 ?_ ?_ ?_
 ·simp only[go_sem,seval]
 ·simp only[go_sem,seval]
  exact⟨0,⟨by omega,by omega⟩,rfl⟩
 ·rintro i ⟨hi,hinv⟩
  by_cases hlt:i<a.length
  ·have hlt2:i<b.length:=by omega
   have hq:=Tryz.c_eqNetRoute (a.getD i rt0) (b.getD i rt0)
   have hbad:a.getD i rt0≠b.getD i rt0→¬ a=b:=fun h1 h2=>h1 (by rw[h2])
   have hup:a.getD i rt0=b.getD i rt0→∀ j,j<i+1→a.getD j rt0=b.getD j rt0:=fun h j hj=>by
    by_cases e:j=i
    ·subst e;exact h
    ·exact hinv j (by omega)
   generalize hx9:a.getD i rt0=x at *
   generalize hy9:b.getD i rt0=y at *
   simp only[go_sem,seval,Tryz.results19,hx9,hy9]
   repeat' first|assumption|(simp (disch:=first|assumption|omega|(simp;done)|(simp;omega)) only[qaa,qac,List.take_of_length_le,qab,qaj,qbL];try simp only[go_sem,seval,Tryz.results19,hx9,hy9])|(with_reducible refine And.intro ?_ ?_)|(with_reducible intro _)|(refine qa9 (fun _=>⟨hq,trivial⟩) ?_;simp only[go_sem,seval,Tryz.results19,hx9,hy9])|((with_reducible (show Region.lexB _ _=true));kernel_rfl)|((try rw[qad]);omega)
   ·rename_i h1
    rw[eq_comm,decide_eq_false]
    exact hbad h1
   ·rename_i h1
    exact⟨i+1,⟨by omega,hup h1⟩,by omega,rfl⟩
  ·simp only[go_sem,seval,Tryz.results19]
   repeat' first|assumption|(simp (disch:=first|assumption|omega|(simp;done)|(simp;omega)) only[qaa,qac,List.take_of_length_le,qab,qaj,qbL];try simp only[go_sem,seval,Tryz.results19])|(with_reducible refine And.intro ?_ ?_)|(with_reducible intro _)|((with_reducible (show Region.lexB _ _=true));kernel_rfl)|((try rw[qad]);omega)
   simp only[true_eq_decide_iff]
   exact qbV rt0 hlen fun j hj=>hinv j (by omega)
def qdh:List (Int×Int)→List Int
 | []=>[]
 | p::r=>p.1::p.2::qdh r
theorem qhU : ∀ (n:Nat) (k:Int),Tryz.held (qdh (qb5 k n)) k=k+2*(n:Int)
 | 0,k=>by simp[qb5,qdh,Tryz.held]
 | n+1,k=>by
  have e:qb5 k (n+1)=(k,k+1)::qb5 (k+2) n:=by
   simp only[qb5,List.range_succ_eq_map,List.map_cons,List.map_map]
   congr 1
   ·simp
   ·apply List.map_congr_left
    intro j hj
    simp only[Function.comp,Prod.mk.injEq]
    omega
  rw[e,qdh,Tryz.held,if_pos rfl,Tryz.held,if_pos rfl]
  have:=qhU n (k+2)
  rw[show k+1+1=k+2 by omega,this]
  omega
theorem Tryz.c_heldHopS (a:List (Int×Int)) (k:Int) (hk:0≤k∧k+2*a.length≤9000000000000000000):Pure Tryz.prog 48 [dPs a,dI k] (dI (Tryz.held (qdh a) k)):=by
 refine qam (E:=Tryz.env 0) Tryz.tok rfl 1000 Tryz.func48 rfl rfl Tryz.ntmps48 (by simp) fun ok=>?_
 simp only[go_sem,seval] at ok
 simp only[go_sem,seval,Tryz.results48]
 refine qaB (E:=Tryz.env 0) Tryz.tok (σ:=Nat) (fun i=>[(0,.d (dPs a)),(1,.d (dI (k+2*(i:Int)))),(5,.d (dI i))]) (fun _=>[]) (fun i=>i≤a.length∧Tryz.held (qdh a) k=Tryz.held (qdh (a.drop i)) (k+2*(i:Int))) (fun i=>a.length-i) [] 1000 1000 ?_ ?_ ?_
 ·simp only[go_sem,seval]
 ·simp only[go_sem,seval]
  exact⟨0,by simp⟩
 ·rintro i ⟨hi,hinv⟩
  simp only[go_sem,seval,Tryz.results48]
  repeat' first|assumption|(simp (disch:=first|assumption|omega|(simp;done)|(simp;omega)) only[qaa,qac,List.take_of_length_le,qab,qaj,qbL];try simp only[go_sem,seval,Tryz.results48])|(with_reducible refine And.intro ?_ ?_)|(with_reducible intro _)|((with_reducible (show Region.lexB _ _=true));kernel_rfl)|((try rw[qad]);omega)
  ·rename_i h1 h2
   rw[hinv,qeC (0,0) h1,qdh,Tryz.held,if_neg h2]
  ·rename_i h1 h2 h3
   rw[hinv,qeC (0,0) h1,qdh,Tryz.held,if_pos h2,Tryz.held,if_neg h3]
  ·rename_i h1 h2 h3
   refine⟨i+1,⟨by omega,?_⟩,by omega,by omega,rfl⟩
   rw[hinv,qeC (0,0) h1,qdh,Tryz.held,if_pos h2,Tryz.held,if_pos h3]
   congr 1
   omega
  ·rw[hinv,List.drop_eq_nil_of_le (by omega),qdh,Tryz.held]
theorem Tryz.c_markHopS (g:Nat) (a:List (Int×Int)) (k:Int) (hk:0≤k∧k+2*a.length≤9000000000000000000) (ha:a.length≤281474976710656) :
  Proc Tryz.prog 47 [.sl 0 g 2 0 a.length,.d (dI k)] [.row g 2 true (a.map dP)] (.d (dI (k+2*(a.length:Int)))) [.row g 2 true ((qb5 k a.length).map dP)]:=by
 refine qjm (E:=Tryz.env 1) Tryz.tok rfl 1000 Tryz.func47 rfl rfl Tryz.ntmps47 (by simp) ?_
 simp only[go_sem,seval,Tryz.results47]
 refine qaB (E:=Tryz.env 1) Tryz.tok (σ:=Nat×List (Int×Int)) (fun s=>[(0,.sl 0 g 2 0 a.length),(1,.d (dI (k+2*(s.1:Int)))),(5,.d (dI s.1))]) (fun s=>[.row g 2 true (s.2.map dP)]) (fun s=>s.1≤a.length∧s.2.length=a.length∧∀ (j:Nat),j<s.1→s.2.getD j (0,0)=(k+2*(j:Int),k+2*(j:Int)+1)) (fun s=>a.length-s.1) [] 1000 1000 ?_ ?_ ?_
 ·simp only[go_sem,seval]
 ·simp only[go_sem,seval]
  exact⟨(0,a),⟨by omega,rfl,fun j hj=>by simp at hj⟩,by simp⟩
 ·rintro⟨i,b⟩ ⟨hi,hb,hinv⟩
  simp only at hi hb hinv
  simp only[go_sem,seval,Tryz.results47]
  repeat' first|assumption|(simp (disch:=first|assumption|omega|(simp;done)|(simp;omega)) only[qaa,qac,List.take_of_length_le,qab,qaj,qbL];try simp only[go_sem,seval,Tryz.results47])|(with_reducible refine And.intro ?_ ?_)|(with_reducible intro _)|((with_reducible (show Region.lexB _ _=true));kernel_rfl)|((try rw[qad]);omega)
  ·refine⟨(i+1,b.set i (k+2*(i:Int),k+2*(i:Int)+1)),⟨by omega,by simpa using hb,fun j hj=>?_⟩,by omega,⟨by simp only;omega,rfl⟩,?_⟩
   ·simp only at hj ⊢
    by_cases hji:j=i
    ·subst hji;rw[qcq _ (by omega)]
    ·rw[qcH _ (by omega)];exact hinv j (by omega)
   ·first|exact rfl|(simp;done)
  ·refine qbV (0,0) (by simpa [qb5] using hb) fun j hj=>?_
   rw[hinv j (by omega)]
   simp[qb5,List.getD,show j<a.length by omega]
theorem Tryz.c_markNetRouteS (g:Nat) (l:List Rt) (k:Int) (hk:0≤k∧k+sumR l≤1000000000000) (hl:l.length≤1000000000000) :
  ICall Tryz.prog 20 [.sl 0 g 3 0 l.length,.d (dI k)] [.row g 3 true (l.map fun x=>dRt x)] (fun r H'=>r=.d (dI (k+(sumR l:Int)))∧H'=[.row g 3 true ((mRts l k).map fun x=>dRt x)]):=by
 refine qaJ (E:=Tryz.env 1) Tryz.tok rfl 1000 Tryz.func20 rfl rfl Tryz.ntmps20 (by simp) ?_
 simp only[go_sem,seval,Tryz.results20]
 refine qaq (E:=Tryz.env 1) Tryz.tok (σ:=Nat×List Rt) (fun s=>[(0,.sl 0 g 3 0 l.length),(1,.d (dI (k+(sumR (l.take s.1):Int)))),(5,.d (dI s.1))]) (fun s=>[.row g 3 true (s.2.map fun x=>dRt x)]) (fun s=>s.1≤l.length∧s.2.length=l.length∧(∀ (j:Nat),j<s.1→s.2.getD j rt0=mRt (l.getD j rt0) (k+(sumR (l.take j):Int)))∧∀ (j:Nat),s.1≤j→s.2.getD j rt0=l.getD j rt0) (fun s=>l.length-s.1) [] [] 1000 1000 ?_ ?_
 ·simp only[go_sem,seval]
  exact⟨(0,l),⟨by omega,rfl,fun j hj=>absurd hj (by simp),fun j hj=>rfl⟩,by simp[sumR]⟩
 ·rintro⟨i,b⟩ ⟨hi,hb,hlo,hhi⟩
  simp only at hi hb hlo hhi
  by_cases hlt:i<l.length
  ·have e1:=qkj hlt
   have e2:=qnS (l:=l) (i+1)
   have e3:wR (l.getD i rt0)=2+2*(l.getD i rt0).hops.length:=rfl
   have e4:=hhi i (by omega)
   have hnext : ∃ s':Nat×List Rt,(s'.1≤l.length∧s'.2.length=l.length∧(∀ (j:Nat),j<s'.1→s'.2.getD j rt0=mRt (l.getD j rt0) (k+(sumR (l.take j):Int)))∧∀ (j:Nat),s'.1≤j→s'.2.getD j rt0=l.getD j rt0)∧s'.1=i+1∧
     s'.2=b.set i (mRt (l.getD i rt0) (k+(sumR (l.take i):Int))):=by
    refine⟨(i+1,b.set i (mRt (l.getD i rt0) (k+(sumR (l.take i):Int)))),⟨by omega,by simpa using hb,fun j hj=>?_,fun j hj=>?_⟩,rfl,rfl⟩
    ·simp only at hj ⊢
     by_cases hji:j=i
     ·subst hji;rw[qbL (by omega)]
     ·rw[qiM (Ne.symm hji)];exact hlo j (by omega)
    ·simp only at hj ⊢
     rw[qiM (by omega)];exact hhi j (by omega)
   generalize hkk:k+(sumR (l.take i):Int)=kk at *
   generalize l.getD i rt0=p at *
   obtain⟨n,t,h⟩:=p
   simp only at e3
   simp only[go_sem,seval,Tryz.results20]
   repeat' first|assumption|(simp (disch:=first|assumption|omega|(simp;done)|(simp;omega)) only[qaa,qac,List.take_of_length_le,qab,qaj,qbL];try simp only[go_sem,seval,Tryz.results20,e4])|(with_reducible refine And.intro ?_ ?_)|(with_reducible intro _)|((with_reducible (show Region.lexB _ _=true));kernel_rfl)|((try rw[qad]);omega)
   refine qcc (Tryz.c_markHopS 1 h (kk+1+1) (by omega) (by omega)) [1] (by simp only[go_sem,seval]) ?_
   simp only[go_sem,seval,Tryz.results20]
   repeat' first|assumption|(simp (disch:=first|assumption|omega|(simp;done)|(simp;omega)) only[qaa,qac,List.take_of_length_le,qab,qaj,qbL];try simp only[go_sem,seval,Tryz.results20,e4])|(with_reducible refine And.intro ?_ ?_)|(with_reducible intro _)|((with_reducible (show Region.lexB _ _=true));kernel_rfl)|((try rw[qad]);omega)
   obtain⟨s',h1,h2,h3⟩:=hnext
   refine⟨s',h1,by omega,⟨by rw[h2];omega,by omega⟩,?_⟩
   have e7:kk+1+1=kk+2:=by omega
   rw[e7,List.take_of_length_le (show(qb5 (kk+2) h.length).length≤h.length by simp[qb5])]
   simp only[List.set_set]
   rw[h3,←set_rts]
   rfl
  ·simp only[go_sem,seval,Tryz.results20]
   repeat' first|assumption|(simp (disch:=first|assumption|omega|(simp;done)|(simp;omega)) only[qaa,qac,List.take_of_length_le,qab,qaj,qbL];try simp only[go_sem,seval,Tryz.results20])|(with_reducible refine And.intro ?_ ?_)|(with_reducible intro _)|((with_reducible (show Region.lexB _ _=true));kernel_rfl)|((try rw[qad]);omega)
   refine qcd ⟨rfl,?_⟩
   have e:b=mRts l k:=qbV rt0 (by rw[hb,qlK]) fun j hj=>by rw[hlo j (by omega),qlL l k (by omega)]
   rw[e]
theorem Tryz.c_heldNetRouteS (l:List Rt) (k:Int) (hk:0≤k∧k+sumR l≤1000000000000):Pure Tryz.prog 21 [dRts (mRts l k),dI k] (dI (k+(sumR l:Int))):=by
 refine qam (E:=Tryz.env 0) Tryz.tok rfl 1000 Tryz.func21 rfl rfl Tryz.ntmps21 (by simp) fun ok=>?_
 simp only[go_sem,seval] at ok
 have hlen:=qlK l k
 simp only[go_sem,seval,Tryz.results21]
 refine qaB (E:=Tryz.env 0) Tryz.tok (σ:=Nat) (fun i=>[(0,.d (dRts (mRts l k))),(1,.d (dI (k+(sumR (l.take i):Int)))),(5,.d (dI i))]) (fun _=>[]) (fun i=>i≤l.length) (fun i=>l.length-i) [] 1000 1000 ?_ ?_ ?_
 ·simp only[go_sem,seval]
 ·simp only[go_sem,seval]
  exact⟨0,by omega,by simp[sumR]⟩
 ·intro i hi
  by_cases hlt:i<l.length
  ·have e1:=qkj hlt
   have e2:=qnS (l:=l) (i+1)
   have e3:wR (l.getD i rt0)=2+2*(l.getD i rt0).hops.length:=rfl
   have e4:=qlL l k hlt
   generalize hkk:k+(sumR (l.take i):Int)=kk at *
   generalize l.getD i rt0=p at *
   obtain⟨n,t,h⟩:=p
   simp only at e3
   have hml:(qb5 (kk+2) h.length).length=h.length:=by simp[qb5]
   have h1:=Tryz.c_heldHopS (qb5 (kk+2) h.length) (kk+2) (by rw[hml];omega)
   rw[qhU] at h1
   have e6:kk+1+1=kk+2:=by omega
   simp only[go_sem,seval,Tryz.results21,e6]
   repeat' first|assumption|(simp (disch:=first|assumption|omega|(simp;done)|(simp;omega)) only[qaa,qac,List.take_of_length_le,qab,qaj,qbL];try simp only[go_sem,seval,Tryz.results21,e4,mRt,hlen,e6])|(with_reducible refine And.intro ?_ ?_)|(with_reducible intro _)|(refine qai h1 ?_;simp only[go_sem,seval,Tryz.results21,e4,mRt,hlen,e6])|((with_reducible (show Region.lexB _ _=true));kernel_rfl)|((try rw[qad]);omega)
   exact⟨i+1,by omega,by omega,by omega,rfl⟩
  ·have e1:sumR l=sumR (l.take i):=by rw[List.take_of_length_le (by omega)]
   simp only[go_sem,seval,Tryz.results21]
   repeat' first|assumption|(simp (disch:=first|assumption|omega|(simp;done)|(simp;omega)) only[qaa,qac,List.take_of_length_le,qab,qaj,qbL];try simp only[go_sem,seval,Tryz.results21,hlen])|(with_reducible refine And.intro ?_ ?_)|(with_reducible intro _)|((with_reducible (show Region.lexB _ _=true));kernel_rfl)|((try rw[qad]);omega)
theorem Tryz.c_markDefectS (g:Nat) (l:List (Int×Int)) (k:Int) (hk:0≤k∧k+2*l.length≤1000000000000) :
  ICall Tryz.prog 35 [.sl 0 g 2 0 l.length,.d (dI k)] [.row g 2 true (l.map dP)] (fun r H'=>r=.d (dI (k+2*(l.length:Int)))∧∃ b:List (Int×Int),H'=[.row g 2 true (b.map dP)]):=by
 refine qaJ (E:=Tryz.env 1) Tryz.tok rfl 1000 Tryz.func35 rfl rfl Tryz.ntmps35 (by simp) ?_
 simp only[go_sem,seval,Tryz.results35]
 refine qaq (E:=Tryz.env 1) Tryz.tok (σ:=Nat×List (Int×Int)) (fun s=>[(0,.sl 0 g 2 0 l.length),(1,.d (dI (k+2*(s.1:Int)))),(5,.d (dI s.1))]) (fun s=>[.row g 2 true (s.2.map dP)]) (fun s=>s.1≤l.length∧s.2.length=l.length) (fun s=>l.length-s.1) [] [] 1000 1000 ?_ ?_
 ·simp only[go_sem,seval]
  exact⟨(0,l),⟨by omega,rfl⟩,by simp⟩
 ·rintro⟨i,b⟩ ⟨hi,hb⟩
  simp only at hi hb
  by_cases hlt:i<l.length
  ·simp only[go_sem,seval,Tryz.results35]
   repeat' first|assumption|(simp (disch:=first|assumption|omega|(simp;done)|(simp;omega)) only[qaa,qac,List.take_of_length_le,qab,qaj,qbL];try simp only[go_sem,seval,Tryz.results35])|(with_reducible refine And.intro ?_ ?_)|(with_reducible intro _)|((with_reducible (show Region.lexB _ _=true));kernel_rfl)|((try rw[qad]);omega)
   exact⟨(i+1,(b.set i (k+2*(i:Int),(b.getD i (0,0)).snd)).set i (k+2*(i:Int),k+2*(i:Int)+1)),⟨by simp only;omega,by simpa using hb⟩,by simp only;omega,⟨by simp only;omega,rfl⟩,rfl⟩
  ·simp only[go_sem,seval,Tryz.results35]
   repeat' first|assumption|(simp (disch:=first|assumption|omega|(simp;done)|(simp;omega)) only[qaa,qac,List.take_of_length_le,qab,qaj,qbL];try simp only[go_sem,seval,Tryz.results35])|(with_reducible refine And.intro ?_ ?_)|(with_reducible intro _)|((with_reducible (show Region.lexB _ _=true));kernel_rfl)|((try rw[qad]);omega)
   exact qcd ⟨by rw[show i=l.length by omega],b,rfl⟩
end Go.Proofs
