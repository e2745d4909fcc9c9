/- Contracts, plain definitions and lemmas. Conditions: none; lemmas. -/
import Derived.Test.YtagfdhingigaoaaC78
import Derived.Test.YtagfdhingigaoaaC11
set_option maxRecDepth 20000
set_option linter.unusedVariables false
set_option linter.unusedSimpArgs false
namespace Go.Proofs
open Go Go.VL
theorem qlr {c:Circ}(hc:c.Valid) : ∀ x∈qcH c,∀ v∈x.inputs,0≤v∧v<c.vars:=by
 intro x hx v hv
 have hf:=hc.first_bd
 have hvv:c.vars=c.first+(c.gates.length:Int):=rfl
 rcases List.mem_append.1 hx with h|h
 ·obtain⟨i,hi,rfl⟩:=List.mem_map.1 h
  have hi':i<c.next.length:=List.mem_range.1 hi
  have hn:=hc.n _ (qan hi':c.next.getD i 0∈c.next)
  unfold qba at hn
  unfold qb7 at hv
  split at hv
  ·rw[List.mem_singleton.1 hv];omega
  ·cases hv
 ·obtain⟨l,hl,rfl⟩:=List.mem_map.1 h
  obtain⟨m,hm,rfl⟩:=(qf3 hc).each l hl
  have:=(qei hc hm).2.2 v hv
  omega
theorem qjd {c:Circ}(hc:c.Valid) {cells:List Cel}{place:List Int}(hp:PlaceOk cells.length place) {rs:List Rt}(h:qe2 c cells place qd4=some rs) :
  (∀ r∈rs,0≤r.net∧r.net<c.vars∧0≤r.track∧r.track≤7∧∀ h∈r.hops,0≤h.1∧h.1≤24)∧∀ r∈rs,r.hops.length≤1000:=by
 have hf:=hc.first_bd
 have hv:=hc.vars_bd
 have hrc:qe2 c cells place qd4=(qcU c cells place qd4 (c.vars.toNat-1)).map (·.2):=rfl
 rw[hrc] at h
 obtain⟨⟨busy,out⟩,h1,rfl⟩:=Option.map_eq_some_iff.1 h
 have hR:=qgX hc hp qkH _ h1
 constructor
 ·intro r hr
  have e:=hR.each r hr
  have e1:=e.net
  have e2:=e.track
  exact⟨by omega,by omega,by omega,by omega,e.tree.rng⟩
 ·intro r hr
  have:=qf7 (hR.each r hr).tree
  omega
noncomputable def qfr (c:Circ):Option Kcfg:=if c.Valid then(qe2 c (qcH c) (qhC c (qcH c)) qd4).map (qmU c (qcH c) (qhC c (qcH c))) else none
def kz:Kcfg:=⟨[],[]⟩
theorem Try.c_sConfigure (c:Circ):Pure Try.prog 23 [dC c] (.tup [dK ((qfr c).getD kz),dB (qfr c).isSome]):=by
 have hcv:=Try.c_sCircuitValid c
 unfold qfr
 by_cases hc:c.Valid
 ·rw[if_pos hc]
  rw[decide_eq_true hc] at hcv
  have h1:=Try.c_l6Cells c hc
  have hcl:=qhA hc
  have hci:=qfN hc
  have hcx:=qlr hc
  generalize qcH c=cells at *
  have h2:=Try.c_l7Place c hc cells (by omega) hci
  have hp:=qi1 (c:=c) (cells:=cells) (by omega)
  generalize qhC c cells=place at *
  have h3:=Try.c_l8Route c hc cells (by omega) hci place hp
  cases hro:qe2 c cells place qd4 with
  | none=>
   rw[hro] at h3
   refine qeU (E:=Try.env 0) Try.tok rfl 1000 Try.func23 rfl rfl Try.ntmps23 (by simp) fun ok=>?_
   simp only[go_sem,seval,-List.reduceReplicate] at ok
   simp only[go_sem,seval,-List.reduceReplicate,Try.results23]
   repeat' first|assumption|(simp (disch:=first|assumption|omega|(simp;done)|(simp;omega)) only[];try simp only[go_sem,seval,-List.reduceReplicate,Try.results23])|(with_reducible first|apply And.intro|intro _)|(refine qag hcv ?_;simp only[go_sem,seval,-List.reduceReplicate,Try.results23])|(refine qag h1 ?_;simp only[go_sem,seval,-List.reduceReplicate,Try.results23])|(refine qcO h2 ?_;simp only[go_sem,seval,-List.reduceReplicate,Try.results23])|(refine qcO h3 ?_;simp only[go_sem,seval,-List.reduceReplicate,Try.results23])|(refine qac ?_;simp only[go_sem,seval,-List.reduceReplicate,Try.results23])|exact lexT|((try rw[qaa]);omega)
   all_goals first|rfl|simp[wk2,wkL,wk1,kz]
  | some rs=>
   rw[hro] at h3
   obtain⟨hr1,hr2⟩:=qjd hc hp hro
   have h4:=Try.c_l9Build c hc cells (by omega) hci place hp hcx rs hr1 hr2
   refine qeU (E:=Try.env 0) Try.tok rfl 1000 Try.func23 rfl rfl Try.ntmps23 (by simp) fun ok=>?_
   simp only[go_sem,seval,-List.reduceReplicate] at ok
   simp only[go_sem,seval,-List.reduceReplicate,Try.results23]
   repeat' first|assumption|(simp (disch:=first|assumption|omega|(simp;done)|(simp;omega)) only[];try simp only[go_sem,seval,-List.reduceReplicate,Try.results23])|(with_reducible first|apply And.intro|intro _)|(refine qag hcv ?_;simp only[go_sem,seval,-List.reduceReplicate,Try.results23])|(refine qag h1 ?_;simp only[go_sem,seval,-List.reduceReplicate,Try.results23])|(refine qcO h2 ?_;simp only[go_sem,seval,-List.reduceReplicate,Try.results23])|(refine qcO h3 ?_;simp only[go_sem,seval,-List.reduceReplicate,Try.results23])|(refine qcm h4 ?_;simp only[go_sem,seval,-List.reduceReplicate,Try.results23])|(refine qac ?_;simp only[go_sem,seval,-List.reduceReplicate,Try.results23])|exact lexT|((try rw[qaa]);omega)
   all_goals first|rfl|simp[wk2,wkL,wk1]
 ·rw[if_neg hc]
  rw[decide_eq_false hc] at hcv
  refine qeU (E:=Try.env 0) Try.tok rfl 1000 Try.func23 rfl rfl Try.ntmps23 (by simp) fun ok=>?_
  simp only[go_sem,seval,-List.reduceReplicate] at ok
  simp only[go_sem,seval,-List.reduceReplicate,Try.results23]
  repeat' first|assumption|(simp (disch:=first|assumption|omega|(simp;done)|(simp;omega)) only[];try simp only[go_sem,seval,-List.reduceReplicate,Try.results23])|(with_reducible first|apply And.intro|intro _)|(refine qag hcv ?_;simp only[go_sem,seval,-List.reduceReplicate,Try.results23])|(refine qac ?_;simp only[go_sem,seval,-List.reduceReplicate,Try.results23])|exact lexT|((try rw[qaa]);omega)
  all_goals first|rfl|simp[wk2,wkL,wk1,kz]
end Go.Proofs

set_option maxRecDepth 20000
set_option linter.unusedVariables false
set_option linter.unusedSimpArgs false
namespace Go.Proofs
open Go Go.VL
def tern (x:Int):Prop:=0≤x∧x≤2
instance (x:Int):Decidable (tern x):=by unfold tern;infer_instance
def ternL (l:List Int):Prop:=∀ x∈l,tern x
noncomputable instance (l:List Int):Decidable (ternL l):=Classical.propDecidable _
theorem ternL.get {l:List Int}(h:ternL l) (i:Nat):tern (l.getD i 0):=by
 by_cases hi:i<l.length
 ·exact h _ (qan hi)
 ·rw[List.getD_eq_getElem?_getD,List.getElem?_eq_none (by omega)]
  exact⟨by simp,by simp⟩
def evOk (c:Circ) (st ins:List Int):Prop:=c.Valid∧st.length=c.next.length∧(ins.length:Int)=c.inputs∧ternL st∧ternL ins
noncomputable instance (c:Circ) (st ins:List Int):Decidable (evOk c st ins):=Classical.propDecidable _
end Go.Proofs

set_option maxRecDepth 20000
set_option linter.unusedVariables false
set_option linter.unusedSimpArgs false
namespace Go.Proofs
open Go Go.VL
@[go_sem] theorem two_get {k:IntKind}{a b z:Int}{m:Nat}:[D.int k a,D.int k b].getD m (D.int k z)=D.int k ([a,b].getD m z):=by
 rcases m with _|_|m <;> rfl
set_option maxHeartbeats 1000000 in
theorem Try.c_l20Circuit (b:List Int) (p n:Int) (hb:Try.Bytes b) (hp:0≤p∧p≤100000000) (hn:0≤n∧n≤1000) :
  ICall Try.prog 24 [.ptr 0 0,.d (dI n)] [Try.rd b p] (fun r H'=>∃ (c:Circ) (q:Int),(p≤q∧q≤p+200)∧(c.next.length≤40∧c.gates.length≤40∧c.outs.length≤40∧-1≤c.inputs∧c.inputs≤5)∧r=.d (dC c)∧H'=[Try.rd b q]):=by
 refine qco (E:=Try.env 1) Try.tok rfl 1000 Try.func24 rfl rfl Try.ntmps24 (by simp) ?_
 simp only[go_sem,seval,Try.results24]
 refine Try.pick_at hb (by omega) fun x1 hx1=>?_
 simp only[go_sem,seval,Try.results24]
 refine Try.pick_at hb (by omega) fun x2 hx2=>?_
 simp only[go_sem,seval,Try.results24]
 refine⟨by rw[qaa];omega,by rw[qaa];omega,?_⟩
 refine Try.pick_at hb (by omega) fun x3 hx3=>?_
 simp only[go_sem,seval,Try.results24]
 refine qh8 (E:=Try.env 1) Try.tok (σ:=List (Int×Int)×Int×Int×Int) (fun s=>[(0,.ptr 0 0),(1,.d (dI n)),(4,.ptr 1 0),(5,.ptr 2 0),(6,.d (dI x2)),(7,.d (dI s.2.1)),(8,.d (dI s.2.2.1))])
  (fun s=>[Try.rd b s.2.2.2,.box [.d (dI 0),.d .nil,.d .nil,.d .nil],.box [.d (dI x1),.d .nil,.sl 3 s.1.length 2 0 s.1.length,.d .nil],.row s.1.length 2 true (s.1.map dP)])
  (fun s=>0≤s.2.2.1∧s.1.length+s.2.2.1≤14∧1≤s.2.1∧s.2.1≤8+s.1.length∧p≤s.2.2.2∧s.2.2.2≤p+3+4*s.1.length) (fun s=>s.2.2.1.toNat) [(2,2,2,true)] [] 1000 1000 ?_ ?_ ?_ ?_
 ·simp only[go_sem,seval]
 ·simp only[go_sem,seval]
 ·simp only[go_sem,seval]
  exact⟨([],x1+x2+1,x3,p+1+1+1),by simp;omega,by simp⟩
 ·rintro⟨G,v,k,q⟩ hi
  simp only at hi
  simp only[go_sem,seval,Try.results24]
  refine⟨fun h1=>?_,fun h1=>?_⟩
  ·repeat' first|assumption|(simp (disch:=first|assumption|omega|(simp;done)|(simp;omega)) only[];try simp only[go_sem,seval,Try.results24])|(with_reducible first|apply And.intro|intro _)|(refine Try.pick_at hb (by omega) ?_;simp only[go_sem,seval,Try.results24])|(refine qac ?_;simp only[go_sem,seval,Try.results24])|exact lexT|((try rw[qaa]);omega)
   ·exact⟨(G ++ [_],v+1,k-1,_),by simp only[List.length_append,List.length_cons,List.length_nil];omega,by simp only;omega,⟨rfl,rfl⟩,rfl,by simp,by simp,rfl⟩
   ·exact⟨(G ++ [_],v+1,k-1,_),by simp only[List.length_append,List.length_cons,List.length_nil];omega,by simp only;omega,⟨rfl,rfl⟩,rfl,by simp,by simp,rfl⟩
  ·refine qh8 (E:=Try.env 1) Try.tok (σ:=List Int×Int) (fun s=>[(0,.ptr 0 0),(1,.d (dI n)),(4,.ptr 1 0),(5,.ptr 2 0),(6,.d (dI x2)),(7,.d (dI v)),(11,.d (dI s.1.length))])
    (fun s=>[Try.rd b s.2,.box [.d (dI 0),.d .nil,.d .nil,.d .nil],.box [.d (dI x1),.sl 4 s.1.length 1 0 s.1.length,.sl 3 G.length 2 0 G.length,.d .nil],.row G.length 2 true (G.map dP),.row s.1.length 1 true (s.1.map (D.int .i64))])
    (fun s=>s.1.length≤x2∧p≤s.2∧s.2≤p+60+s.1.length) (fun s=>x2.toNat-s.1.length) [(2,1,1,true)] [] 1000 1000 ?_ ?_ ?_ ?_
   ·simp only[go_sem,seval]
   ·simp only[go_sem,seval]
   ·simp only[go_sem,seval]
    exact⟨([],q),by simp;omega,by simp⟩
   ·rintro⟨N,q2⟩ hi2
    simp only at hi2
    simp only[go_sem,seval,Try.results24]
    refine⟨fun h2=>?_,fun h2=>?_⟩
    ·refine qau (E:=Try.env 1) Try.tok Try.follows 1000 1000 [5,7,9] (fsts [0,2,3,4] (.two 1 (.one 5 (.one 6 (.one 7 (.fst 8 (.one 9 .done))))) 5 (.two 1 (.one 6 (.one 7 (.fst 8 (.one 9 .done)))) 6 (.one 1 (.one 7 (.fst 8 (.one 9 .done))))))) (by kernel_rfl) ?_
     simp only[go_sem,seval,Try.results24]
     repeat' first|assumption|(simp (disch:=first|assumption|omega|(simp;done)|(simp;omega)) only[];try simp only[go_sem,seval,Try.results24])|(with_reducible first|apply And.intro|intro _)|(refine Try.pick_at hb (by omega) ?_;simp only[go_sem,seval,Try.results24])|(refine qac ?_;simp only[go_sem,seval,Try.results24])|exact lexT|((try rw[qaa]);omega)
     all_goals exact⟨(N ++ [_],_),by simp only[List.length_append,List.length_cons,List.length_nil];omega,by simp only[List.length_append,List.length_cons,List.length_nil];omega,by simp,rfl,by simp,by simp,rfl⟩
    ·refine Try.pick_at hb (by omega) fun x4 hx4=>?_
     simp only[go_sem,seval,Try.results24]
     refine qh8 (E:=Try.env 1) Try.tok (σ:=List Int×Int×Int) (fun s=>[(0,.ptr 0 0),(1,.d (dI n)),(4,.ptr 1 0),(5,.ptr 2 0),(7,.d (dI v)),(12,.d (dI s.2.1))])
      (fun s=>[Try.rd b s.2.2,.box [.d (dI 0),.d .nil,.d .nil,.d .nil],.box [.d (dI x1),.sl 4 N.length 1 0 N.length,.sl 3 G.length 2 0 G.length,.sl 5 s.1.length 1 0 s.1.length],.row G.length 2 true (G.map dP),.row N.length 1 true (N.map (D.int .i64)),.row s.1.length 1 true (s.1.map (D.int .i64))])
      (fun s=>0≤s.2.1∧s.1.length+s.2.1≤4∧p≤s.2.2∧s.2.2≤p+70+3*s.1.length) (fun s=>s.2.1.toNat) [(2,3,1,true)] [] 1000 1000 ?_ ?_ ?_ ?_
     ·simp only[go_sem,seval]
     ·simp only[go_sem,seval]
     ·simp only[go_sem,seval]
      exact⟨([],x4,q2+1),by simp;omega,by simp⟩
     ·rintro⟨O,k3,q3⟩ hi3
      simp only at hi3
      simp only[go_sem,seval,Try.results24]
      refine⟨fun h3=>?_,fun h3=>?_⟩
      ·refine qau (E:=Try.env 1) Try.tok Try.follows 1000 1000 [9,14,17,21,23] (fsts [0,2,3,4,5,6,7,8,11,12,13,16] (.two 1 (.one 9 (.fst 10 (.one 14 (.two 15 (.one 17 (.fst 18 (.one 19 (.one 20 (.one 21 (.fst 22 (.one 23 .done))))))) 17 (.one 15 (.fst 18 (.one 19 (.one 20 (.one 21 (.fst 22 (.one 23 .done))))))))))) 9 (.fst 10 (.two 1 (.one 14 (.two 15 (.one 17 (.fst 18 (.one 19 (.one 20 (.one 21 (.fst 22 (.one 23 .done))))))) 17 (.one 15 (.fst 18 (.one 19 (.one 20 (.one 21 (.fst 22 (.one 23 .done))))))))) 14 (.three 1 (.two 15 (.one 17 (.fst 18 (.one 19 (.one 20 (.one 21 (.fst 22 (.one 23 .done))))))) 17 (.one 15 (.fst 18 (.one 19 (.one 20 (.one 21 (.fst 22 (.one 23 .done)))))))) 15 (.two 1 (.one 17 (.fst 18 (.one 19 (.one 20 (.one 21 (.fst 22 (.one 23 .done))))))) 17 (.fst 18 (.two 1 (.one 19 (.one 20 (.one 21 (.fst 22 (.one 23 .done))))) 19 (.two 1 (.one 20 (.one 21 (.fst 22 (.one 23 .done)))) 20 (.one 1 (.one 21 (.fst 22 (.one 23 .done)))))))) 17 (.two 1 (.one 15 (.fst 18 (.one 19 (.one 20 (.one 21 (.fst 22 (.one 23 .done))))))) 15 (.fst 18 (.two 1 (.one 19 (.one 20 (.one 21 (.fst 22 (.one 23 .done))))) 19 (.two 1 (.one 20 (.one 21 (.fst 22 (.one 23 .done)))) 20 (.one 1 (.one 21 (.fst 22 (.one 23 .done))))))))))))) (by kernel_rfl) ?_
       simp only[go_sem,seval,Try.results24]
       repeat' first|assumption|(simp (disch:=first|assumption|omega|(simp;done)|(simp;omega)) only[];try simp only[go_sem,seval,Try.results24])|(with_reducible first|apply And.intro|intro _)|(refine Try.pick_at hb (by omega) ?_;simp only[go_sem,seval,Try.results24])|(refine qac ?_;simp only[go_sem,seval,Try.results24])|exact lexT|((try rw[qaa]);omega)
       all_goals exact⟨(O ++ [_],k3-1,_),by simp only[List.length_append,List.length_cons,List.length_nil];omega,by simp only;omega,rfl,rfl,by simp,by simp,rfl⟩
      ·refine Try.odd_at hb (by omega) hn fun x5 q5 hq5 hx5=>?_
       simp only[go_sem,seval,Try.results24]
       refine⟨fun h4=>?_,fun h4=>?_⟩
       ·refine Try.pick_at hb (by omega) fun x6 hx6=>?_
        simp only[go_sem,seval,Try.results24]
        repeat' first|assumption|(simp (disch:=first|assumption|omega|(simp;done)|(simp;omega)) only[];try simp only[go_sem,seval,Try.results24])|(with_reducible first|apply And.intro|intro _)|(refine Try.pick_at hb (by omega) ?_;simp only[go_sem,seval,Try.results24])|(refine qac ?_;simp only[go_sem,seval,Try.results24])|exact lexT|((try rw[qaa]);omega)
        ·rename_i z hz
         have hz5 : -1≤([-1,5]:List Int).getD z.toNat 0∧([-1,5]:List Int).getD z.toNat 0≤5:=by
          rcases(show z=0∨z=1 by omega) with rfl|rfl <;> decide
         refine qb5 (r0:=.d (dC ⟨[-1,5].getD z.toNat 0,N,G,O⟩)) (H1:=[Try.rd b (q5+1+1)]) ?_ ⟨⟨_,N,G,O⟩,q5+1+1,by omega,by simp only;omega,rfl,rfl⟩
         simp only[go_sem,seval]
        ·refine qau (E:=Try.env 1) Try.tok Try.follows 1000 1000 [6,10,12] (fsts [0,2,3,5] (.three 1 (.two 4 (.one 6 (.fst 7 (.one 8 (.one 9 (.one 10 (.fst 11 (.one 12 .done))))))) 6 (.one 4 (.fst 7 (.one 8 (.one 9 (.one 10 (.fst 11 (.one 12 .done)))))))) 4 (.two 1 (.one 6 (.fst 7 (.one 8 (.one 9 (.one 10 (.fst 11 (.one 12 .done))))))) 6 (.fst 7 (.two 1 (.one 8 (.one 9 (.one 10 (.fst 11 (.one 12 .done))))) 8 (.two 1 (.one 9 (.one 10 (.fst 11 (.one 12 .done)))) 9 (.one 1 (.one 10 (.fst 11 (.one 12 .done)))))))) 6 (.two 1 (.one 4 (.fst 7 (.one 8 (.one 9 (.one 10 (.fst 11 (.one 12 .done))))))) 4 (.fst 7 (.two 1 (.one 8 (.one 9 (.one 10 (.fst 11 (.one 12 .done))))) 8 (.two 1 (.one 9 (.one 10 (.fst 11 (.one 12 .done)))) 9 (.one 1 (.one 10 (.fst 11 (.one 12 .done)))))))))) (by kernel_rfl) ?_
         simp only[go_sem,seval,Try.results24]
         repeat' first|assumption|(simp (disch:=first|assumption|omega|(simp;done)|(simp;omega)) only[];try simp only[go_sem,seval,Try.results24])|(with_reducible first|apply And.intro|intro _)|(refine Try.pick_at hb (by omega) ?_;simp only[go_sem,seval,Try.results24])|(refine qac ?_;simp only[go_sem,seval,Try.results24])|exact lexT|((try rw[qaa]);omega)
         all_goals (
          rename_i z hz
          refine qb5 (r0:=.d (dC ⟨x1,N,G,O ++ [[-1,2*v].getD z.toNat 0]⟩)) (H1:=[Try.rd b (q5+1+1)]) ?_ ⟨⟨x1,N,G,O ++ [[-1,2*v].getD z.toNat 0]⟩,q5+1+1,by omega,by simp only[List.length_append,List.length_cons,List.length_nil];omega,rfl,rfl⟩
          simp only[go_sem,seval]
          rw[List.take_of_length_le (by simp)])
        ·refine qb5 (r0:=.d (dC ⟨x1,N ++ [-1],G,O⟩)) (H1:=[Try.rd b (q5+1)]) ?_ ⟨⟨x1,N ++ [-1],G,O⟩,q5+1,by omega,by simp;omega,rfl,rfl⟩
         simp only[go_sem,seval]
         rw[List.take_of_length_le (by simp)]
        ·refine qb5 (r0:=.d (dC ⟨x1,N,G ++ [(2*v,0)],O⟩)) (H1:=[Try.rd b (q5+1)]) ?_ ⟨⟨x1,N,G ++ [(2*v,0)],O⟩,q5+1,by omega,by simp;omega,rfl,rfl⟩
         simp only[go_sem,seval]
         rw[List.take_of_length_le (by simp)]
        ·refine qaH (E:=Try.env 1) Try.tok (σ:=List (Int×Int)) (fun s=>[(0,.ptr 0 0),(1,.d (dI n)),(4,.ptr 1 0),(5,.ptr 2 0)])
          (fun s=>[Try.rd b (q5+1),.box [.d (dI 0),.d .nil,.d .nil,.d .nil],.box [.d (dI x1),.sl 4 N.length 1 0 N.length,.sl 3 s.length 2 0 s.length,.sl 5 O.length 1 0 O.length],.row s.length 2 true (s.map dP),.row N.length 1 true (N.map (D.int .i64)),.row O.length 1 true (O.map (D.int .i64))])
          (fun s=>s.length≤15) (fun s=>15-s.length) [] 1000 1000 ?_ ?_ ?_
         ·simp only[go_sem,seval]
         ·simp only[go_sem,seval]
          exact⟨G,by omega,by simp⟩
         ·intro s hs
          simp only[go_sem,seval,Try.results24]
          repeat' first|assumption|(simp (disch:=first|assumption|omega|(simp;done)|(simp;omega)) only[];try simp only[go_sem,seval,Try.results24])|(with_reducible first|apply And.intro|intro _)|(refine qac ?_;simp only[go_sem,seval,Try.results24])|exact lexT|((try rw[qaa]);omega)
          ·exact⟨s ++ [(0,0)],by simp;omega,by simp;omega,by simp,by simp,rfl⟩
          ·refine qb5 (r0:=.d (dC ⟨x1,N,s,O⟩)) (H1:=[Try.rd b (q5+1)]) ?_ ⟨⟨x1,N,s,O⟩,q5+1,by omega,by simp only;omega,rfl,rfl⟩
           simp only[go_sem,seval]
        ·refine qb5 (r0:=.d (dC ⟨x1,N,G,O ++ [0,0,0,0]⟩)) (H1:=[Try.rd b (q5+1)]) ?_ ⟨⟨x1,N,G,O ++ [0,0,0,0]⟩,q5+1,by omega,by simp only[List.length_append,List.length_cons,List.length_nil];omega,rfl,rfl⟩
         simp only[go_sem,seval]
         rw[List.take_of_length_le (by simp)]
         simp
       ·refine qb5 (r0:=.d (dC ⟨x1,N,G,O⟩)) (H1:=[Try.rd b q5]) ?_ ⟨⟨x1,N,G,O⟩,q5,by omega,by simp only;omega,rfl,rfl⟩
        simp only[go_sem,seval]
end Go.Proofs
