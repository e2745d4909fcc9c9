/- Law: broken wires are never used. Conditions: none; lemmas. -/
import Derived.Test.YtoanmdnkgjdinaaE5
import Derived.Test.YtoanmdnkgjdinaaF1
set_option maxRecDepth 20000
set_option linter.unusedVariables false
set_option linter.unusedSimpArgs false
namespace Go.Proofs
open Go Go.VL
theorem qma {list:List (Int×Int)}(h : ∀ d∈list,(0≤d.1∧d.1≤24)∧0≤d.2∧d.2≤7) : ∀ d∈list,((qcF list).getD d.2.toNat []).getD d.1.toNat false=true:=by
 have stay : ∀ (l:List (Int×Int)) (b:List (List Bool)) (u t:Nat),(b.getD u []).getD t false=true→((l.foldl (fun b d=>b.set d.2.toNat ((b.getD d.2.toNat []).set d.1.toNat true)) b).getD u []).getD t false=true:=by
  intro l
  induction l with
  | nil=>exact fun b u t h=>h
  | cons d l ih=>
   intro b u t hb
   refine ih _ u t ?_
   show((b.set d.2.toNat ((b.getD d.2.toNat []).set d.1.toNat true)).getD u []).getD t false=true
   by_cases e:d.2.toNat=u
   ·subst e
    by_cases hl:d.2.toNat<b.length
    ·have e1:(b.set d.2.toNat ((b.getD d.2.toNat []).set d.1.toNat true)).getD d.2.toNat []=(b.getD d.2.toNat []).set d.1.toNat true:=by simp[List.getD,hl]
     rw[e1]
     by_cases e2:d.1.toNat=t
     ·subst e2
      by_cases h3:d.1.toNat<(b.getD d.2.toNat []).length
      ·simp[List.getD,List.getElem?_set] at h3 ⊢
       simp[h3]
      ·rw[List.set_eq_of_length_le (by omega)];exact hb
     ·have:((b.getD d.2.toNat []).set d.1.toNat true).getD t false=(b.getD d.2.toNat []).getD t false:=by
       rw[List.getD_eq_getElem?_getD,List.getElem?_set_ne e2,←List.getD_eq_getElem?_getD]
      rw[this];exact hb
    ·rw[List.set_eq_of_length_le (by omega)];exact hb
   ·have e1:(b.set d.2.toNat ((b.getD d.2.toNat []).set d.1.toNat true)).getD u []=b.getD u []:=by
     rw[List.getD_eq_getElem?_getD,List.getElem?_set_ne e,←List.getD_eq_getElem?_getD]
    rw[e1];exact hb
 have key : ∀ (l:List (Int×Int)) (b:List (List Bool)),b.length=8→(∀ u,u<8→(b.getD u []).length=25)→(∀ d∈l,(0≤d.1∧d.1≤24)∧0≤d.2∧d.2≤7)→∀ d∈l,((l.foldl (fun b d=>b.set d.2.toNat ((b.getD d.2.toNat []).set d.1.toNat true)) b).getD d.2.toNat []).getD d.1.toNat false=true:=by
  intro l
  induction l with
  | nil=>intro b _ _ _ d hd;simp at hd
  | cons e l ih=>
   intro b hb hr hl d hd
   have he:=hl e (by simp)
   have hrow : ∀ u,u<8→((b.set e.2.toNat ((b.getD e.2.toNat []).set e.1.toNat true)).getD u []).length=25:=by
    intro u hu
    by_cases e2:e.2.toNat=u
    ·subst e2
     have e1:(b.set e.2.toNat ((b.getD e.2.toNat []).set e.1.toNat true)).getD e.2.toNat []=(b.getD e.2.toNat []).set e.1.toNat true:=by simp[List.getD,show e.2.toNat<b.length by omega]
     rw[e1,List.length_set];exact hr _ hu
    ·have e1:(b.set e.2.toNat ((b.getD e.2.toNat []).set e.1.toNat true)).getD u []=b.getD u []:=by
      rw[List.getD_eq_getElem?_getD,List.getElem?_set_ne e2,←List.getD_eq_getElem?_getD]
     rw[e1];exact hr u hu
   rcases List.mem_cons.1 hd with rfl|h1
   ·refine stay l _ _ _ ?_
    have e1:(b.set d.2.toNat ((b.getD d.2.toNat []).set d.1.toNat true)).getD d.2.toNat []=(b.getD d.2.toNat []).set d.1.toNat true:=by simp[List.getD,show d.2.toNat<b.length by omega]
    have h3:=hr d.2.toNat (by omega)
    rw[e1]
    rw[List.getD_eq_getElem?_getD,List.getElem?_set_self (by omega)]
    rfl
   ·exact ih _ (by rw[List.length_set];exact hb) hrow (fun x hx=>hl x (by simp[hx])) d h1
 exact key list qdp rfl free0_ok.row h
theorem qpB {c:Circ}{place:List Int}{list:List (Int×Int)}(hd:qjh list) {routes:List Rt}{busy:List (List Bool)}{n:Nat}(h:RoutesOk c (qaq c) place (qcF list) n busy routes) {i k:Nat}(hi:i<routes.length) (hk:k<(routes.getD i rt0).hops.length) {d:Int×Int}(hm:d∈list) :
  d.1*8+d.2≠((routes.getD i rt0).hops.getD k (0,0)).1*8+(routes.getD i rt0).track:=by
 intro he
 have hr:=h.each _ (qaj hi:routes.getD i rt0∈routes)
 have ht:=hr.track
 have h2:=hd.2 d hm
 have e1:d.2=(routes.getD i rt0).track:=by omega
 have e2:d.1=((routes.getD i rt0).hops.getD k (0,0)).1:=by omega
 have h3:=qma hd.2 d hm
 have h4:=hr.tree.free _ (qaj hk:(routes.getD i rt0).hops.getD k (0,0)∈(routes.getD i rt0).hops)
 rw[e1,e2,h4] at h3
 cases h3
def rD (o:Option (List Rt)):D:=match o with
 | none=>.nil
 | some rs=>dRts rs
theorem qmb (o:Option (List Rt)):qfk o=.tup [rD o,dB o.isSome]:=by cases o <;> rfl
theorem Try.same_o (o:Option (List Rt)) (h : ∀ rs,o=some rs→RtsOk rs):Pure Try.prog 18 [rD o,dRts (o.getD [])] (.bool true)∧Pure Try.prog 18 [rD o,rD o] (.bool true):=by
 cases o with
 | none=>
  have h1:=Try.c_sameRoutes [] [] (by simp)
  rw[decide_eq_true rfl] at h1
  exact⟨h1.wk (ds':=[.nil,dRts []]) (by simp only[go_sem];omega),h1.wk (ds':=[.nil,.nil]) (by simp only[go_sem];omega)⟩
 | some rs=>
  have h1:=Try.c_sameRoutes rs rs (fun x hx=>by have:=(h rs rfl).hops x hx;omega)
  rw[decide_eq_true rfl] at h1
  exact⟨h1,h1⟩
set_option maxHeartbeats 2000000 in
theorem Try.c_FnRouteAround (code:List Int):Pure Try.prog 5 [dUs code] (.bool true):=by
 refine qau (E:=Try.env 0) Try.tok rfl 1000 Try.func5 rfl rfl Try.ntmps5 (by simp) fun ok=>?_
 simp only[go_sem,seval,-List.reduceReplicate] at ok
 simp only[go_sem,seval,-List.reduceReplicate,Try.results5]
 repeat' first|assumption|(simp (disch:=first|assumption|omega|(simp;done)|(simp;omega)) only[qaa,qac,List.take_of_length_le,qab,qae,qaf,qag,qah,qal];try simp only[go_sem,seval,-List.reduceReplicate,Try.results5])|(with_reducible refine And.intro ?_ ?_)|(with_reducible intro _)|(refine @Exists.intro I _ (I.d D.nil) ?_;simp only[go_sem,seval,-List.reduceReplicate,Try.results5])|((with_reducible (show Region.lexB _ _=true));kernel_rfl)|((try rw[qad]);omega)
 refine qhl (Try.c_DrawRouteAround code) ?_
 rintro x ⟨c,place,list,rfl,hc,hpl,hds⟩
 have hR:=Try.c_RouteAround c place list
 have hS:=Try.c_sRouteAround c place list
 have hR0:=Try.c_Route c place
 have hR2:=Try.c_RouteAround c place []
 have hs:=(Try.same_o (qaH c place list) fun rs h=>qd7 h).1
 have hs2:=(Try.same_o (qaH c place []) fun rs h=>qd7 h).2
 rw[qmb] at hR hR0 hR2
 generalize hb2:(qaH c place []).isSome=b2 at *
 generalize hd2:rD (qaH c place [])=d2 at *
 cases hra:qaH c place list with
 | none=>
  rw[hra] at hR hS hs
  have hR:Pure Try.prog 20 [dC c,dIs place,dPs list] (.tup [.nil,dB false]):=hR
  have hS:PureF Try.prog 21 [dC c,dIs place,dPs list] (.tup [dRts [],dB false]):=hS
  have hs:Pure Try.prog 18 [.nil,dRts []] (.bool true):=hs
  simp only[go_sem,seval,-List.reduceReplicate,Try.results5]
  repeat' first|assumption|(simp (disch:=first|assumption|omega|(simp;done)|(simp;omega)) only[qaa,qac,List.take_of_length_le,qab,qae,qaf,qag,qah,qal];try simp only[go_sem,seval,-List.reduceReplicate,Try.results5])|(with_reducible refine And.intro ?_ ?_)|(with_reducible intro _)|(refine qai hR ?_;simp only[go_sem,seval,-List.reduceReplicate,Try.results5])|(refine qbD hS ?_;simp only[go_sem,seval,-List.reduceReplicate,Try.results5])|(refine qai hs ?_;simp only[go_sem,seval,-List.reduceReplicate,Try.results5])|(refine qai hR0 ?_;simp only[go_sem,seval,-List.reduceReplicate,Try.results5])|(refine qai hR2 ?_;simp only[go_sem,seval,-List.reduceReplicate,Try.results5])|(refine qai hs2 ?_;simp only[go_sem,seval,-List.reduceReplicate,Try.results5])|(refine qai Try.c_alive ?_;simp only[go_sem,seval,-List.reduceReplicate,Try.results5])|(refine @Exists.intro I _ (I.d D.nil) ?_;simp only[go_sem,seval,-List.reduceReplicate,Try.results5])|((with_reducible (show Region.lexB _ _=true));kernel_rfl)|((try rw[qad]);omega)
  refine qao (E:=Try.env 0) Try.tok (σ:=Unit) (fun _=>[(6,.d .nil),(15,.d (dI 0))]) (fun _=>[]) (fun _=>True) (fun _=>0) [] [] 1000 1000 ?_ ?_
  ·simp only[go_sem,seval,-List.reduceReplicate]
   exact⟨(),trivial⟩
  ·intro _ _
   simp only[go_sem,seval,-List.reduceReplicate,Try.results5]
   repeat' first|assumption|(simp (disch:=first|assumption|omega|(simp;done)|(simp;omega)) only[qaa,qac,List.take_of_length_le,qab,qae,qaf,qag,qah,qal];try simp only[go_sem,seval,-List.reduceReplicate,Try.results5])|(with_reducible refine And.intro ?_ ?_)|(with_reducible intro _)|(refine qai Try.c_alive ?_;simp only[go_sem,seval,-List.reduceReplicate,Try.results5])|(refine @Exists.intro I _ (I.d D.nil) ?_;simp only[go_sem,seval,-List.reduceReplicate,Try.results5])|((with_reducible (show Region.lexB _ _=true));kernel_rfl)|((try rw[qad]);omega)
 | some rs=>
  rw[hra] at hR hS hs
  have hR:Pure Try.prog 20 [dC c,dIs place,dPs list] (.tup [dRts rs,dB true]):=hR
  have hS:PureF Try.prog 21 [dC c,dIs place,dPs list] (.tup [dRts rs,dB true]):=hS
  have hs:Pure Try.prog 18 [dRts rs,dRts rs] (.bool true):=hs
  have hro:=qd7 hra
  simp only[go_sem,seval,-List.reduceReplicate,Try.results5]
  repeat' first|assumption|(simp (disch:=first|assumption|omega|(simp;done)|(simp;omega)) only[qaa,qac,List.take_of_length_le,qab,qae,qaf,qag,qah,qal];try simp only[go_sem,seval,-List.reduceReplicate,Try.results5])|(with_reducible refine And.intro ?_ ?_)|(with_reducible intro _)|(refine qai hR ?_;simp only[go_sem,seval,-List.reduceReplicate,Try.results5])|(refine qbD hS ?_;simp only[go_sem,seval,-List.reduceReplicate,Try.results5])|(refine qai hs ?_;simp only[go_sem,seval,-List.reduceReplicate,Try.results5])|(refine qai hR0 ?_;simp only[go_sem,seval,-List.reduceReplicate,Try.results5])|(refine qai hR2 ?_;simp only[go_sem,seval,-List.reduceReplicate,Try.results5])|(refine qai hs2 ?_;simp only[go_sem,seval,-List.reduceReplicate,Try.results5])|(refine @Exists.intro I _ (I.d D.nil) ?_;simp only[go_sem,seval,-List.reduceReplicate,Try.results5])|((with_reducible (show Region.lexB _ _=true));kernel_rfl)|((try rw[qad]);omega)
  obtain⟨-,-,hdo,busy,hRo⟩:=qhZ hra
  have hwl : ∀ i,i≤rs.length→(qcn (rs.take i)).length≤25*i:=by
   intro i
   induction i with
   | zero=>intro _;simp[qcn]
   | succ i ih=>
    intro hi
    have h1:=ih (by omega)
    have h2:=hro.hops _ (qaj (by omega):rs.getD i rt0∈rs)
    rw[qd6 (by omega),List.length_append,qbw,List.length_map]
    omega
  have hrl:=hro.len
  refine qao (E:=Try.env 0) Try.tok (σ:=Nat) (fun i=>[(5,.d (dPs list)),(6,.d (dRts rs)),(14,.sl 2 (qcn (rs.take i)).length 1 0 (qcn (rs.take i)).length),(15,.d (dI i))])
   (fun i=>[.dead 0,.dead 0,.row (qcn (rs.take i)).length 1 true ((qcn (rs.take i)).map (D.int .i64))]) (fun i=>i≤rs.length) (fun i=>rs.length-i) [] [] 1000 1000 ?_ ?_
  ·simp only[go_sem,seval,-List.reduceReplicate]
   exact⟨0,by omega,by simp[qcn]⟩
  ·intro i hi
   have hwli:=hwl i hi
   by_cases hlt:i<rs.length
   ·have hwt:=qd6 hlt
    have hwn:=fun k=>qlw hRo (k:=k) hlt
    have hwd:=fun k hk d hm=>qpB hdo hRo (k:=k) hlt hk (d:=d) hm
    have hrm:=hRo.each _ (qaj hlt:rs.getD i rt0∈rs)
    have hhl:=hro.hops _ (qaj hlt:rs.getD i rt0∈rs)
    have htr:=hrm.track
    have htree:=hrm.tree
    generalize hx9:rs.getD i rt0=x at *
    generalize qcn (rs.take i)=W at *
    simp only[go_sem,seval,-List.reduceReplicate,Try.results5,hx9]
    repeat' first|assumption|(simp (disch:=first|assumption|omega|(simp;done)|(simp;omega)) only[qaa,qac,List.take_of_length_le,qab,qae,qaf,qag,qah,qal];try simp only[go_sem,seval,-List.reduceReplicate,Try.results5,hx9])|(with_reducible refine And.intro ?_ ?_)|(with_reducible intro _)|(refine @Exists.intro I _ (I.d D.nil) ?_;simp only[go_sem,seval,-List.reduceReplicate,Try.results5,hx9])|((with_reducible (show Region.lexB _ _=true));kernel_rfl)|((try rw[qad]);omega)
    refine qao (E:=Try.env 0) Try.tok (σ:=Nat) (fun k=>[(5,.d (dPs list)),(6,.d (dRts rs)),(14,.sl 2 (W.length+k) 1 0 (W.length+k)),(15,.d (dI i)),(16,.d (dI k))])
     (fun k=>[.dead 0,.dead 0,.row (W.length+k) 1 true ((W++qbw x.track (x.hops.take k)).map (D.int .i64))]) (fun k=>k≤x.hops.length) (fun k=>x.hops.length-k) [] [] 1000 1000 ?_ ?_
    ·simp only[go_sem,seval,-List.reduceReplicate]
     exact⟨0,by omega,by simp[qbw]⟩
    ·intro k hk
     have hUl:(W++qbw x.track (x.hops.take k)).length=W.length+k:=by simp[qbw];omega
     by_cases hkt:k<x.hops.length
     ·have hh3:=hwn k hkt
      have hh5:=hwd k hkt
      have hr:=htree.rng _ (qaj hkt:x.hops.getD k (0,0)∈x.hops)
      have hus:=qhY (track:=x.track) hkt
      have hcu:=Try.c_contains (W++qbw x.track (x.hops.take k)) ((x.hops.getD k (0,0)).1*8+x.track)
      rw[decide_eq_false hh3] at hcu
      have hUs:W++qbw x.track (x.hops.take (k+1))=(W++qbw x.track (x.hops.take k)) ++ [(x.hops.getD k (0,0)).1*8+x.track]:=by rw[hus,List.append_assoc]
      generalize W++qbw x.track (x.hops.take k)=U at *
      generalize hu9:x.hops.getD k (0,0)=u at *
      simp only[go_sem,seval,-List.reduceReplicate,Try.results5,hx9,hu9]
      repeat' first|assumption|(simp (disch:=first|assumption|omega|(simp;done)|(simp;omega)) only[qaa,qac,List.take_of_length_le,qab,qae,qaf,qag,qah,qal];try simp only[go_sem,seval,-List.reduceReplicate,Try.results5,hx9,hu9,hUl])|(with_reducible refine And.intro ?_ ?_)|(with_reducible intro _)|(refine @Exists.intro I _ (I.d D.nil) ?_;simp only[go_sem,seval,-List.reduceReplicate,Try.results5,hx9,hu9,hUl])|((with_reducible (show Region.lexB _ _=true));kernel_rfl)|((try rw[qad]);omega)
      generalize hat:u.1*8+x.track=w at *
      refine qao (E:=Try.env 0) Try.tok (σ:=Nat) (fun j=>[(5,.d (dPs list)),(6,.d (dRts rs)),(14,.sl 2 (W.length+k) 1 0 (W.length+k)),(15,.d (dI i)),(16,.d (dI k)),(17,.d (dI w)),(18,.d (dI j))])
       (fun j=>[.dead 0,.dead 0,.row (W.length+k) 1 true (U.map (D.int .i64))]) (fun j=>j≤list.length) (fun j=>list.length-j) [] [] 1000 1000 ?_ ?_
      ·simp only[go_sem,seval,-List.reduceReplicate]
       exact⟨0,by omega,rfl⟩
      ·intro j hj
       by_cases hjt:j<list.length
       ·have hjm:=qaj hjt (z:=((0,0):Int×Int))
        have hd1:=hh5 _ hjm
        have hd2:=hdo.2 _ hjm
        generalize hv9:list.getD j (0,0)=v at *
        simp only[go_sem,seval,-List.reduceReplicate,Try.results5,hv9]
        repeat' first|assumption|(simp (disch:=first|assumption|omega|(simp;done)|(simp;omega)) only[qaa,qac,List.take_of_length_le,qab,qae,qaf,qag,qah,qal];try simp only[go_sem,seval,-List.reduceReplicate,Try.results5,hv9])|(with_reducible refine And.intro ?_ ?_)|(with_reducible intro _)|(refine @Exists.intro I _ (I.d D.nil) ?_;simp only[go_sem,seval,-List.reduceReplicate,Try.results5,hv9])|((with_reducible (show Region.lexB _ _=true));kernel_rfl)|((try rw[qad]);omega)
        exact⟨j+1,by omega,by omega,rfl⟩
       ·simp only[go_sem,seval,-List.reduceReplicate,Try.results5]
        repeat' first|assumption|(simp (disch:=first|assumption|omega|(simp;done)|(simp;omega)) only[qaa,qac,List.take_of_length_le,qab,qae,qaf,qag,qah,qal];try simp only[go_sem,seval,-List.reduceReplicate,Try.results5,hUl])|(with_reducible refine And.intro ?_ ?_)|(with_reducible intro _)|(refine qai hcu ?_;simp only[go_sem,seval,-List.reduceReplicate,Try.results5,hUl])|(refine @Exists.intro I _ (I.d D.nil) ?_;simp only[go_sem,seval,-List.reduceReplicate,Try.results5,hUl])|((with_reducible (show Region.lexB _ _=true));kernel_rfl)|((try rw[qad]);omega)
        refine⟨k+1,by omega,by omega,?_⟩
        rw[hUs]
        exact⟨⟨by omega,rfl⟩,by omega,rfl⟩
     ·obtain rfl:k=x.hops.length:=by omega
      simp only[go_sem,seval,-List.reduceReplicate,Try.results5]
      repeat' first|assumption|(simp (disch:=first|assumption|omega|(simp;done)|(simp;omega)) only[qaa,qac,List.take_of_length_le,qab,qae,qaf,qag,qah,qal];try simp only[go_sem,seval,-List.reduceReplicate,Try.results5,hx9])|(with_reducible refine And.intro ?_ ?_)|(with_reducible intro _)|(refine @Exists.intro I _ (I.d D.nil) ?_;simp only[go_sem,seval,-List.reduceReplicate,Try.results5,hx9])|((with_reducible (show Region.lexB _ _=true));kernel_rfl)|((try rw[qad]);omega)
      refine⟨i+1,by omega,by omega,?_⟩
      rw[hwt]
      have e9:(W++qbw x.track x.hops).length=W.length+x.hops.length:=by rw[List.length_append,qbw,List.length_map]
      exact⟨⟨by rw[e9],rfl⟩,by rw[e9],rfl⟩
   ·simp only[go_sem,seval,-List.reduceReplicate,Try.results5]
    repeat' first|assumption|(simp (disch:=first|assumption|omega|(simp;done)|(simp;omega)) only[qaa,qac,List.take_of_length_le,qab,qae,qaf,qag,qah,qal];try simp only[go_sem,seval,-List.reduceReplicate,Try.results5])|(with_reducible refine And.intro ?_ ?_)|(with_reducible intro _)|(refine qai Try.c_alive ?_;simp only[go_sem,seval,-List.reduceReplicate,Try.results5])|(refine @Exists.intro I _ (I.d D.nil) ?_;simp only[go_sem,seval,-List.reduceReplicate,Try.results5])|((with_reducible (show Region.lexB _ _=true));kernel_rfl)|((try rw[qad]);omega)
end Go.Proofs
