/- Contracts, plain definitions and lemmas. Conditions: none; lemmas. -/
import Derived.Test.YtoanmdnkgjdinaaE3
import Derived.Test.YtoanmdnkgjdinaaC10
import Derived.Test.YtoanmdnkgjdinaaC6
import Derived.Test.YtoanmdnkgjdinaaD4
import Derived.Test.YtoanmdnkgjdinaaC11
set_option maxRecDepth 20000
set_option linter.unusedVariables false
set_option linter.unusedSimpArgs false
namespace Go.Proofs
open Go Go.VL
theorem Try.c_sPlacementValid (c:Circ) (place:List Int):Pure Try.prog 36 [dC c,dIs place] (.bool (decide (c.Valid∧PlaceOk (qaq c).length place))):=by
 have hcv:=Try.c_sCircuitValid c
 by_cases hc:c.Valid
 ·have hce:=Try.c_l6Cells c hc
  have hcl:=qce hc
  rw[decide_eq_true hc] at hcv
  refine qau (E:=Try.env 0) Try.tok rfl 1000 Try.func36 rfl rfl Try.ntmps36 (by simp) fun ok=>?_
  simp only[go_sem,seval,-List.reduceReplicate] at ok
  simp only[go_sem,seval,-List.reduceReplicate,Try.results36]
  repeat' first|assumption|(simp (disch:=first|assumption|omega|(simp;done)|(simp;omega)) only[qaa,qac,List.take_of_length_le,qab,qae,qaf,qag,qah,qam,qal];try simp only[go_sem,seval,-List.reduceReplicate,Try.results36])|(with_reducible refine And.intro ?_ ?_)|(with_reducible intro _)|(refine qai hcv ?_;simp only[go_sem,seval,-List.reduceReplicate,Try.results36])|(refine qa7 (fun _=>hce) ?_;simp only[go_sem,seval,-List.reduceReplicate,Try.results36])|(refine @Exists.intro I _ (I.d D.nil) ?_;simp only[go_sem,seval,-List.reduceReplicate,Try.results36])|((with_reducible (show Region.lexB _ _=true));kernel_rfl)|((try rw[qad]);omega)
  ·rename_i h9
   rw[eq_comm,decide_eq_false]
   exact fun h=>h9 h.2.len
  rename_i h9
  refine qaO (E:=Try.env 0) Try.tok (σ:=Nat) (fun i=>[(1,.d (dIs place)),(5,.d (dI i))]) (fun _=>[.box [.d (dI c.inputs),.d (dIs c.next),.d (dPs c.gates),.d (dIs c.outs)]]) (fun i=>i≤place.length∧(∀ t∈place.take i,0≤t∧t≤24)∧(place.take i).Nodup) (fun i=>place.length-i) [] 1000 1000 ?_ ?_ ?_
  ·simp only[go_sem,seval,-List.reduceReplicate]
  ·simp only[go_sem,seval,-List.reduceReplicate]
   exact⟨0,⟨by simp,by simp,by simp⟩,rfl⟩
  ·rintro i ⟨hi,hr,hn⟩
   by_cases hlt:i<place.length
   ·have hts:place.take (i+1)=place.take i ++ [place.getD i 0]:=by simpa using qaT (f:=fun x:Int=>x) 0 hlt
    have hmem:=qaj hlt (z:=(0:Int))
    have hbad:place.getD i 0∈place.take i→¬ PlaceOk (qaq c).length place:=fun h1 h2=>by
     have hnd:=h2.nd
     rw[←List.take_append_drop (i+1) place,hts,List.append_assoc,List.nodup_append] at hnd
     exact hnd.2.2 _ h1 _ (by simp) rfl
    have hha:=Try.c_l7Has (place.take i) (place.getD i 0)
    have hin:=Try.c_l1In (place.getD i 0) 0 24
    generalize hx9:place.getD i 0=x at *
    simp only[go_sem,seval,-List.reduceReplicate,Try.results36,hx9]
    repeat' first|assumption|(simp (disch:=first|assumption|omega|(simp;done)|(simp;omega)) only[qaa,qac,List.take_of_length_le,qab,qae,qaf,qag,qah,qam,qal];try simp only[go_sem,seval,-List.reduceReplicate,Try.results36,hx9])|(with_reducible refine And.intro ?_ ?_)|(with_reducible intro _)|(refine qbj (fun _=>⟨hin,trivial⟩) ?_;simp only[go_sem,seval,-List.reduceReplicate,Try.results36,hx9])|(refine qbj (fun _=>⟨hha,trivial⟩) ?_;simp only[go_sem,seval,-List.reduceReplicate,Try.results36,hx9])|(refine @Exists.intro I _ (I.d D.nil) ?_;simp only[go_sem,seval,-List.reduceReplicate,Try.results36,hx9])|((with_reducible (show Region.lexB _ _=true));kernel_rfl)|((try rw[qad]);omega)
    ·rename_i h1
     rw[eq_comm,decide_eq_false]
     rintro⟨-,h3⟩
     have h4:=h3.rng x hmem
     have h5:x∈place.take i→False:=fun h=>hbad h h3
     rcases h1 with h1|h1
     ·omega
     ·exact h5 h1
    ·rename_i h1
     refine⟨i+1,⟨by omega,fun t ht=>?_,?_⟩,by omega,rfl⟩
     ·rw[hts] at ht
      rcases List.mem_append.1 ht with h2|h2
      ·exact hr t h2
      ·obtain rfl:t=x:=by simpa using h2
       exact h1.1
     ·rw[hts,List.nodup_append]
      exact⟨hn,by simp,fun a ha b hb e=>by
       obtain rfl:b=x:=by simpa using hb
       subst e
       exact h1.2 ha⟩
   ·obtain rfl:i=place.length:=by omega
    rw[List.take_length] at hr hn
    simp only[go_sem,seval,-List.reduceReplicate,Try.results36]
    repeat' first|assumption|(simp (disch:=first|assumption|omega|(simp;done)|(simp;omega)) only[qaa,qac,List.take_of_length_le,qab,qae,qaf,qag,qah,qam,qal];try simp only[go_sem,seval,-List.reduceReplicate,Try.results36])|(with_reducible refine And.intro ?_ ?_)|(with_reducible intro _)|(refine @Exists.intro I _ (I.d D.nil) ?_;simp only[go_sem,seval,-List.reduceReplicate,Try.results36])|((with_reducible (show Region.lexB _ _=true));kernel_rfl)|((try rw[qad]);omega)
    rw[eq_comm,decide_eq_true_eq]
    exact⟨hc,by omega,hr,hn⟩
 ·rw[decide_eq_false hc] at hcv
  rw[decide_eq_false (fun h=>hc h.1)]
  refine qau (E:=Try.env 0) Try.tok rfl 1000 Try.func36 rfl rfl Try.ntmps36 (by simp) fun ok=>?_
  simp only[go_sem,seval,-List.reduceReplicate] at ok
  simp only[go_sem,seval,-List.reduceReplicate,Try.results36]
  repeat' first|assumption|(simp (disch:=first|assumption|omega|(simp;done)|(simp;omega)) only[qaa,qac,List.take_of_length_le,qab,qae,qaf,qag,qah,qam,qal];try simp only[go_sem,seval,-List.reduceReplicate,Try.results36])|(with_reducible refine And.intro ?_ ?_)|(with_reducible intro _)|(refine qai hcv ?_;simp only[go_sem,seval,-List.reduceReplicate,Try.results36])|(refine qa7 (x:=D.nil) (fun h=>by cases h) ?_;simp only[go_sem,seval,-List.reduceReplicate,Try.results36])|(refine @Exists.intro I _ (I.d D.nil) ?_;simp only[go_sem,seval,-List.reduceReplicate,Try.results36])|((with_reducible (show Region.lexB _ _=true));kernel_rfl)|((try rw[qad]);omega)
theorem Try.c_sRoute (c:Circ) (place:List Int):PureF Try.prog 13 [dC c,dIs place] (.tup [dRts ((qaH c place []).getD []),dB (qaH c place []).isSome]):=by
 have hpv:=Try.c_sPlacementValid c place
 by_cases hv:c.Valid∧PlaceOk (qaq c).length place
 ·rw[decide_eq_true hv] at hpv
  have hra:qaH c place []=qcw c (qaq c) place qdp:=by
   classical
   rw[qaH,if_pos ⟨hv,by simp[qjh]⟩]
   rfl
  have hce:=Try.c_l6Cells c hv.1
  have hcl:=qce hv.1
  have hro:=Try.c_l8Route c hv.1 (qaq c) (by omega) (fun x hx=>(qeB hv.1 x hx).1) place hv.2
  rw[hra]
  refine qbJ (E:=Try.env 0) Try.tok rfl 1000 Try.func13 rfl rfl Try.ntmps13 (by simp) fun ok=>?_
  simp only[go_sem,seval,-List.reduceReplicate] at ok
  simp only[go_sem,seval,-List.reduceReplicate,Try.results13]
  repeat' first|assumption|(simp (disch:=first|assumption|omega|(simp;done)|(simp;omega)) only[qaa,qac,List.take_of_length_le,qab,qae,qaf,qag,qah,qam,qal];try simp only[go_sem,seval,-List.reduceReplicate,Try.results13])|(with_reducible refine And.intro ?_ ?_)|(with_reducible intro _)|(refine qai hpv ?_;simp only[go_sem,seval,-List.reduceReplicate,Try.results13])|(refine qai hce ?_;simp only[go_sem,seval,-List.reduceReplicate,Try.results13])|(refine qbD hro ?_;simp only[go_sem,seval,-List.reduceReplicate,Try.results13])|(refine @Exists.intro I _ (I.d D.nil) ?_;simp only[go_sem,seval,-List.reduceReplicate,Try.results13])|((with_reducible (show Region.lexB _ _=true));kernel_rfl)|((try rw[qad]);omega)
  refine qaS (E:=Try.env 0) Try.tok Try.follows 1000 1000 [] (.fst 3 (.fst 0 (.fst 1 (.one 2 (.one 4 (.fst 5 (.fst 6 (.fst 7 (.fst 8 (.done)))))))))) (by kernel_rfl) ?_
  simp only[go_sem,seval,-List.reduceReplicate,Try.results13]
  repeat' first|assumption|(simp (disch:=first|assumption|omega|(simp;done)|(simp;omega)) only[qaa,qac,List.take_of_length_le,qab,qae,qaf,qag,qah,qam,qal];try simp only[go_sem,seval,-List.reduceReplicate,Try.results13])|(with_reducible refine And.intro ?_ ?_)|(with_reducible intro _)|(refine qai hpv ?_;simp only[go_sem,seval,-List.reduceReplicate,Try.results13])|(refine qai hce ?_;simp only[go_sem,seval,-List.reduceReplicate,Try.results13])|(refine qbD hro ?_;simp only[go_sem,seval,-List.reduceReplicate,Try.results13])|(refine @Exists.intro I _ (I.d D.nil) ?_;simp only[go_sem,seval,-List.reduceReplicate,Try.results13])|((with_reducible (show Region.lexB _ _=true));kernel_rfl)|((try rw[qad]);omega)
 ·have hra:qaH c place []=none:=by
   classical
   rw[qaH,if_neg (fun h=>hv h.1)]
  rw[decide_eq_false hv] at hpv
  rw[hra]
  refine qbJ (E:=Try.env 0) Try.tok rfl 1000 Try.func13 rfl rfl Try.ntmps13 (by simp) fun ok=>?_
  simp only[go_sem,seval,-List.reduceReplicate] at ok
  simp only[go_sem,seval,-List.reduceReplicate,Try.results13]
  repeat' first|assumption|(simp (disch:=first|assumption|omega|(simp;done)|(simp;omega)) only[qaa,qac,List.take_of_length_le,qab,qae,qaf,qag,qah,qam,qal];try simp only[go_sem,seval,-List.reduceReplicate,Try.results13])|(with_reducible refine And.intro ?_ ?_)|(with_reducible intro _)|(refine qai hpv ?_;simp only[go_sem,seval,-List.reduceReplicate,Try.results13])|(refine @Exists.intro I _ (I.d D.nil) ?_;simp only[go_sem,seval,-List.reduceReplicate,Try.results13])|((with_reducible (show Region.lexB _ _=true));kernel_rfl)|((try rw[qad]);omega)
end Go.Proofs

set_option maxRecDepth 20000
set_option linter.unusedVariables false
set_option linter.unusedSimpArgs false
namespace Go.Proofs
open Go Go.VL
noncomputable instance:DecidableEq Rt:=fun _ _=>Classical.propDecidable _
theorem Rt.ext' {a b:Rt}(h1:a.net=b.net) (h2:a.track=b.track) (h3:a.hops=b.hops):a=b:=by
 cases a;cases b;simp_all
theorem qqI {α : Type}(z : α) {a b:List α}(hl:a.length=b.length) (h : ∀ j,j<a.length→a.getD j z=b.getD j z):a=b:=by
 refine List.ext_getElem hl fun j h1 h2=>?_
 have:=h j h1
 simpa [List.getD,h1,h2] using this
theorem Try.c_contains (l:List Int) (n:Int):Pure Try.prog 17 [dIs l,dI n] (.bool (decide (n∈l))):=by
 refine qau (E:=Try.env 0) Try.tok rfl 1000 Try.func17 rfl rfl Try.ntmps17 (by simp) fun ok=>?_
 simp only[go_sem,seval] at ok
 simp only[go_sem,seval,Try.results17]
 repeat' first|assumption|(simp (disch:=first|assumption|omega|(simp;done)|(simp;omega)) only[qaa,qac,List.take_of_length_le,qab,qae,qaf,qag,qah,qal];try simp only[go_sem,seval,Try.results17])|(with_reducible refine And.intro ?_ ?_)|(with_reducible intro _)|(refine @Exists.intro I _ (I.d D.nil) ?_;simp only[go_sem,seval,Try.results17])|((with_reducible (show Region.lexB _ _=true));kernel_rfl)|((try rw[qad]);omega)
 refine qaO (E:=Try.env 0) Try.tok (σ:=Nat) (fun i=>[(0,.d (dIs l)),(1,.d (dI n)),(4,.d (dB false)),(5,.d (dI i))]) (fun _=>[]) (fun i=>i≤l.length∧∀ j,j<i→l.getD j 0≠n) (fun i=>l.length-i) [] 1000 1000 ?_ ?_ ?_
 ·simp only[go_sem,seval]
 ·simp only[go_sem,seval]
  exact⟨0,⟨by omega,by omega⟩,rfl⟩
 ·rintro i ⟨hi,hinv⟩
  by_cases hlt:i<l.length
  ·have hm:=qaj hlt (z:=(0:Int))
   simp only[go_sem,seval,Try.results17]
   repeat' first|assumption|(simp (disch:=first|assumption|omega|(simp;done)|(simp;omega)) only[qaa,qac,List.take_of_length_le,qab,qae,qaf,qag,qah,qal];try simp only[go_sem,seval,Try.results17])|(with_reducible refine And.intro ?_ ?_)|(with_reducible intro _)|(refine @Exists.intro I _ (I.d D.nil) ?_;simp only[go_sem,seval,Try.results17])|((with_reducible (show Region.lexB _ _=true));kernel_rfl)|((try rw[qad]);omega)
   ·rename_i h1
    rw[eq_comm,decide_eq_true_eq]
    rw[←h1];exact hm
   ·rename_i h1
    refine⟨i+1,⟨by omega,fun j hj=>?_⟩,by omega,rfl⟩
    by_cases e:j=i
    ·subst e;exact h1
    ·exact hinv j (by omega)
  ·simp only[go_sem,seval,Try.results17]
   repeat' first|assumption|(simp (disch:=first|assumption|omega|(simp;done)|(simp;omega)) only[qaa,qac,List.take_of_length_le,qab,qae,qaf,qag,qah,qal];try simp only[go_sem,seval,Try.results17])|(with_reducible refine And.intro ?_ ?_)|(with_reducible intro _)|(refine @Exists.intro I _ (I.d D.nil) ?_;simp only[go_sem,seval,Try.results17])|((with_reducible (show Region.lexB _ _=true));kernel_rfl)|((try rw[qad]);omega)
   rw[eq_comm,decide_eq_false]
   intro hm
   obtain⟨j,hj,rfl⟩:=qbk 0 hm
   exact hinv j (by omega) rfl
theorem Try.c_sameRoutes (a b:List Rt) (ha : ∀ x∈a,x.hops.length≤1000):Pure Try.prog 18 [dRts a,dRts b] (.bool (decide (a=b))):=by
 refine qau (E:=Try.env 0) Try.tok rfl 1000 Try.func18 rfl rfl Try.ntmps18 (by simp) fun ok=>?_
 simp only[go_sem,seval] at ok
 simp only[go_sem,seval,Try.results18]
 repeat' first|assumption|(simp (disch:=first|assumption|omega|(simp;done)|(simp;omega)) only[qaa,qac,List.take_of_length_le,qab,qae,qaf,qag,qah,qal];try simp only[go_sem,seval,Try.results18])|(with_reducible refine And.intro ?_ ?_)|(with_reducible intro _)|(refine @Exists.intro I _ (I.d D.nil) ?_;simp only[go_sem,seval,Try.results18])|((with_reducible (show Region.lexB _ _=true));kernel_rfl)|((try rw[qad]);omega)
 ·rename_i h1
  rw[eq_comm,decide_eq_false]
  rintro rfl
  exact h1 rfl
 rename_i hlen
 refine qaO (E:=Try.env 0) Try.tok (σ:=Nat) (fun i=>[(0,.d (dRts a)),(1,.d (dRts b)),(4,.d (dB false)),(5,.d (dI i))]) (fun _=>[]) (fun i=>i≤a.length∧∀ j,j<i→a.getD j rt0=b.getD j rt0) (fun i=>a.length-i) [] 1000 1000 ?_ ?_ ?_
 ·simp only[go_sem,seval]
 ·simp only[go_sem,seval]
  exact⟨0,⟨by omega,by omega⟩,rfl⟩
 ·rintro i ⟨hi,hinv⟩
  by_cases hlt:i<a.length
  ·have hlt2:i<b.length:=by omega
   have hbad:a.getD i rt0≠b.getD i rt0→¬ a=b:=fun h1 h2=>h1 (by rw[h2])
   have hxl:=ha _ (qaj hlt:a.getD i rt0∈a)
   generalize hx9:a.getD i rt0=x at *
   generalize hy9:b.getD i rt0=y at *
   simp only[go_sem,seval,Try.results18,hx9,hy9]
   repeat' first|assumption|(simp (disch:=first|assumption|omega|(simp;done)|(simp;omega)) only[qaa,qac,List.take_of_length_le,qab,qae,qaf,qag,qah,qal];try simp only[go_sem,seval,Try.results18,hx9,hy9])|(with_reducible refine And.intro ?_ ?_)|(with_reducible intro _)|(refine @Exists.intro I _ (I.d D.nil) ?_;simp only[go_sem,seval,Try.results18,hx9,hy9])|((with_reducible (show Region.lexB _ _=true));kernel_rfl)|((try rw[qad]);omega)
   ·rename_i h1
    rw[eq_comm,decide_eq_false]
    refine hbad fun h2=>?_
    subst h2
    simp at h1
   rename_i h1
   refine qaO (E:=Try.env 0) Try.tok (σ:=Nat) (fun j=>[(0,.d (dRts a)),(1,.d (dRts b)),(4,.d (dB false)),(5,.d (dI i)),(6,.d (dI j))]) (fun _=>[]) (fun j=>j≤x.hops.length∧∀ m,m<j→x.hops.getD m (0,0)=y.hops.getD m (0,0)) (fun j=>x.hops.length-j) [] 1000 1000 ?_ ?_ ?_
   ·simp only[go_sem,seval]
   ·simp only[go_sem,seval]
    exact⟨0,⟨by omega,by omega⟩,rfl⟩
   ·rintro j ⟨hj,hjv⟩
    by_cases hjt:j<x.hops.length
    ·have hjt2:j<y.hops.length:=by omega
     have hb2:x.hops.getD j (0,0)≠y.hops.getD j (0,0)→¬ a=b:=fun h3 h4=>hbad (fun h5=>h3 (by rw[h5])) h4
     generalize hu9:x.hops.getD j (0,0)=u at *
     generalize hv9:y.hops.getD j (0,0)=v at *
     simp only[go_sem,seval,Try.results18,hx9,hy9,hu9,hv9]
     repeat' first|assumption|(simp (disch:=first|assumption|omega|(simp;done)|(simp;omega)) only[qaa,qac,List.take_of_length_le,qab,qae,qaf,qag,qah,qal];try simp only[go_sem,seval,Try.results18,hx9,hy9,hu9,hv9])|(with_reducible refine And.intro ?_ ?_)|(with_reducible intro _)|(refine @Exists.intro I _ (I.d D.nil) ?_;simp only[go_sem,seval,Try.results18,hx9,hy9,hu9,hv9])|((with_reducible (show Region.lexB _ _=true));kernel_rfl)|((try rw[qad]);omega)
     ·rename_i h3
      rw[eq_comm,decide_eq_false]
      refine hb2 fun h4=>?_
      subst h4
      simp at h3
     ·rename_i h3
      refine⟨j+1,⟨by omega,fun m hm=>?_⟩,by omega,rfl⟩
      by_cases e:m=j
      ·subst e
       rw[hu9,hv9]
       exact Prod.ext (by omega) (by omega)
      ·exact hjv m (by omega)
    ·simp only[go_sem,seval,Try.results18]
     repeat' first|assumption|(simp (disch:=first|assumption|omega|(simp;done)|(simp;omega)) only[qaa,qac,List.take_of_length_le,qab,qae,qaf,qag,qah,qal];try simp only[go_sem,seval,Try.results18,hx9])|(with_reducible refine And.intro ?_ ?_)|(with_reducible intro _)|(refine @Exists.intro I _ (I.d D.nil) ?_;simp only[go_sem,seval,Try.results18,hx9])|((with_reducible (show Region.lexB _ _=true));kernel_rfl)|((try rw[qad]);omega)
     refine⟨i+1,⟨by omega,fun m hm=>?_⟩,by omega,rfl⟩
     by_cases e:m=i
     ·subst e
      rw[hx9,hy9]
      exact Rt.ext' (by omega) (by omega) (qqI (0,0) (by omega) fun k hk=>hjv k (by omega))
     ·exact hinv m (by omega)
  ·simp only[go_sem,seval,Try.results18]
   repeat' first|assumption|(simp (disch:=first|assumption|omega|(simp;done)|(simp;omega)) only[qaa,qac,List.take_of_length_le,qab,qae,qaf,qag,qah,qal];try simp only[go_sem,seval,Try.results18])|(with_reducible refine And.intro ?_ ?_)|(with_reducible intro _)|(refine @Exists.intro I _ (I.d D.nil) ?_;simp only[go_sem,seval,Try.results18])|((with_reducible (show Region.lexB _ _=true));kernel_rfl)|((try rw[qad]);omega)
   rw[eq_comm,decide_eq_true_eq]
   exact qqI rt0 hlen fun j hj=>hinv j (by omega)
end Go.Proofs

set_option linter.unusedVariables false
set_option linter.unusedSimpArgs false
namespace Go.VL
theorem qnN {busy:List Bool}{hops:List (Int×Int)}(h:TreeOk busy hops) {k:Nat}(hk:k<hops.length):(hops.getD k (0,0)).2 = -1↔k=0:=by
 rcases h.root k hk with⟨h1,h2⟩|⟨h1,m,h2,h3,-⟩
 ·exact⟨fun _=>h1,fun _=>h2⟩
 ·have:=h.rng _ (qaj (by omega:m<hops.length):hops.getD m (0,0)∈hops)
  omega
theorem qgA {hops:List (Int×Int)}{k:Nat}{t:Int}:t∈qap (hops.take k)↔∃ j,j<k∧j<hops.length∧(hops.getD j (0,0)).1=t:=by
 constructor
 ·intro h
  obtain⟨x,hx,rfl⟩:=List.mem_map.1 h
  obtain⟨j,hj,rfl⟩:=qbk (0,0) hx
  rw[List.length_take] at hj
  refine⟨j,by omega,by omega,?_⟩
  congr 1
  simp[List.getD,List.getElem?_take,show j<k by omega]
 ·rintro⟨j,h1,h2,rfl⟩
  refine List.mem_map.2 ⟨hops.getD j (0,0),?_,rfl⟩
  have e:(hops.take k).getD j (0,0)=hops.getD j (0,0):=by simp[List.getD,List.getElem?_take,h1]
  rw[←e]
  exact qaj (by rw[List.length_take];omega)
theorem qlv {busy:List Bool}{hops:List (Int×Int)}(h:TreeOk busy hops) {k:Nat}(hk:k<hops.length):(hops.getD k (0,0)).1∉qap (hops.take k):=by
 intro hm
 obtain⟨j,h1,h2,h3⟩:=qgA.1 hm
 have:=qkb h.nd h2 hk h3
 omega
theorem nb_near {t q:Int}(hq:0≤q∧q≤24) (h:t∈nbC q):(t/5-q/5=0∧(t%5-q%5=1∨t%5-q%5 = -1))∨((t/5-q/5=1∨t/5-q/5 = -1)∧t%5-q%5=0):=by
 unfold nbC at h
 simp only[List.mem_append] at h
 rcases h with((h|h)|h)|h <;> split at h <;> simp at h <;> omega
theorem near_sq {x y:Int}(h:(x=0∧(y=1∨y = -1))∨((x=1∨x = -1)∧y=0)):x*x+y*y=1:=by
 rcases h with⟨rfl,rfl|rfl⟩|⟨rfl|rfl,rfl⟩ <;> rfl
theorem qnO {busy:List Bool}{hops:List (Int×Int)}(h:TreeOk busy hops) {k:Nat}(hk:k<hops.length) (h0:0<k) :
  (hops.getD k (0,0)).2∈qap (hops.take k)∧(0≤(hops.getD k (0,0)).2∧(hops.getD k (0,0)).2≤24)∧
  ((hops.getD k (0,0)).1/5-(hops.getD k (0,0)).2/5)*((hops.getD k (0,0)).1/5-(hops.getD k (0,0)).2/5)+((hops.getD k (0,0)).1%5-(hops.getD k (0,0)).2%5)*((hops.getD k (0,0)).1%5-(hops.getD k (0,0)).2%5)=1:=by
 rcases h.root k hk with⟨h1,h2⟩|⟨h1,m,h2,h3,h4⟩
 ·omega
 ·have hr:=h.rng _ (qaj (by omega:m<hops.length):hops.getD m (0,0)∈hops)
  rw[h3] at hr
  exact⟨qgA.2 ⟨m,h2,by omega,h3⟩,hr,near_sq (nb_near hr h4)⟩
def qbw (track:Int) (hops:List (Int×Int)):List Int:=hops.map fun h=>h.1*8+track
def qcn (routes:List Rt):List Int:=routes.flatMap fun r=>qbw r.track r.hops
theorem qiG {track w:Int}{hops:List (Int×Int)}:w∈qbw track hops↔∃ t∈qap hops,w=t*8+track:=by
 constructor
 ·intro h
  obtain⟨x,hx,rfl⟩:=List.mem_map.1 h
  exact⟨x.1,List.mem_map.2 ⟨x,hx,rfl⟩,rfl⟩
 ·rintro⟨t,ht,rfl⟩
  obtain⟨x,hx,rfl⟩:=List.mem_map.1 ht
  exact List.mem_map.2 ⟨x,hx,rfl⟩
theorem qd6 {routes:List Rt}{i:Nat}(hi:i<routes.length):qcn (routes.take (i+1))=qcn (routes.take i)++qbw (routes.getD i rt0).track (routes.getD i rt0).hops:=by
 unfold qcn
 rw[List.take_succ_eq_append_getElem hi,List.flatMap_append]
 simp[List.getD,hi]
theorem qhY {track:Int}{hops:List (Int×Int)}{k:Nat}(hk:k<hops.length):qbw track (hops.take (k+1))=qbw track (hops.take k) ++ [(hops.getD k (0,0)).1*8+track]:=by
 unfold qbw
 rw[List.take_succ_eq_append_getElem hk,List.map_append]
 simp[List.getD,hk]
theorem qlw {c:Circ}{cells:List Cel}{place:List Int}{busy0 busy:List (List Bool)}{n:Nat}{routes:List Rt}(h:RoutesOk c cells place busy0 n busy routes) {i k:Nat}(hi:i<routes.length) (hk:k<(routes.getD i rt0).hops.length) :
  ((routes.getD i rt0).hops.getD k (0,0)).1*8+(routes.getD i rt0).track∉qcn (routes.take i)++qbw (routes.getD i rt0).track ((routes.getD i rt0).hops.take k):=by
 have hm:routes.getD i rt0∈routes:=qaj hi
 have hr:=h.each _ hm
 have ht:=hr.track
 intro hw
 rcases List.mem_append.1 hw with h1|h1
 ·obtain⟨r,hr1,hr2⟩:=List.mem_flatMap.1 h1
  obtain⟨t,ht1,ht2⟩:=qiG.1 hr2
  have hrm:r∈routes:=List.mem_of_mem_take hr1
  have hrt:=(h.each _ hrm).track
  have e1:r.track=(routes.getD i rt0).track:=by omega
  have e2:t=((routes.getD i rt0).hops.getD k (0,0)).1:=by omega
  obtain⟨j,hj,rfl⟩:=qbk rt0 hr1
  rw[List.length_take] at hj
  have e3:(routes.take i).getD j rt0=routes.getD j rt0:=by simp[List.getD,List.getElem?_take,show j<i by omega]
  rw[e3] at e1 ht1
  have hap:=List.pairwise_iff_getElem.1 h.apart j i (by omega) hi (by omega)
  have g : ∀ m (hm:m<routes.length),routes[m]=routes.getD m rt0:=fun m hm=>by simp[List.getD,hm]
  rw[g j,g i] at hap
  refine hap e1 t ht1 ?_
  rw[e2]
  exact List.mem_map.2 ⟨_,qaj hk,rfl⟩
 ·obtain⟨t,ht1,ht2⟩:=qiG.1 h1
  refine qlv hr.tree hk ?_
  rw[show((routes.getD i rt0).hops.getD k (0,0)).1=t by omega]
  exact ht1
end Go.VL

set_option maxRecDepth 20000
set_option linter.unusedVariables false
set_option linter.unusedSimpArgs false
namespace Go.Proofs
open Go Go.VL
def tern (x:Int):Prop:=0≤x∧x≤2
instance (x:Int):Decidable (tern x):=by unfold tern;infer_instance
def ternL (l:List Int):Prop:=∀ x∈l,tern x
noncomputable instance (l:List Int):Decidable (ternL l):=Classical.propDecidable _
theorem ternL.get {l:List Int}(h:ternL l) (i:Nat):tern (l.getD i 0):=by
 by_cases hi:i<l.length
 ·exact h _ (qaj hi)
 ·rw[List.getD_eq_getElem?_getD,List.getElem?_eq_none (by omega)]
  exact⟨by simp,by simp⟩
def evOk (c:Circ) (st ins:List Int):Prop:=c.Valid∧st.length=c.next.length∧(ins.length:Int)=c.inputs∧ternL st∧ternL ins
noncomputable instance (c:Circ) (st ins:List Int):Decidable (evOk c st ins):=Classical.propDecidable _
end Go.Proofs
