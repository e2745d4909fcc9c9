/- Contracts, plain definitions and lemmas. Conditions: none; lemmas. -/
import Derived.Test.YtoanmdnkgjdinaaD4
import Derived.Test.YtoanmdnkgjdinaaE4
set_option linter.unusedVariables false
set_option linter.unusedSimpArgs false
namespace Go.VL
open Go
abbrev HMap:=List ((Int×Int)×Int)
def hk (m:HMap) (k:Int×Int):Option Int:=(m.find? fun e=>decide (e.1=k)).map fun e=>e.2
def hkUp:HMap→Int×Int→Int→HMap
 | [],k,b=>[(k,b)]
 | e::r,k,b=>if e.1=k then(k,b)::r else e::hkUp r k b
theorem hk_up (k:Int×Int) (b:Int) (j:Int×Int) : ∀ m,hk (hkUp m k b) j=if j=k then some b else hk m j
 | []=>by by_cases h:j=k <;> simp[hk,hkUp,h,eq_comm]
 | e::r=>by
  have ih:=hk_up k b j r
  unfold hkUp
  by_cases h:e.1=k
  ·rw[if_pos h]
   by_cases h2:j=k
   ·simp[hk,h2]
   ·have h3 : ¬ e.1=j:=fun h4=>h2 (by rw[←h4,h])
    have h4 : ¬ k=j:=fun h5=>h2 h5.symm
    simp[hk,h2,h3,h4]
  ·rw[if_neg h]
   by_cases h3:e.1=j
   ·have h2 : ¬ j=k:=fun h4=>h (by rw[h3,h4])
    simp[hk,h2,h3]
   ·unfold hk at ih ⊢
    simp only[List.find?_cons,decide_eq_false h3,ih]
def hkE (m:HMap):List (D×D):=m.map fun e=>(.agg [.int .i64 e.1.1,.int .i64 e.1.2],.int .i64 e.2)
theorem qhf (k:Int×Int) : ∀ m,qc9 (hkE m) (.agg [.int .i64 k.1,.int .i64 k.2])=(hk m k).map (D.int .i64)
 | []=>rfl
 | e::r=>by
  have ih:=qhf k r
  show qc9 ((.agg [.int .i64 e.1.1,.int .i64 e.1.2],.int .i64 e.2)::hkE r) _=_
  rw[qgs,qkm]
  by_cases h:e.1=k
  ·subst h;simp[hk]
  ·have h2 : ¬ (k.1=e.1.1∧k.2=e.1.2):=fun h3=>h (Prod.ext h3.1.symm h3.2.symm)
   rw[decide_eq_false h2]
   simp only[Bool.false_eq_true,if_false,ih]
   simp[hk,h]
theorem qoE (k:Int×Int) (b:Int) : ∀ m,updD (hkE m) (.agg [.int .i64 k.1,.int .i64 k.2]) (.int .i64 b)=hkE (hkUp m k b)
 | []=>rfl
 | e::r=>by
  have ih:=qoE k b r
  show updD ((.agg [.int .i64 e.1.1,.int .i64 e.1.2],.int .i64 e.2)::hkE r) _ _=_
  rw[updD,qkm]
  by_cases h:e.1=k
  ·subst h;simp[hkUp,hkE]
  ·have h2 : ¬ (k.1=e.1.1∧k.2=e.1.2):=fun h3=>h (Prod.ext h3.1.symm h3.2.symm)
   rw[decide_eq_false h2]
   simp only[Bool.false_eq_true,if_false,ih]
   simp[hkUp,hkE,h]
def covH (routes:List Rt) (i j:Nat) (n t:Int):Prop:=(∃ a,a<i∧a<routes.length∧(routes.getD a rt0).net=n∧t∈qaq (routes.getD a rt0).hops)∨(i<routes.length∧(routes.getD i rt0).net=n∧t∈qaq ((routes.getD i rt0).hops.take j))
open Classical in
theorem ifc {α : Type}{p q:Prop}{a b : α}(h:p↔q):(if p then a else b)=if q then a else b:=by
 by_cases hp:p
 ·rw[if_pos hp,if_pos (h.1 hp)]
 ·rw[if_neg hp,if_neg (fun hq=>hp (h.2 hq))]
open Classical in
def HMok (routes:List Rt) (i j:Nat) (m:HMap):Prop:=∀ n t,hk m (n,t)=if covH routes i j n t then some (qaW routes n t) else none
theorem HMok.zero (routes:List Rt):HMok routes 0 0 []:=fun n t=>by
 rw[if_neg]
 ·rfl
 ·rintro(⟨a,h,-⟩|⟨-,-,h⟩)
  ·omega
  ·simp[qaq] at h
theorem HMok.next {routes:List Rt}{i:Nat}{m:HMap}(hi:i<routes.length) (h:HMok routes i (routes.getD i rt0).hops.length m):HMok routes (i+1) 0 m:=fun n t=>by
 rw[h n t]
 have e:covH routes i (routes.getD i rt0).hops.length n t↔covH routes (i+1) 0 n t:=by
  unfold covH
  rw[List.take_length]
  constructor
  ·rintro(⟨a,h1,h2⟩|⟨h1,h2,h3⟩)
   ·exact .inl ⟨a,by omega,h2⟩
   ·exact .inl ⟨i,by omega,h1,h2,h3⟩
  ·rintro(⟨a,h1,h2⟩|⟨-,-,h3⟩)
   ·by_cases e:a=i
    ·subst e;exact .inr h2
    ·exact .inl ⟨a,by omega,h2⟩
   ·simp[qaq] at h3
 exact ifc e
theorem qiv {hops:List (Int×Int)}{j:Nat}(hj:j<hops.length) {t:Int}:t∈qaq (hops.take (j+1))↔t∈qaq (hops.take j)∨t=(hops.getD j (0,0)).1:=by
 unfold qaq
 rw[List.take_succ_eq_append_getElem hj,List.map_append,List.mem_append,List.map_singleton,List.mem_singleton]
 rw[List.getD_eq_getElem?_getD,List.getElem?_eq_getElem hj]
 rfl
theorem HMok.step {routes:List Rt}(hr:RtsOk routes) {i j:Nat}{m:HMap}(hi:i<routes.length) (h:HMok routes i j m) (hj:j<(routes.getD i rt0).hops.length) {d:Int}
  (hd:d=qaW routes (routes.getD i rt0).net ((routes.getD i rt0).hops.getD j (0,0)).1):HMok routes i (j+1) (hkUp m ((routes.getD i rt0).net,((routes.getD i rt0).hops.getD j (0,0)).1) d):=fun n t=>by
 rw[hk_up,h n t]
 have e:covH routes i (j+1) n t↔covH routes i j n t∨((n,t)=((routes.getD i rt0).net,((routes.getD i rt0).hops.getD j (0,0)).1)):=by
  unfold covH
  rw[qiv hj,Prod.mk.injEq]
  constructor
  ·rintro(h1|⟨h1,h2,h3|h3⟩)
   ·exact .inl (.inl h1)
   ·exact .inl (.inr ⟨h1,h2,h3⟩)
   ·exact .inr ⟨h2.symm,h3⟩
  ·rintro((h1|⟨h1,h2,h3⟩)|⟨h2,h3⟩)
   ·exact .inl h1
   ·exact .inr ⟨h1,h2,.inl h3⟩
   ·exact .inr ⟨hi,h2.symm,.inr h3⟩
 by_cases e2:(n,t)=((routes.getD i rt0).net,((routes.getD i rt0).hops.getD j (0,0)).1)
 ·rw[if_pos e2,if_pos (e.2 (.inr e2)),hd]
  rw[Prod.mk.injEq] at e2
  rw[e2.1,e2.2]
 ·rw[if_neg e2]
  have e3:covH routes i (j+1) n t↔covH routes i j n t:=e.trans ⟨fun h=>h.resolve_right e2,.inl⟩
  exact ifc e3.symm
theorem qoF {routes:List Rt}(hr:RtsOk routes) {i j:Nat}(hi:i<routes.length) (hj:j<(routes.getD i rt0).hops.length) :
  qaW routes (routes.getD i rt0).net ((routes.getD i rt0).hops.getD j (0,0)).1=if 0≤((routes.getD i rt0).hops.getD j (0,0)).2 then qaW routes (routes.getD i rt0).net ((routes.getD i rt0).hops.getD j (0,0)).2+1 else 0:=by
 have hm:routes.getD i rt0∈routes:=qal hi
 obtain⟨b,hb⟩:=hr.tree _ hm
 rw[qig hr.nd _ hm,qig hr.nd _ hm,qqt hb hj]
theorem HMok.from_ {routes:List Rt}(hr:RtsOk routes) {i j:Nat}{m:HMap}(hi:i<routes.length) (h:HMok routes i j m) (hj:j<(routes.getD i rt0).hops.length) (hf:0≤((routes.getD i rt0).hops.getD j (0,0)).2) :
  hk m ((routes.getD i rt0).net,((routes.getD i rt0).hops.getD j (0,0)).2)=some (qaW routes (routes.getD i rt0).net ((routes.getD i rt0).hops.getD j (0,0)).2):=by
 have hm:routes.getD i rt0∈routes:=qal hi
 obtain⟨b,hb⟩:=hr.tree _ hm
 rw[h,if_pos]
 right
 refine⟨hi,rfl,?_⟩
 rcases hb.root j hj with⟨-,h1⟩|⟨-,a,h1,h2,-⟩
 ·omega
 ·rw[←h2]
  refine List.mem_map.2 ⟨(routes.getD i rt0).hops.getD a (0,0),?_,rfl⟩
  have e:((routes.getD i rt0).hops.take j).getD a (0,0)=(routes.getD i rt0).hops.getD a (0,0):=by
   simp[List.getD,List.getElem?_take,h1]
  rw[←e]
  exact qal (by rw[List.length_take];omega)
theorem HMok.fin {routes:List Rt}{m:HMap}(h:HMok routes routes.length 0 m) (n t:Int):(hk m (n,t)).getD 0=qaW routes n t∧(∀ d,hk m (n,t)=some d→d=qaW routes n t∧qbQ routes n t=d)∧(hk m (n,t)=none→qbQ routes n t = -1):=by
 have e:covH routes routes.length 0 n t↔∃ r∈routes,r.net=n∧t∈qaq r.hops:=by
  unfold covH
  constructor
  ·rintro(⟨a,-,h2,h3⟩|⟨h1,-⟩)
   ·exact⟨_,qal h2,h3⟩
   ·omega
  ·rintro⟨r,hr,h2⟩
   obtain⟨a,ha,rfl⟩:=qbf rt0 hr
   exact .inl ⟨a,ha,ha,h2⟩
 rw[h n t]
 by_cases hc:covH routes routes.length 0 n t
 ·rw[if_pos hc]
  refine⟨rfl,fun d hd=>?_,fun h=>by cases h⟩
  obtain rfl:qaW routes n t=d:=by simpa using hd
  exact⟨rfl,by rw[qbQ,if_pos (e.1 hc)]⟩
 ·rw[if_neg hc]
  refine⟨?_,fun d hd=>(by cases hd),fun _=>by rw[qbQ,if_neg (fun h=>hc (e.2 h))]⟩
  rw[qkM fun r hr h1 h2=>hc (e.2 ⟨r,hr,h1,h2⟩)]
  rfl
end Go.VL

set_option maxRecDepth 20000
set_option linter.unusedVariables false
set_option linter.unusedSimpArgs false
namespace Go.Proofs
open Go Go.VL
theorem qd5 {n t:Nat}(h:n=2) (m:HMap):qbt (.array n t) (hkE m):=by
 rw[qd9]
 intro e he
 obtain⟨x,_,rfl⟩:=List.mem_map.1 he
 exact⟨h.symm,⟨rfl,rfl,trivial⟩⟩
theorem qoG {routes:List Rt}{m:HMap}(hm:HMok routes routes.length 0 m) (n t:Int):(qc9 (hkE m) (.agg [.int .i64 n,.int .i64 t])).getD (.int .i64 0)=.int .i64 (qaW routes n t):=by
 rw[qhf (n,t),←(hm.fin n t).1]
 cases hk m (n,t) <;> rfl
theorem Try.c_latest (g:Nat) (cells:List Cel) (m:HMap) (arr:List Int) (routes:List Rt) (hm:HMok routes routes.length 0 m) (hr:RtsOk routes) (b:Int) (hb:0≤b∧b≤1000000) (ha : ∀ v,0≤arr.getD v 0∧arr.getD v 0≤b) (nets:List Int) (hn : ∀ n∈nets,0≤n∧n<arr.length) (hl:nets.length≤1000) (tile:Int) :
  ICall Try.prog 62 [.agg [.d (dCes cells),.map 0,.sl 1 g 1 0 arr.length],.d (dIs nets),.d (dI tile)] [.map (hkE m),.row g 1 true (arr.map (D.int .i64))]
   (fun r H'=>r=.d (dI (latT arr routes nets tile))∧H'=[.map (hkE m),.row g 1 true (arr.map (D.int .i64))]):=by
 refine qaF (E:=Try.env 2) Try.tok rfl 1000 Try.func62 rfl rfl Try.ntmps62 (by simp) ?_
 simp only[go_sem,seval,-List.reduceReplicate,Try.results62]
 repeat' first|assumption|(simp (disch:=first|assumption|omega|(simp;done)|(simp;omega)) only[qaa,qac,List.take_of_length_le,qab,qae,qaf,qag,qah,qak];try simp only[go_sem,seval,-List.reduceReplicate,Try.results62])|(with_reducible refine And.intro ?_ ?_)|(with_reducible intro _)|((with_reducible (show Region.lexB _ _=true));kernel_rfl)|((try rw[qad]);omega)
 refine qao (E:=Try.env 2) Try.tok (σ:=Nat) (fun i=>[(2,.d (dI tile)),(3,.ptr 2 0),(7,.d (dI (latT arr routes (nets.take i) tile))),(10,.d (dIs nets)),(11,.d (dI nets.length)),(12,.d (dI i))])
  (fun i=>[.map (hkE m),.row g 1 true (arr.map (D.int .i64)),.box [.d (dCes cells),.map 0,.sl 1 g 1 0 arr.length]]) (fun i=>i≤nets.length) (fun i=>nets.length-i) [] [] 1000 1000 ?_ ?_
 ·simp only[go_sem,seval,-List.reduceReplicate]
  exact⟨0,by omega,by simp[latT]⟩
 ·intro i hi
  have hlb:=qer ha hr tile (nets.take i)
  by_cases hit:i<nets.length
  ·have hls:latT arr routes (nets.take (i+1)) tile=max (latT arr routes (nets.take i) tile) (arr.getD (nets.getD i 0).toNat 0+qaW routes (nets.getD i 0) tile):=qaC (f:=fun(t n:Int)=>max t (arr.getD n.toNat 0+qaW routes n tile)) (b:=0) (0:Int) hit
   have hnb:=hn _ (qal hit:nets.getD i 0∈nets)
   generalize hx9:nets.getD i 0=x at *
   have hax:=ha x.toNat
   have hhx:=qbD (net:=x) (tile:=tile) hr.hops
   have hrl:=hr.len
   have ef:=qoG hm x tile
   generalize latT arr routes (nets.take i) tile=w at *
   simp only[go_sem,seval,-List.reduceReplicate,Try.results62,hx9,ef]
   repeat' first|assumption|(simp (disch:=first|assumption|omega|(simp;done)|(simp;omega)) only[qaa,qac,List.take_of_length_le,qab,qae,qaf,qag,qah,qak];try simp only[go_sem,seval,-List.reduceReplicate,Try.results62,hx9,ef])|(with_reducible refine And.intro ?_ ?_)|(with_reducible intro _)|((with_reducible (show Region.lexB _ _=true));kernel_rfl)|((try rw[qad]);omega)
   ·exact qd5 rfl m
   ·exact⟨i+1,by omega,by omega,hls.symm,rfl⟩
  ·obtain rfl:i=nets.length:=by omega
   rw[List.take_length]
   rw[List.take_length] at hlb
   simp only[go_sem,seval,-List.reduceReplicate,Try.results62]
   repeat' first|assumption|(simp (disch:=first|assumption|omega|(simp;done)|(simp;omega)) only[qaa,qac,List.take_of_length_le,qab,qae,qaf,qag,qah,qak];try simp only[go_sem,seval,-List.reduceReplicate,Try.results62])|(with_reducible refine And.intro ?_ ?_)|(with_reducible intro _)|((with_reducible (show Region.lexB _ _=true));kernel_rfl)|((try rw[qad]);omega)
   refine qa8 (r0:=.d (dI (latT arr routes nets tile))) (H1:=[.map (hkE m),.row g 1 true (arr.map (D.int .i64))]) ?_ ⟨rfl,rfl⟩
   simp only[go_sem,seval,-List.reduceReplicate]
theorem Try.c_latestR (g gn:Nat) (cells:List Cel) (m:HMap) (arr:List Int) (routes:List Rt) (hm:HMok routes routes.length 0 m) (hr:RtsOk routes) (b:Int) (hb:0≤b∧b≤1000000) (ha : ∀ v,0≤arr.getD v 0∧arr.getD v 0≤b) (nets:List Int) (hn : ∀ n∈nets,0≤n∧n<arr.length) (hl:nets.length≤1000) (tile:Int) :
  ICall Try.prog 62 [.agg [.d (dCes cells),.map 0,.sl 1 g 1 0 arr.length],.sl 2 gn 1 0 nets.length,.d (dI tile)] [.map (hkE m),.row g 1 true (arr.map (D.int .i64)),.row gn 1 true (nets.map (D.int .i64))]
   (fun r H'=>r=.d (dI (latT arr routes nets tile))∧H'=[.map (hkE m),.row g 1 true (arr.map (D.int .i64)),.row gn 1 true (nets.map (D.int .i64))]):=by
 refine qaF (E:=Try.env 3) Try.tok rfl 1000 Try.func62 rfl rfl Try.ntmps62 (by simp) ?_
 simp only[go_sem,seval,-List.reduceReplicate,Try.results62]
 repeat' first|assumption|(simp (disch:=first|assumption|omega|(simp;done)|(simp;omega)) only[qaa,qac,List.take_of_length_le,qab,qae,qaf,qag,qah,qak];try simp only[go_sem,seval,-List.reduceReplicate,Try.results62])|(with_reducible refine And.intro ?_ ?_)|(with_reducible intro _)|((with_reducible (show Region.lexB _ _=true));kernel_rfl)|((try rw[qad]);omega)
 refine qao (E:=Try.env 3) Try.tok (σ:=Nat) (fun i=>[(2,.d (dI tile)),(3,.ptr 3 0),(7,.d (dI (latT arr routes (nets.take i) tile))),(10,.sl 2 gn 1 0 nets.length),(11,.d (dI nets.length)),(12,.d (dI i))])
  (fun i=>[.map (hkE m),.row g 1 true (arr.map (D.int .i64)),.row gn 1 true (nets.map (D.int .i64)),.box [.d (dCes cells),.map 0,.sl 1 g 1 0 arr.length]]) (fun i=>i≤nets.length) (fun i=>nets.length-i) [] [] 1000 1000 ?_ ?_
 ·simp only[go_sem,seval,-List.reduceReplicate]
  exact⟨0,by omega,by simp[latT]⟩
 ·intro i hi
  have hlb:=qer ha hr tile (nets.take i)
  by_cases hit:i<nets.length
  ·have hls:latT arr routes (nets.take (i+1)) tile=max (latT arr routes (nets.take i) tile) (arr.getD (nets.getD i 0).toNat 0+qaW routes (nets.getD i 0) tile):=qaC (f:=fun(t n:Int)=>max t (arr.getD n.toNat 0+qaW routes n tile)) (b:=0) (0:Int) hit
   have hnb:=hn _ (qal hit:nets.getD i 0∈nets)
   generalize hx9:nets.getD i 0=x at *
   have hax:=ha x.toNat
   have hhx:=qbD (net:=x) (tile:=tile) hr.hops
   have hrl:=hr.len
   have ef:=qoG hm x tile
   generalize latT arr routes (nets.take i) tile=w at *
   simp only[go_sem,seval,-List.reduceReplicate,Try.results62,hx9,ef]
   repeat' first|assumption|(simp (disch:=first|assumption|omega|(simp;done)|(simp;omega)) only[qaa,qac,List.take_of_length_le,qab,qae,qaf,qag,qah,qak];try simp only[go_sem,seval,-List.reduceReplicate,Try.results62,hx9,ef])|(with_reducible refine And.intro ?_ ?_)|(with_reducible intro _)|((with_reducible (show Region.lexB _ _=true));kernel_rfl)|((try rw[qad]);omega)
   ·exact qd5 rfl m
   ·exact⟨i+1,by omega,by omega,hls.symm,rfl⟩
  ·obtain rfl:i=nets.length:=by omega
   rw[List.take_length]
   rw[List.take_length] at hlb
   simp only[go_sem,seval,-List.reduceReplicate,Try.results62]
   repeat' first|assumption|(simp (disch:=first|assumption|omega|(simp;done)|(simp;omega)) only[qaa,qac,List.take_of_length_le,qab,qae,qaf,qag,qah,qak];try simp only[go_sem,seval,-List.reduceReplicate,Try.results62])|(with_reducible refine And.intro ?_ ?_)|(with_reducible intro _)|((with_reducible (show Region.lexB _ _=true));kernel_rfl)|((try rw[qad]);omega)
   refine qa8 (r0:=.d (dI (latT arr routes nets tile))) (H1:=[.map (hkE m),.row g 1 true (arr.map (D.int .i64)),.row gn 1 true (nets.map (D.int .i64))]) ?_ ⟨rfl,rfl⟩
   simp only[go_sem,seval,-List.reduceReplicate]
end Go.Proofs
