/- Contracts, plain definitions and lemmas. Conditions: none; lemmas. -/
import Derived.Test.YtoanmdnkgjdinaaGreatC10
import Derived.Test.YtoanmdnkgjdinaaGreatE4
import Derived.Test.YtoanmdnkgjdinaaGreatF1
set_option linter.unusedVariables false
set_option linter.unusedSimpArgs false
namespace Go.VL
open Go
abbrev HMap:=List ((Int×Int)×Int)
def hk (m:HMap) (k:Int×Int):Option Int:=(m.find? fun e=>decide (e.1=k)).map fun e=>e.2
def hkUp:HMap→Int×Int→Int→HMap
 | [],k,b=>[(k,b)]
 | e::r,k,b=>if e.1=k then(k,b)::r else e::hkUp r k b
theorem hk_up (k:Int×Int) (b:Int) (j:Int×Int) : ∀ m,hk (hkUp m k b) j=if j=k then some b else hk m j
 | []=>by by_cases h:j=k <;> simp[hk,hkUp,h,eq_comm]
 | e::r=>by
  have ih:=hk_up k b j r
  unfold hkUp
  by_cases h:e.1=k
  ·rw[if_pos h]
   by_cases h2:j=k
   ·simp[hk,h2]
   ·have h3 : ¬ e.1=j:=fun h4=>h2 (by rw[←h4,h])
    have h4 : ¬ k=j:=fun h5=>h2 h5.symm
    simp[hk,h2,h3,h4]
  ·rw[if_neg h]
   by_cases h3:e.1=j
   ·have h2 : ¬ j=k:=fun h4=>h (by rw[h3,h4])
    simp[hk,h2,h3]
   ·unfold hk at ih ⊢
    simp only[List.find?_cons,decide_eq_false h3,ih]
def hkE (m:HMap):List (D×D):=m.map fun e=>(.agg [.int .i64 e.1.1,.int .i64 e.1.2],.int .i64 e.2)
theorem qjw (k:Int×Int) : ∀ m,qcW (hkE m) (.agg [.int .i64 k.1,.int .i64 k.2])=(hk m k).map (D.int .i64)
 | []=>rfl
 | e::r=>by
  have ih:=qjw k r
  show qcW ((.agg [.int .i64 e.1.1,.int .i64 e.1.2],.int .i64 e.2)::hkE r) _=_
  rw[qgi,qj2]
  by_cases h:e.1=k
  ·subst h;simp[hk]
  ·have h2 : ¬ (k.1=e.1.1∧k.2=e.1.2):=fun h3=>h (Prod.ext h3.1.symm h3.2.symm)
   rw[decide_eq_false h2]
   simp only[Bool.false_eq_true,if_false,ih]
   simp[hk,h]
theorem qn5 (k:Int×Int) (b:Int) : ∀ m,updD (hkE m) (.agg [.int .i64 k.1,.int .i64 k.2]) (.int .i64 b)=hkE (hkUp m k b)
 | []=>rfl
 | e::r=>by
  have ih:=qn5 k b r
  show updD ((.agg [.int .i64 e.1.1,.int .i64 e.1.2],.int .i64 e.2)::hkE r) _ _=_
  rw[updD,qj2]
  by_cases h:e.1=k
  ·subst h;simp[hkUp,hkE]
  ·have h2 : ¬ (k.1=e.1.1∧k.2=e.1.2):=fun h3=>h (Prod.ext h3.1.symm h3.2.symm)
   rw[decide_eq_false h2]
   simp only[Bool.false_eq_true,if_false,ih]
   simp[hkUp,hkE,h]
def covH (routes:List Rt) (i j:Nat) (n t:Int):Prop:=(∃ a,a<i∧a<routes.length∧(routes.getD a rt0).net=n∧t∈qar (routes.getD a rt0).hops)∨(i<routes.length∧(routes.getD i rt0).net=n∧t∈qar ((routes.getD i rt0).hops.take j))
open Classical in
theorem ifc {α : Type}{p q:Prop}{a b : α}(h:p↔q):(if p then a else b)=if q then a else b:=by
 by_cases hp:p
 ·rw[if_pos hp,if_pos (h.1 hp)]
 ·rw[if_neg hp,if_neg (fun hq=>hp (h.2 hq))]
open Classical in
def HMok (routes:List Rt) (i j:Nat) (m:HMap):Prop:=∀ n t,hk m (n,t)=if covH routes i j n t then some (qb8 routes n t) else none
theorem HMok.zero (routes:List Rt):HMok routes 0 0 []:=fun n t=>by
 rw[if_neg]
 ·rfl
 ·rintro(⟨a,h,-⟩|⟨-,-,h⟩)
  ·omega
  ·simp[qar] at h
theorem HMok.next {routes:List Rt}{i:Nat}{m:HMap}(hi:i<routes.length) (h:HMok routes i (routes.getD i rt0).hops.length m):HMok routes (i+1) 0 m:=fun n t=>by
 rw[h n t]
 have e:covH routes i (routes.getD i rt0).hops.length n t↔covH routes (i+1) 0 n t:=by
  unfold covH
  rw[List.take_length]
  constructor
  ·rintro(⟨a,h1,h2⟩|⟨h1,h2,h3⟩)
   ·exact .inl ⟨a,by omega,h2⟩
   ·exact .inl ⟨i,by omega,h1,h2,h3⟩
  ·rintro(⟨a,h1,h2⟩|⟨-,-,h3⟩)
   ·by_cases e:a=i
    ·subst e;exact .inr h2
    ·exact .inl ⟨a,by omega,h2⟩
   ·simp[qar] at h3
 exact ifc e
theorem qik {hops:List (Int×Int)}{j:Nat}(hj:j<hops.length) {t:Int}:t∈qar (hops.take (j+1))↔t∈qar (hops.take j)∨t=(hops.getD j (0,0)).1:=by
 unfold qar
 rw[List.take_succ_eq_append_getElem hj,List.map_append,List.mem_append,List.map_singleton,List.mem_singleton]
 rw[List.getD_eq_getElem?_getD,List.getElem?_eq_getElem hj]
 rfl
theorem HMok.step {routes:List Rt}(hr:RtsOk routes) {i j:Nat}{m:HMap}(hi:i<routes.length) (h:HMok routes i j m) (hj:j<(routes.getD i rt0).hops.length) {d:Int}
  (hd:d=qb8 routes (routes.getD i rt0).net ((routes.getD i rt0).hops.getD j (0,0)).1):HMok routes i (j+1) (hkUp m ((routes.getD i rt0).net,((routes.getD i rt0).hops.getD j (0,0)).1) d):=fun n t=>by
 rw[hk_up,h n t]
 have e:covH routes i (j+1) n t↔covH routes i j n t∨((n,t)=((routes.getD i rt0).net,((routes.getD i rt0).hops.getD j (0,0)).1)):=by
  unfold covH
  rw[qik hj,Prod.mk.injEq]
  constructor
  ·rintro(h1|⟨h1,h2,h3|h3⟩)
   ·exact .inl (.inl h1)
   ·exact .inl (.inr ⟨h1,h2,h3⟩)
   ·exact .inr ⟨h2.symm,h3⟩
  ·rintro((h1|⟨h1,h2,h3⟩)|⟨h2,h3⟩)
   ·exact .inl h1
   ·exact .inr ⟨h1,h2,.inl h3⟩
   ·exact .inr ⟨hi,h2.symm,.inr h3⟩
 by_cases e2:(n,t)=((routes.getD i rt0).net,((routes.getD i rt0).hops.getD j (0,0)).1)
 ·rw[if_pos e2,if_pos (e.2 (.inr e2)),hd]
  rw[Prod.mk.injEq] at e2
  rw[e2.1,e2.2]
 ·rw[if_neg e2]
  have e3:covH routes i (j+1) n t↔covH routes i j n t:=e.trans ⟨fun h=>h.resolve_right e2,.inl⟩
  exact ifc e3.symm
theorem hops_at {routes:List Rt}(hr:RtsOk routes) {i j:Nat}(hi:i<routes.length) (hj:j<(routes.getD i rt0).hops.length) :
  qb8 routes (routes.getD i rt0).net ((routes.getD i rt0).hops.getD j (0,0)).1=if 0≤((routes.getD i rt0).hops.getD j (0,0)).2 then qb8 routes (routes.getD i rt0).net ((routes.getD i rt0).hops.getD j (0,0)).2+1 else 0:=by
 have hm:routes.getD i rt0∈routes:=qak hi
 obtain⟨b,hb⟩:=hr.tree _ hm
 rw[qh1 hr.nd _ hm,qh1 hr.nd _ hm,qpN hb hj]
theorem HMok.from_ {routes:List Rt}(hr:RtsOk routes) {i j:Nat}{m:HMap}(hi:i<routes.length) (h:HMok routes i j m) (hj:j<(routes.getD i rt0).hops.length) (hf:0≤((routes.getD i rt0).hops.getD j (0,0)).2) :
  hk m ((routes.getD i rt0).net,((routes.getD i rt0).hops.getD j (0,0)).2)=some (qb8 routes (routes.getD i rt0).net ((routes.getD i rt0).hops.getD j (0,0)).2):=by
 have hm:routes.getD i rt0∈routes:=qak hi
 obtain⟨b,hb⟩:=hr.tree _ hm
 rw[h,if_pos]
 right
 refine⟨hi,rfl,?_⟩
 rcases hb.root j hj with⟨-,h1⟩|⟨-,a,h1,h2,-⟩
 ·omega
 ·rw[←h2]
  refine List.mem_map.2 ⟨(routes.getD i rt0).hops.getD a (0,0),?_,rfl⟩
  have e:((routes.getD i rt0).hops.take j).getD a (0,0)=(routes.getD i rt0).hops.getD a (0,0):=by
   simp[List.getD,List.getElem?_take,h1]
  rw[←e]
  exact qak (by rw[List.length_take];omega)
theorem HMok.fin {routes:List Rt}{m:HMap}(h:HMok routes routes.length 0 m) (n t:Int):(hk m (n,t)).getD 0=qb8 routes n t∧(∀ d,hk m (n,t)=some d→d=qb8 routes n t∧qlN routes n t=d)∧(hk m (n,t)=none→qlN routes n t = -1):=by
 have e:covH routes routes.length 0 n t↔∃ r∈routes,r.net=n∧t∈qar r.hops:=by
  unfold covH
  constructor
  ·rintro(⟨a,-,h2,h3⟩|⟨h1,-⟩)
   ·exact⟨_,qak h2,h3⟩
   ·omega
  ·rintro⟨r,hr,h2⟩
   obtain⟨a,ha,rfl⟩:=qbC rt0 hr
   exact .inl ⟨a,ha,ha,h2⟩
 rw[h n t]
 by_cases hc:covH routes routes.length 0 n t
 ·rw[if_pos hc]
  refine⟨rfl,fun d hd=>?_,fun h=>by cases h⟩
  obtain rfl:qb8 routes n t=d:=by simpa using hd
  exact⟨rfl,by rw[qlN,if_pos (e.1 hc)]⟩
 ·rw[if_neg hc]
  refine⟨?_,fun d hd=>(by cases hd),fun _=>by rw[qlN,if_neg (fun h=>hc (e.2 h))]⟩
  rw[qkr fun r hr h1 h2=>hc (e.2 ⟨r,hr,h1,h2⟩)]
  rfl
end Go.VL

set_option maxRecDepth 20000
set_option linter.unusedVariables false
set_option linter.unusedSimpArgs false
namespace Go.Proofs
open Go Go.VL
theorem qid {n t:Nat}(h:n=2) (m:HMap):qbl (.array n t) (hkE m):=by
 rw[qdX]
 intro e he
 obtain⟨x,_,rfl⟩:=List.mem_map.1 he
 exact⟨h.symm,⟨rfl,rfl,trivial⟩⟩
theorem hkE_get {routes:List Rt}{m:HMap}(hm:HMok routes routes.length 0 m) (n t:Int):(qcW (hkE m) (.agg [.int .i64 n,.int .i64 t])).getD (.int .i64 0)=.int .i64 (qb8 routes n t):=by
 rw[qjw (n,t),←(hm.fin n t).1]
 cases hk m (n,t) <;> rfl
theorem Tryz.c_latest (g:Nat) (cells:List Cel) (m:HMap) (arr:List Int) (routes:List Rt) (hm:HMok routes routes.length 0 m) (hr:RtsOk routes) (b:Int) (hb:0≤b∧b≤1000000) (ha : ∀ v,0≤arr.getD v 0∧arr.getD v 0≤b) (nets:List Int) (hn : ∀ n∈nets,0≤n∧n<arr.length) (hl:nets.length≤1000) (tile:Int) :
  ICall Tryz.prog 67 [.agg [.d (dCes cells),.map 0,.sl 1 g 1 0 arr.length],.d (dIs nets),.d (dI tile)] [.map (hkE m),.row g 1 true (arr.map (D.int .i64))]
   (fun r H'=>r=.d (dI (latT arr routes nets tile))∧H'=[.map (hkE m),.row g 1 true (arr.map (D.int .i64))]):=by
 refine qaJ (E:=Tryz.env 2) Tryz.tok rfl 1000 Tryz.func67 rfl rfl Tryz.ntmps67 (by simp) ?_
 simp only[go_sem,seval,-List.reduceReplicate,Tryz.results67]
 repeat' first|assumption|(simp (disch:=first|assumption|omega|(simp;done)|(simp;omega)) only[qaa,qac,List.take_of_length_le,qab,qae,qaf,qag,qah,qaj];try simp only[go_sem,seval,-List.reduceReplicate,Tryz.results67])|(with_reducible refine And.intro ?_ ?_)|(with_reducible intro _)|((with_reducible (show Region.lexB _ _=true));kernel_rfl)|((try rw[qad]);omega)
 refine qaq (E:=Tryz.env 2) Tryz.tok (σ:=Nat) (fun i=>[(2,.d (dI tile)),(3,.ptr 2 0),(7,.d (dI (latT arr routes (nets.take i) tile))),(10,.d (dIs nets)),(11,.d (dI nets.length)),(12,.d (dI i))])
  (fun i=>[.map (hkE m),.row g 1 true (arr.map (D.int .i64)),.box [.d (dCes cells),.map 0,.sl 1 g 1 0 arr.length]]) (fun i=>i≤nets.length) (fun i=>nets.length-i) [] [] 1000 1000 ?_ ?_
 ·simp only[go_sem,seval,-List.reduceReplicate]
  exact⟨0,by omega,by simp[latT]⟩
 ·intro i hi
  have hlb:=qh2 ha hr tile (nets.take i)
  by_cases hit:i<nets.length
  ·have hls:latT arr routes (nets.take (i+1)) tile=max (latT arr routes (nets.take i) tile) (arr.getD (nets.getD i 0).toNat 0+qb8 routes (nets.getD i 0) tile):=qaH (f:=fun(t n:Int)=>max t (arr.getD n.toNat 0+qb8 routes n tile)) (b:=0) (0:Int) hit
   have hnb:=hn _ (qak hit:nets.getD i 0∈nets)
   generalize hx9:nets.getD i 0=x at *
   have hax:=ha x.toNat
   have hhx:=qeU (net:=x) (tile:=tile) hr.hops
   have hrl:=hr.len
   have ef:=hkE_get hm x tile
   generalize latT arr routes (nets.take i) tile=w at *
   simp only[go_sem,seval,-List.reduceReplicate,Tryz.results67,hx9,ef]
   repeat' first|assumption|(simp (disch:=first|assumption|omega|(simp;done)|(simp;omega)) only[qaa,qac,List.take_of_length_le,qab,qae,qaf,qag,qah,qaj];try simp only[go_sem,seval,-List.reduceReplicate,Tryz.results67,hx9,ef])|(with_reducible refine And.intro ?_ ?_)|(with_reducible intro _)|((with_reducible (show Region.lexB _ _=true));kernel_rfl)|((try rw[qad]);omega)
   ·exact qid rfl m
   ·exact⟨i+1,by omega,by omega,hls.symm,rfl⟩
  ·obtain rfl:i=nets.length:=by omega
   rw[List.take_length]
   rw[List.take_length] at hlb
   simp only[go_sem,seval,-List.reduceReplicate,Tryz.results67]
   repeat' first|assumption|(simp (disch:=first|assumption|omega|(simp;done)|(simp;omega)) only[qaa,qac,List.take_of_length_le,qab,qae,qaf,qag,qah,qaj];try simp only[go_sem,seval,-List.reduceReplicate,Tryz.results67])|(with_reducible refine And.intro ?_ ?_)|(with_reducible intro _)|((with_reducible (show Region.lexB _ _=true));kernel_rfl)|((try rw[qad]);omega)
   refine qb9 (r0:=.d (dI (latT arr routes nets tile))) (H1:=[.map (hkE m),.row g 1 true (arr.map (D.int .i64))]) ?_ ⟨rfl,rfl⟩
   simp only[go_sem,seval,-List.reduceReplicate]
end Go.Proofs

set_option maxRecDepth 20000
set_option linter.unusedVariables false
set_option linter.unusedSimpArgs false
namespace Go.Proofs
open Go Go.VL
abbrev cbox (c:Circ):R:=.box [.d (dI c.inputs),.d (dIs c.next),.d (dPs c.gates),.d (dIs c.outs)]
noncomputable def qpS (c:Circ) (place:List Int) (o:Option (List Rt)) (r:I) (H':List R):Prop:=
 match o with
 | none=>r=.tup [.d (.agg [.nil,.raw (.map none),.nil]),.d (dB false)]∧H'=[cbox c]
 | some rs=>∃ m B1 B4,HMok rs rs.length 0 m∧r=.tup [.agg [.d (dCes (qan c)),.map 2,.sl 3 0 1 0 (qej c (qan c) place rs).length],.d (dB true)]∧
   H'=[cbox c,.box B1,.map (hkE m),.row 0 1 true ((qej c (qan c) place rs).map (D.int .i64)),.box B4]
set_option maxHeartbeats 2000000 in
theorem Tryz.c_timingOf (c:Circ) (place:List Int) :
  ICall Tryz.prog 41 [.ptr 0 0,.d (dIs place)] [cbox c] (qpS c place (qaw c place [])):=by
 have hR:=Tryz.c_Route c place
 cases hra:qaw c place [] with
 | none=>
  rw[hra] at hR
  have hR:Pure Tryz.prog 18 [dC c,dIs place] (.tup [.nil,dB false]):=hR
  refine qaJ (E:=Tryz.env 1) Tryz.tok rfl 1000 Tryz.func41 rfl rfl Tryz.ntmps41 (by simp) ?_
  simp only[go_sem,seval,-List.reduceReplicate,Tryz.results41]
  repeat' first|assumption|(simp (disch:=first|assumption|omega|(simp;done)|(simp;omega)) only[qaa,qac,List.take_of_length_le,qab,qae,qaf,qag,qah,qaj];try simp only[go_sem,seval,-List.reduceReplicate,Tryz.results41])|(with_reducible refine And.intro ?_ ?_)|(with_reducible intro _)|(refine qai hR ?_;simp only[go_sem,seval,-List.reduceReplicate,Tryz.results41])|((try rw[qad]);omega)
  refine qb9 (r0:=.tup [.d (.agg [.nil,.raw (.map none),.nil]),.d (dB false)]) (H1:=[cbox c]) ?_ ⟨rfl,rfl⟩
  simp only[go_sem,seval,-List.reduceReplicate]
 | some rs=>
  rw[hra] at hR
  have hR:Pure Tryz.prog 18 [dC c,dIs place] (.tup [dRts rs,dB true]):=hR
  have hro:=qee hra
  obtain⟨hv,hp,-,busy,hRo⟩:=qfx hra
  have hce:=Tryz.c_Cells c hv
  have hf:=hv.first_bd
  have hi0:=hv.i0
  have hi1:=hv.i1
  have hvs:=Tryz.c_vars c (by omega)
  have hvb:=hv.vars_bd
  have hcl:=qb4 hv
  have hpn:=hp.len
  refine qaJ (E:=Tryz.env 1) Tryz.tok rfl 1000 Tryz.func41 rfl rfl Tryz.ntmps41 (by simp) ?_
  simp only[go_sem,seval,-List.reduceReplicate,Tryz.results41]
  repeat' first|assumption|(simp (disch:=first|assumption|omega|(simp;done)|(simp;omega)) only[qaa,qac,List.take_of_length_le,qab,qae,qaf,qag,qah,qaj];try simp only[go_sem,seval,-List.reduceReplicate,Tryz.results41])|(with_reducible refine And.intro ?_ ?_)|(with_reducible intro _)|(refine qai hR ?_;simp only[go_sem,seval,-List.reduceReplicate,Tryz.results41])|(refine qbt hce ?_;simp only[go_sem,seval,-List.reduceReplicate,Tryz.results41])|(refine qai hvs ?_;simp only[go_sem,seval,-List.reduceReplicate,Tryz.results41])|((try rw[qad]);omega)
  have hrl:=hro.len
  have hA0:List.replicate c.vars.toNat (0:Int)=arrT (qan c) place rs c.vars.toNat 0:=rfl
  rw[hA0]
  have hAl:=fun i=>qf7 (cells:=qan c) (place:=place) (routes:=rs) (N:=c.vars.toNat) i
  have hAb:=fun i v=>qk9 (cells:=qan c) (place:=place) hro (N:=c.vars.toNat) i v
  have hcn:=qgv hv
  have hcin:=qdi hv
  have hpr:=fun i hi=>hp.get (i:=i) hi
  have hAd:qej c (qan c) place rs=arrT (qan c) place rs c.vars.toNat (qan c).length:=rfl
  generalize hcs:qan c=cells at *
  refine qaq (E:=Tryz.env 1) Tryz.tok (σ:=Nat×HMap) (fun s=>[(0,.ptr 0 0),(1,.d (dIs place)),(4,.ptr 1 0),(8,.ptr 4 0),(35,.d (dRts rs)),(36,.d (dI rs.length)),(37,.d (dI s.1))])
   (fun s=>[cbox c,.box [.d .nil,.d (.raw (.map none)),.d .nil],.map (hkE s.2),.row 0 1 true ((arrT cells place rs c.vars.toNat 0).map (D.int .i64)),.box [.d (dCes cells),.map 2,.sl 3 0 1 0 c.vars.toNat]]) (fun s=>s.1≤rs.length∧HMok rs s.1 0 s.2) (fun s=>rs.length-s.1) [] [] 1000 1000 ?_ ?_
  ·simp only[go_sem,seval,-List.reduceReplicate]
   exact⟨(0,[]),⟨by simp only;omega,HMok.zero rs⟩,by simp[hkE]⟩
  ·rintro⟨i,m⟩ ⟨hi,hm⟩
   simp only at hi hm
   by_cases hit:i<rs.length
   ·have hxm:rs.getD i rt0∈rs:=qak hit
    have hhl:=hro.hops _ hxm
    have htree:=(hRo.each _ hxm).tree
    have hst:=fun j m2 (h:HMok rs i j m2) hj d hd=>HMok.step hro hit h hj (d:=d) hd
    have hat:=fun j hj=>hops_at hro hit (j:=j) hj
    have hfr:=fun j m2 (h:HMok rs i j m2) hj hf=>HMok.from_ hro hit h (j:=j) hj hf
    have hnx:=fun m2 h=>HMok.next (m:=m2) hit h
    have hbd:=fun t=>qeU (net:=(rs.getD i rt0).net) (tile:=t) hro.hops
    generalize hx9:rs.getD i rt0=x at *
    simp only[go_sem,seval,-List.reduceReplicate,Tryz.results41,hx9]
    repeat' first|assumption|(simp (disch:=first|assumption|omega|(simp;done)|(simp;omega)) only[qaa,qac,List.take_of_length_le,qab,qae,qaf,qag,qah,qaj];try simp only[go_sem,seval,-List.reduceReplicate,Tryz.results41,hx9])|(with_reducible refine And.intro ?_ ?_)|(with_reducible intro _)|((try rw[qad]);omega)
    refine qaq (E:=Tryz.env 1) Tryz.tok (σ:=Nat×HMap) (fun s=>[(0,.ptr 0 0),(1,.d (dIs place)),(4,.ptr 1 0),(8,.ptr 4 0),(35,.d (dRts rs)),(36,.d (dI rs.length)),(37,.d (dI i)),(10,.ptr 5 0),(42,.d (dPs x.hops)),(43,.d (dI x.hops.length)),(44,.d (dI s.1))])
     (fun s=>[cbox c,.box [.d .nil,.d (.raw (.map none)),.d .nil],.map (hkE s.2),.row 0 1 true ((arrT cells place rs c.vars.toNat 0).map (D.int .i64)),.box [.d (dCes cells),.map 2,.sl 3 0 1 0 c.vars.toNat],.box [.d (dI x.net),.d (dI x.track),.d (dPs x.hops)]]) (fun s=>s.1≤x.hops.length∧HMok rs i s.1 s.2) (fun s=>x.hops.length-s.1) [] [] 1000 1000 ?_ ?_
    ·simp only[go_sem,seval,-List.reduceReplicate]
     exact⟨(0,m),⟨by simp only;omega,hm⟩,rfl,rfl⟩
    ·rintro⟨j,m2⟩ ⟨hj,hm2⟩
     simp only at hj hm2
     by_cases hjt:j<x.hops.length
     ·have hst2:=hst j m2 hm2 hjt
      have hat2:=hat j hjt
      have hfr2:=hfr j m2 hm2 hjt
      have hb1:=hbd (x.hops.getD j (0,0)).1
      have hb2:=hbd (x.hops.getD j (0,0)).2
      have eu:=fun d=>qn5 (x.net,(x.hops.getD j (0,0)).1) d m2
      have ef:=qjw (x.net,(x.hops.getD j (0,0)).2) m2
      generalize hu9:x.hops.getD j (0,0)=u at *
      simp only at eu ef
      by_cases hge:0≤u.2
      ·rw[if_pos hge] at hat2
       rw[hfr2 hge] at ef
       simp only[go_sem,seval,-List.reduceReplicate,Tryz.results41,hu9,eu,ef,Option.map_some,Option.getD_some]
       repeat' first|assumption|(simp (disch:=first|assumption|omega|(simp;done)|(simp;omega)) only[qaa,qac,List.take_of_length_le,qab,qae,qaf,qag,qah,qaj];try simp only[go_sem,seval,-List.reduceReplicate,Tryz.results41,hu9,eu,ef,Option.map_some,Option.getD_some])|(with_reducible refine And.intro ?_ ?_)|(with_reducible intro _)|((try rw[qad]);omega)
       refine qaT (E:=Tryz.env 1) Tryz.tok Tryz.follows 1000 1000 [16] (.fst 0 (.fst 2 (.fst 4 (.fst 7 (.fst 9 (.fst 11 (.fst 1 (.fst 3 (.fst 5 (.fst 6 (.fst 8 (.fst 10 (.fst 12 (.fst 13 (.fst 14 (.fst 15 (.one 16 (.done)))))))))))))))))) (by kernel_rfl) ?_
       simp only[go_sem,seval,-List.reduceReplicate,Tryz.results41,hu9,eu,ef,Option.map_some,Option.getD_some]
       repeat' first|assumption|(simp (disch:=first|assumption|omega|(simp;done)|(simp;omega)) only[qaa,qac,List.take_of_length_le,qab,qae,qaf,qag,qah,qaj];try simp only[go_sem,seval,-List.reduceReplicate,Tryz.results41,hu9,eu,ef,Option.map_some,Option.getD_some])|(with_reducible refine And.intro ?_ ?_)|(with_reducible intro _)|((try rw[qad]);omega)
       all_goals first|exact qid rfl m2|skip
       refine⟨(j+1,hkUp m2 (x.net,u.1) (qb8 rs x.net u.2+1)),⟨by simp only;omega,hst2 _ hat2.symm⟩,by simp only;omega,rfl,rfl⟩
      ·rw[if_neg hge] at hat2
       simp only[go_sem,seval,-List.reduceReplicate,Tryz.results41,hu9,eu]
       repeat' first|assumption|(simp (disch:=first|assumption|omega|(simp;done)|(simp;omega)) only[qaa,qac,List.take_of_length_le,qab,qae,qaf,qag,qah,qaj];try simp only[go_sem,seval,-List.reduceReplicate,Tryz.results41,hu9,eu])|(with_reducible refine And.intro ?_ ?_)|(with_reducible intro _)|((try rw[qad]);omega)
       ·exact qid rfl m2
       ·exact⟨(j+1,hkUp m2 (x.net,u.1) 0),⟨by simp only;omega,hst2 _ hat2.symm⟩,by simp only;omega,rfl,rfl⟩
     ·obtain rfl:j=x.hops.length:=by omega
      have hnx2:=hnx m2 hm2
      simp only[go_sem,seval,-List.reduceReplicate,Tryz.results41]
      repeat' first|assumption|(simp (disch:=first|assumption|omega|(simp;done)|(simp;omega)) only[qaa,qac,List.take_of_length_le,qab,qae,qaf,qag,qah,qaj];try simp only[go_sem,seval,-List.reduceReplicate,Tryz.results41])|(with_reducible refine And.intro ?_ ?_)|(with_reducible intro _)|((try rw[qad]);omega)
      exact⟨(i+1,m2),⟨by simp only;omega,hnx2⟩,by simp only;omega,rfl,rfl⟩
   ·obtain rfl:i=rs.length:=by omega
    simp only[go_sem,seval,-List.reduceReplicate,Tryz.results41]
    repeat' first|assumption|(simp (disch:=first|assumption|omega|(simp;done)|(simp;omega)) only[qaa,qac,List.take_of_length_le,qab,qae,qaf,qag,qah,qaj];try simp only[go_sem,seval,-List.reduceReplicate,Tryz.results41])|(with_reducible refine And.intro ?_ ?_)|(with_reducible intro _)|((try rw[qad]);omega)
    refine qaq (E:=Tryz.env 1) Tryz.tok (σ:=Nat) (fun i=>[(1,.d (dIs place)),(4,.ptr 1 0),(8,.ptr 4 0),(77,.d (dCes cells)),(78,.d (dI cells.length)),(79,.d (dI i))])
     (fun i=>[cbox c,.box [.d .nil,.d (.raw (.map none)),.d .nil],.map (hkE m),.row 0 1 true ((arrT cells place rs c.vars.toNat i).map (D.int .i64)),.box [.d (dCes cells),.map 2,.sl 3 0 1 0 c.vars.toNat]]) (fun i=>i≤cells.length) (fun i=>cells.length-i) [] [] 1000 1000 ?_ ?_
    ·simp only[go_sem,seval,-List.reduceReplicate]
     exact⟨0,by omega,rfl,rfl⟩
    ·intro i hi
     have hali:=hAl i
     have habi:=hAb i
     by_cases hit:i<cells.length
     ·have hxm:cells.getD i ce0∈cells:=qak hit
      have h1:=hcn _ hxm
      have h2:=hcin _ hxm
      have hpi:=hpr i hit
      have hla:=fun nets hn hl tile=>Tryz.c_latest 0 cells m (arrT cells place rs c.vars.toNat i) rs hm hro (2503*(i:Int)) (by omega) habi nets hn hl tile
      have hlb:=qh2 habi hro (place.getD i 0) (cells.getD i ce0).inputs
      have has:arrT cells place rs c.vars.toNat (i+1)=if(cells.getD i ce0).reg then arrT cells place rs c.vars.toNat i else(arrT cells place rs c.vars.toNat i).set (cells.getD i ce0).net.toNat (latT (arrT cells place rs c.vars.toNat i) rs (cells.getD i ce0).inputs (place.getD i 0)+3):=rfl
      generalize hx9:cells.getD i ce0=x at *
      have hla2:=hla x.inputs (fun n hn=>by have:=h2.2.2 n hn;omega) (by omega) (place.getD i 0)
      generalize arrT cells place rs c.vars.toNat i=A at *
      simp only[go_sem,seval,-List.reduceReplicate,Tryz.results41,hx9]
      repeat' first|assumption|(simp (disch:=first|assumption|omega|(simp;done)|(simp;omega)) only[qaa,qac,List.take_of_length_le,qab,qae,qaf,qag,qah,qaj];try simp only[go_sem,seval,-List.reduceReplicate,Tryz.results41,hx9])|(with_reducible refine And.intro ?_ ?_)|(with_reducible intro _)|((try rw[qad]);omega)
      ·rename_i h7
       rw[if_neg (by rw[h7];simp)] at has
       rw[hali] at hla2
       refine qaT (E:=Tryz.env 1) Tryz.tok Tryz.follows 1000 1000 [11,14] (.fst 0 (.fst 2 (.fst 5 (.fst 7 (.fst 8 (.fst 9 (.fst 4 (.fst 6 (.fst 10 (.three 1 (.two 3 (.one 11 (.fst 12 (.fst 13 (.one 14 (.done))))) 11 (.fst 12 (.one 3 (.fst 13 (.one 14 (.done)))))) 3 (.two 1 (.one 11 (.fst 12 (.fst 13 (.one 14 (.done))))) 11 (.fst 12 (.one 1 (.fst 13 (.one 14 (.done)))))) 11 (.fst 12 (.two 1 (.one 3 (.fst 13 (.one 14 (.done)))) 3 (.one 1 (.fst 13 (.one 14 (.done)))))))))))))))) (by kernel_rfl) ?_
       simp only[go_sem,seval,-List.reduceReplicate,Tryz.results41,hx9]
       repeat' first|assumption|(simp (disch:=first|assumption|omega|(simp;done)|(simp;omega)) only[qaa,qac,List.take_of_length_le,qab,qae,qaf,qag,qah,qaj];try simp only[go_sem,seval,-List.reduceReplicate,Tryz.results41,hx9])|(with_reducible refine And.intro ?_ ?_)|(with_reducible intro _)|((try rw[qad]);omega)
       all_goals (
        refine qax hla2 [2,3] (by simp only[go_sem,seval,-List.reduceReplicate]) ?_
        rintro r0 H1 ⟨rfl,rfl⟩
        simp only[go_sem,seval,-List.reduceReplicate,Tryz.results41,hx9]
        repeat' first|assumption|(simp (disch:=first|assumption|omega|(simp;done)|(simp;omega)) only[qaa,qac,List.take_of_length_le,qab,qae,qaf,qag,qah,qaj];try simp only[go_sem,seval,-List.reduceReplicate,Tryz.results41,hx9])|(with_reducible refine And.intro ?_ ?_)|(with_reducible intro _)|((try rw[qad]);omega))
       all_goals (
        refine⟨i+1,by omega,by omega,rfl,?_⟩
        rw[has,Int.add_comm 3])
      ·rename_i h7
       rw[if_pos h7] at has
       exact⟨i+1,by omega,by omega,rfl,has.symm⟩
     ·obtain rfl:i=cells.length:=by omega
      simp only[go_sem,seval,-List.reduceReplicate,Tryz.results41]
      repeat' first|assumption|(simp (disch:=first|assumption|omega|(simp;done)|(simp;omega)) only[qaa,qac,List.take_of_length_le,qab,qae,qaf,qag,qah,qaj];try simp only[go_sem,seval,-List.reduceReplicate,Tryz.results41])|(with_reducible refine And.intro ?_ ?_)|(with_reducible intro _)|((try rw[qad]);omega)
      have hN:c.vars.toNat=(qej c cells place rs).length:=by rw[hAd,hAl]
      rw[←hAd]
      rw[←hcs] at hN ⊢
      exact qcd ⟨m,_,_,hm,by rw[hN],rfl⟩
end Go.Proofs
