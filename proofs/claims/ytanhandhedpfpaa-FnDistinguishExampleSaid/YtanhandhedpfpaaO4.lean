/- Contracts, plain definitions and lemmas. Conditions: none; lemmas. -/
import Derived.Test.YtanhandhedpfpaaC8
import Derived.Test.YtanhandhedpfpaaTy
import Derived.Test.YtanhandhedpfpaaVM8
import Derived.Test.YtanhandhedpfpaaProg
import Derived.Test.YtanhandhedpfpaaC23
set_option maxRecDepth 20000
set_option linter.unusedVariables false
set_option linter.unusedSimpArgs false
namespace Go.Proofs
open Go Go.VL
structure Tcfg where
 table:Int
 select:List Int
 reg:Bool
 drive:List Int
noncomputable instance:DecidableEq Tcfg:=fun _ _=>Classical.propDecidable _
abbrev dTc (t:Tcfg):D:=.agg [dI t.table,dIs t.select,dB t.reg,dIs t.drive]
abbrev dFr (n:Int) (t:Tcfg):D:=.agg [dI n,dI t.table,dIs t.select,dB t.reg,dIs t.drive]
def trackOk (n:Int):Bool:=(decide (0≤n)&&decide (n≤7)) || decide (n=15)
def nbUp (t:Int):Int:=if 5≤t then t-5 else -1
def nbLeft (t:Int):Int:=if 0<t%5 then t-1 else -1
def nbRight (t:Int):Int:=if t%5<4 then t+1 else -1
def nbDown (t:Int):Int:=if t<20 then t+5 else -1
def nb (t d:Int):Int:=if d=2 then nbUp t else if d=3 then nbLeft t else if d=4 then nbRight t else if d=5 then nbDown t else -1
def driveOk (t d:Int):Bool:=decide (d=0∨d=1∨(2≤d∧d≤5∧0≤nb t d)∨(d=6∧t%5=0∧t/5<4))
def Tcfg.ok (t:Int) (x:Tcfg):Bool:=(decide (0≤x.table)&&decide (x.table<256))&&decide (x.select.length=3)&&decide (x.drive.length=8)&&x.select.all trackOk&&x.drive.all (driveOk t)
end Go.Proofs

set_option maxRecDepth 20000
set_option linter.unusedVariables false
set_option linter.unusedSimpArgs false
namespace Go.Proofs
open Go Go.VL
abbrev dQ (p:Int×Bool):D:=.agg [dI p.1,dB p.2]
structure Kcfg where
 tiles:List Tcfg
 pads:List (Int×Bool)
noncomputable instance:DecidableEq Kcfg:=fun _ _=>Classical.propDecidable _
def tc0:Tcfg:=⟨0,[],false,[]⟩
abbrev dFp (p:Int×Tcfg):D:=dFr p.1 p.2
theorem getD_tc {l:List Tcfg}{i:Nat}{z:D}(h:i<l.length):(l.map fun x=>dTc x).getD i z=dTc (l.getD i tc0):=getD_lt _ _ _ _ _ h
theorem getD_q {l:List (Int×Bool)}{i:Nat}{z:D}(h:i<l.length):(l.map fun x=>dQ x).getD i z=dQ (l.getD i (0,false)):=getD_lt _ _ _ _ _ h
theorem getD_fp {l:List (Int×Tcfg)}{i:Nat}{z:D}(h:i<l.length):(l.map fun x=>dFp x).getD i z=dFp (l.getD i (0,tc0)):=getD_lt _ _ _ _ _ h
@[go_sem] theorem scalars_q {l:List (Int×Bool)}:scalars (l.map fun x=>dQ x)=true:=by induction l with|nil=>rfl|cons x r ih=>simp[scalars,D.cells,D.scalar,ih]
@[go_sem] theorem scalars_p {l:List (Int×Int)}:scalars (l.map fun x=>dP x)=true:=by induction l with|nil=>rfl|cons x r ih=>simp[scalars,D.cells,D.scalar,ih]
end Go.Proofs

set_option maxRecDepth 20000
set_option linter.unusedVariables false
set_option linter.unusedSimpArgs false
namespace Go.Proofs
open Go Go.VL
theorem qmp {α : Type}{l:List α}{i:Nat}{x z : α}(h:i<l.length):(l.set i x).getD i z=x:=by simp[List.getD,h]
end Go.Proofs

set_option linter.unusedVariables false
set_option linter.unusedSimpArgs false
namespace Go.Proofs
open Go Go.VL
inductive Used (c:Circ):Nat→Prop where
 | root {j:Nat}{l:Int}:l∈c.outs++c.next→l/2=c.first+(j:Int)→Used c j
 | op {i j:Nat}{l:Int}:i<c.gates.length→Used c i→(l=(c.gates.getD i (0,0)).1∨l=(c.gates.getD i (0,0)).2)→l/2=c.first+(j:Int)→Used c j
def runG (v:List Bool) (g:List (Int×Int)):List Bool:=g.foldl (fun v p=>v ++ [litV v p.1&&litV v p.2]) v
structure GN (first:Nat) (g:List (Int×Int)):Prop where
 nf : ∀ i,i<g.length→2≤(g.getD i (0,0)).1∧(g.getD i (0,0)).1/2<(g.getD i (0,0)).2/2∧(g.getD i (0,0)).2<2*((first:Int)+(i:Int))
 nd : ∀ i j,i<g.length→j<g.length→g.getD i (0,0)=g.getD j (0,0)→i=j
theorem GN.nil {first:Nat}:GN first []:=⟨fun i h=>by simp at h,fun i j h=>by simp at h⟩
theorem qfr {α : Type}{l:List α}{x z : α}:(l ++ [x]).getD l.length z=x:=by simp[List.getD]
theorem GN.push {first:Nat}{g:List (Int×Int)}(h:GN first g) {p:Int×Int}(h1:2≤p.1) (h2:p.1/2<p.2/2) (h3:p.2<2*((first:Int)+(g.length:Int))) (h4:p∉g):GN first (g ++ [p]):=by
 refine⟨fun i hi=>?_,fun i j hi hj e=>?_⟩
 ·rw[List.length_append,List.length_singleton] at hi
  by_cases e:i=g.length
  ·subst e;rw[qfr];exact⟨h1,h2,h3⟩
  ·rw[qa4 (by omega)];exact h.nf i (by omega)
 ·rw[List.length_append,List.length_singleton] at hi hj
  by_cases ei:i=g.length
  ·by_cases ej:j=g.length
   ·omega
   ·subst ei
    rw[qfr,qa4 (by omega)] at e
    exact absurd (by rw[e];exact qat (by omega)) h4
  ·by_cases ej:j=g.length
   ·subst ej
    rw[qfr,qa4 (by omega)] at e
    exact absurd (by rw[←e];exact qat (by omega)) h4
   ·rw[qa4 (by omega),qa4 (by omega)] at e
    exact h.nd i j (by omega) (by omega) e
end Go.Proofs

set_option linter.unusedVariables false
set_option linter.unusedSimpArgs false
namespace Go.Proofs
open Go Go.VL
theorem qbA {c:Circ}(hv:c.Valid):c.first=(cFst c:Int):=by have:=hv.i0;unfold Circ.first cFst;omega
def good (c:Circ) (u:List Bool) (v:Nat):Prop:=v<cFst c∨u.getD (v-cFst c) false=true
def Closed (c:Circ) (u:List Bool):Prop:=∀ i,i<c.gates.length→u.getD i false=true→good c u ((c.gates.getD i (0,0)).1/2).toNat∧good c u ((c.gates.getD i (0,0)).2/2).toNat
structure Bsem (c:Circ) (u:List Bool) (share:Bool) (v0:List Bool) (i:Nat) (s:BdS):Prop where
 pre : ∀ v,v<cFst c→s.m.getD v 0=2*(v:Int)
 gn:share=true→GN (cFst c) s.gates
 val : ∀ v,v<cFst c+i→good c u v→litV (runG v0 s.gates) (s.m.getD v 0)=(runG v0 (c.gates.take i)).getD v false
theorem qaD {c:Circ}{i:Nat}(h:i<c.gates.length):c.gates.take (i+1)=c.gates.take i ++ [c.gates.getD i (0,0)]:=by
 rw[List.take_succ_eq_append_getElem (by omega)]
 simp[List.getD,h]
section sem
variable {c:Circ}{st ins:List Bool}
end sem
structure Bpr (c:Circ) (u:List Bool) (i:Nat) (s:BdS):Prop where
 pre : ∀ v,v<cFst c→s.m.getD v 0=2*(v:Int)
 up : ∀ j,j<i→u.getD j false=true→∃ k,k<s.gates.length∧s.m.getD (cFst c+j) 0=2*((cFst c:Int)+(k:Int))∧s.gates.getD k (0,0)=(lmap s.m ((c.gates.getD j (0,0)).1),lmap s.m ((c.gates.getD j (0,0)).2))
 dn : ∀ k,k<s.gates.length→∃ j,j<i∧u.getD j false=true∧s.m.getD (cFst c+j) 0=2*((cFst c:Int)+(k:Int))
 mono : ∀ a b,a<b→b<cFst c+i→good c u a→good c u b→s.m.getD a 0<s.m.getD b 0
section prune
variable {c:Circ}
end prune
end Go.Proofs

set_option maxRecDepth 20000
set_option linter.unusedVariables false
set_option linter.unusedSimpArgs false
namespace Go.Proofs
open Go Go.VL
def qfY (c:Circ) (u:List Bool) (i:Nat):List Bool:=
 if u.getD (cFst c+i) false=true then(u.set ((c.gates.getD i (0,0)).1/2).toNat true).set ((c.gates.getD i (0,0)).2/2).toNat true else u
def rcM (l:List Int) (u:List Bool):Nat→List Bool
 | 0=>u
 | k+1=>(rcM l u k).set ((l.getD k 0)/2).toNat true
def rcN (c:Circ):Nat→List Bool
 | 0=>rcM c.roots (List.replicate (cFst c+c.gates.length) false) c.roots.length
 | k+1=>qfY c (rcN c k) (c.gates.length-1-k)
theorem qhH {l:List Int}{u:List Bool} : ∀ k,(rcM l u k).length=u.length
 | 0=>rfl
 | k+1=>by rw[rcM,List.length_set,qhH k]
theorem qiQ {c:Circ}{u:List Bool}{i:Nat}:(qfY c u i).length=u.length:=by unfold qfY;split <;> simp
theorem qgu {c:Circ} : ∀ k,(rcN c k).length=cFst c+c.gates.length
 | 0=>by rw[rcN,qhH,List.length_replicate]
 | k+1=>by rw[rcN,qiQ,qgu k]
set_option maxHeartbeats 4000000 in
theorem Try.c_reached (c:Circ) (hv:c.Valid):Pure Try.prog 32 [pC c] (dBs (rcN c c.gates.length)):=by
 refine qau (E:=Try.env 0) Try.tok rfl 1000 Try.func32 rfl rfl Try.ntmps32 (by simp) fun ok=>?_
 simp only[go_sem,seval] at ok
 have hfb:=hv.first_bd
 have hvb:=hv.vars_bd
 have hln:=hv.ln;have hlg:=hv.lg;have hlo:=hv.lo;have hi0:=hv.i0;have hi1:=hv.i1
 have hcf:=qbA hv
 have hva:c.vars=c.first+c.gates.length:=rfl
 have hvn:c.vars.toNat=cFst c+c.gates.length:=by omega
 simp only[go_sem,seval,Try.results32]
 repeat' first|assumption|(simp (disch:=first|assumption|omega|(simp;done)|(simp;omega)) only[];try simp only[go_sem,seval,Try.results32])|(with_reducible first|apply And.intro|intro _)|(refine qad (Try.c_vars c (by omega)) ?_;simp only[go_sem,seval,Try.results32])|(refine qad (Try.c_roots c (by omega)) ?_;simp only[go_sem,seval,Try.results32])|(refine qai ?_;simp only[go_sem,seval,Try.results32])|exact lexT|((try rw[qaa]);omega)
 rw[hvn]
 have hrl : ∀ i,i<c.roots.length→qbc (c.roots.getD i 0) c.vars:=fun i hi=>by
  have:=qat (l:=c.roots) (i:=i) (z:=0) hi
  unfold Circ.roots at this
  rcases List.mem_append.1 this with h|h
  ·first|exact hv.o _ h|exact hv.n _ h
  ·first|exact hv.n _ h|exact hv.o _ h
 have hll:c.roots.length≤100:=by unfold Circ.roots;simp;omega
 have hq:rcN c 0=rcM c.roots (List.replicate (cFst c+c.gates.length) false) c.roots.length:=rfl
 generalize c.roots=rs at *
 refine qbb (E:=Try.env 0) Try.tok (σ:=Nat) (fun i=>[(0,.d (pC c)),(3,.sl 0 0 1 0 (cFst c+c.gates.length)),(11,.d (dIs rs)),(12,.d (dI rs.length)),(13,.d (dI i))])
  (fun i=>[.row 0 1 true ((rcM rs (List.replicate (cFst c+c.gates.length) false) i).map D.bool)]) (fun i=>i≤rs.length) (fun i=>rs.length-i) [] 1000 1000 ?_ ?_ ?_
 ·simp only[go_sem,seval]
 ·simp only[go_sem,seval]
  exact⟨0,by omega,rfl,rfl⟩
 ·intro i hi
  have hml:(rcM rs (List.replicate (cFst c+c.gates.length) false) i).length=cFst c+c.gates.length:=by rw[qhH];simp
  have hs:rcM rs (List.replicate (cFst c+c.gates.length) false) (i+1)=(rcM rs (List.replicate (cFst c+c.gates.length) false) i).set ((rs.getD i 0)/2).toNat true:=rfl
  have hr:=hrl i
  unfold qbc at hr
  by_cases hlt:i<rs.length
  ·have hr:=hr hlt
   simp only[go_sem,seval,Try.results32]
   repeat' first|assumption|(simp (disch:=first|assumption|omega|(simp;done)|(simp;omega)) only[];try simp only[go_sem,seval,Try.results32])|(with_reducible first|apply And.intro|intro _)|(refine qai ?_;simp only[go_sem,seval,Try.results32])|exact lexT|((try rw[qaa]);omega)
   exact⟨i+1,by omega,by omega,rfl,hs.symm⟩
  ·obtain rfl:i=rs.length:=by omega
   simp only[go_sem,seval,Try.results32]
   repeat' first|assumption|(simp (disch:=first|assumption|omega|(simp;done)|(simp;omega)) only[];try simp only[go_sem,seval,Try.results32])|(with_reducible first|apply And.intro|intro _)|(refine qai ?_;simp only[go_sem,seval,Try.results32])|exact lexT|((try rw[qaa]);omega)
   rw[←hq]
   refine qbb (E:=Try.env 0) Try.tok (σ:=Nat) (fun k=>[(0,.d (pC c)),(3,.sl 0 0 1 0 (cFst c+c.gates.length)),(6,.d (dI ((c.gates.length:Int)-1-(k:Int))))])
    (fun k=>[.row 0 1 true ((rcN c k).map D.bool)]) (fun k=>k≤c.gates.length) (fun k=>c.gates.length-k) [] 1000 1000 ?_ ?_ ?_
   ·simp only[go_sem,seval]
   ·simp only[go_sem,seval]
    exact⟨0,by omega,by simp,rfl⟩
   ·intro k hk
    have hul:=qgu (c:=c) k
    have hfg:=Try.c_firstGate c (by omega)
    by_cases hlt:k<c.gates.length
    ·have hg:=hv.g (c.gates.length-1-k) (by omega)
     unfold qbc at hg
     have hki:((c.gates.length:Int)-1-(k:Int)).toNat=c.gates.length-1-k:=by omega
     have hs2:rcN c (k+1)=qfY c (rcN c k) (c.gates.length-1-k):=rfl
     have hfi:(c.first+((c.gates.length:Int)-1-(k:Int))).toNat=cFst c+(c.gates.length-1-k):=by omega
     simp only[go_sem,seval,Try.results32,hki]
     repeat' first|assumption|(simp (disch:=first|assumption|omega|(simp;done)|(simp;omega)) only[];try simp only[go_sem,seval,Try.results32,hki,hfi])|(with_reducible first|apply And.intro|intro _)|(refine qad hfg ?_;simp only[go_sem,seval,Try.results32,hki,hfi])|(refine qai ?_;simp only[go_sem,seval,Try.results32,hki,hfi])|exact lexT|((try rw[qaa]);omega)
     ·rename_i h1
      exact⟨k+1,by omega,by omega,by omega,by rw[hs2,qfY,if_pos h1]⟩
     ·rename_i h1
      exact⟨k+1,by omega,by omega,by omega,by rw[hs2,qfY,if_neg (by rw[h1];decide)]⟩
    ·obtain rfl:k=c.gates.length:=by omega
     simp only[go_sem,seval,Try.results32]
     repeat' first|assumption|(simp (disch:=first|assumption|omega|(simp;done)|(simp;omega)) only[];try simp only[go_sem,seval,Try.results32])|(with_reducible first|apply And.intro|intro _)|(refine qai ?_;simp only[go_sem,seval,Try.results32])|exact lexT|((try rw[qaa]);omega)
theorem Try.c_ownLits (c:Circ) (hv:c.Valid):Pure Try.prog 33 [pC c] (dIs ((List.range (cFst c)).map fun(v:Nat)=>2*(v:Int))):=by
 refine qau (E:=Try.env 0) Try.tok rfl 1000 Try.func33 rfl rfl Try.ntmps33 (by simp) fun ok=>?_
 simp only[go_sem,seval] at ok
 have hfb:=hv.first_bd
 have hi0:=hv.i0;have hi1:=hv.i1
 have hcf:=qbA hv
 have hfg:=Try.c_firstGate c (by omega)
 simp only[go_sem,seval,Try.results33]
 repeat' first|assumption|(simp (disch:=first|assumption|omega|(simp;done)|(simp;omega)) only[];try simp only[go_sem,seval,Try.results33])|(with_reducible first|apply And.intro|intro _)|(refine qad hfg ?_;simp only[go_sem,seval,Try.results33])|(refine qai ?_;simp only[go_sem,seval,Try.results33])|exact lexT|((try rw[qaa]);omega)
 refine qbb (E:=Try.env 0) Try.tok (σ:=Nat) (fun i=>[(0,.d (pC c)),(3,.sl 0 i 1 0 i),(6,.d (dI c.first)),(7,.d (dI i))])
  (fun i=>[.row i 1 true (((List.range i).map fun(v:Nat)=>2*(v:Int)).map (D.int .i64))]) (fun i=>i≤cFst c) (fun i=>cFst c-i) [(3,1,true)] 1000 1000 ?_ ?_ ?_
 ·simp only[go_sem,seval]
 ·simp only[go_sem,seval]
  exact⟨0,by omega,by simp⟩
 ·intro i hi
  have hl:((List.range i).map fun(v:Nat)=>2*(v:Int)).length=i:=by simp
  have hst:((List.range (i+1)).map fun(v:Nat)=>2*(v:Int))=((List.range i).map fun(v:Nat)=>2*(v:Int)) ++ [2*(i:Int)]:=by rw[List.range_succ,List.map_append];rfl
  by_cases hlt:i<cFst c
  ·simp only[go_sem,seval,Try.results33]
   repeat' first|assumption|(simp (disch:=first|assumption|omega|(simp;done)|(simp;omega)) only[];try simp only[go_sem,seval,Try.results33])|(with_reducible first|apply And.intro|intro _)|(refine qai ?_;simp only[go_sem,seval,Try.results33])|exact lexT|((try rw[qaa]);omega)
   ·simp
   ·exact⟨i+1,by omega,by omega,rfl,rfl,hst.symm⟩
  ·obtain rfl:i=cFst c:=by omega
   simp only[go_sem,seval,Try.results33]
   repeat' first|assumption|(simp (disch:=first|assumption|omega|(simp;done)|(simp;omega)) only[];try simp only[go_sem,seval,Try.results33])|(with_reducible first|apply And.intro|intro _)|(refine qai ?_;simp only[go_sem,seval,Try.results33])|exact lexT|((try rw[qaa]);omega)
   simp
end Go.Proofs

set_option maxRecDepth 20000
set_option linter.unusedVariables false
set_option linter.unusedSimpArgs false
namespace Go.Proofs
open Go Go.VL
theorem Try.c_circuit1 (m:List Int) (l:Int) (h:0≤l∧l<2*m.length) (hm : ∀ x∈m,0≤x):Pure Try.prog 38 [dI l,.ptr [dIs m]] (dI (lmap m l)):=by
 have hx:0≤m.getD (l/2).toNat 0:=hm _ (qat (by omega))
 refine qau (E:=Try.env 0) Try.tok rfl 1000 Try.func38 rfl rfl Try.ntmps38 (by simp) fun ok=>?_
 simp only[go_sem,seval] at ok
 simp only[go_sem,seval,Try.results38]
 repeat' first|assumption|(simp (disch:=first|assumption|omega|(simp;done)|(simp;omega)) only[];try simp only[go_sem,seval,Try.results38])|(with_reducible first|apply And.intro|intro _)|(refine qai ?_;simp only[go_sem,seval,Try.results38])|exact lexT|((try rw[qaa]);omega)
 have k:=qfS h.1
 rcases Int.emod_two_eq l with e|e
 ·rw[e] at k
  have k2:l.toNat &&& 1=0:=by omega
  rw[k2,Nat.xor_zero,lmap,if_neg (by omega)]
  omega
 ·rw[e] at k
  have k2:l.toNat &&& 1=1:=by omega
  rw[k2,lmap,if_pos e]
  exact xor1 hx
theorem Try.c_pruned1 (m:List Int) (l:Int) (h:0≤l∧l<2*m.length) (hm : ∀ x∈m,0≤x∧x≤1000000):Pure Try.prog 39 [dI l,.ptr [dIs m]] (dI (2*m.getD (l/2).toNat 0+l%2)):=by
 have hx:=hm _ (qat (l:=m) (i:=(l/2).toNat) (z:=0) (by omega))
 refine qau (E:=Try.env 0) Try.tok rfl 1000 Try.func39 rfl rfl Try.ntmps39 (by simp) fun ok=>?_
 simp only[go_sem,seval] at ok
 simp only[go_sem,seval,Try.results39]
 repeat' first|assumption|(simp (disch:=first|assumption|omega|(simp;done)|(simp;omega)) only[];try simp only[go_sem,seval,Try.results39])|(with_reducible first|apply And.intro|intro _)|(refine qai ?_;simp only[go_sem,seval,Try.results39])|exact lexT|((try rw[qaa]);omega)
 ·rw[qfS h.1,qaa];omega
 ·rw[qfS h.1]
theorem Try.c_circuitR (g:Nat) (b:Bld) (hb:b.Ok) (c:Circ) (m:List Int) (hl:c.next.length≤1000∧c.outs.length≤1000) (hm : ∀ x∈m,0≤x) (hn : ∀ l∈c.next,0≤l∧l<2*m.length) (ho : ∀ l∈c.outs,0≤l∧l<2*m.length) :
  Proc Try.prog 34 [.ptr 0 0,.d (pC c),.sl 4 g 1 0 m.length] (bH b ++ [.row g 1 true (m.map (D.int .i64))]) (.agg [.d (dI c.inputs),.d (dIs (c.next.map (lmap m))),.sl 1 b.gates.length 2 0 b.gates.length,.d (dIs (c.outs.map (lmap m)))]) (bH b ++ [.row g 1 true (m.map (D.int .i64))]):=by
 refine qhA (E:=Try.env 5) Try.tok rfl 1000 Try.func34 rfl rfl Try.ntmps34 (by simp) ?_
 have hr:=Try.c_replaced ⟨c.inputs,c.next,[],c.outs⟩ 38 [.ptr [dIs m]] (lmap m) rfl ⟨by simp;omega,by simp,by simp;omega⟩
  (fun l hl=>Try.c_circuit1 m l (hn l hl) hm) (fun l hl=>Try.c_circuit1 m l (ho l hl) hm) (fun p hp=>by cases hp)
 have hr2:=hr.args (ds':=[.ptr [dI c.inputs,dIs c.next,.nil,dIs c.outs],.fn 38 [.ptr [dIs m]]])
  ⟨.ptr rfl (qgq (l:=[dI c.inputs,dIs c.next,.nil,dIs c.outs]) (l':=[dI c.inputs,dIs c.next,dPs [],dIs c.outs]) ⟨.refl _,.refl _,.nil (by omega),.refl _,trivial⟩).2,.refl _,trivial⟩
 simp only[bH]
 simp only[go_sem,seval,Try.results34]
 repeat' first|assumption|(simp (disch:=first|assumption|omega|(simp;done)|(simp;omega)) only[];try simp only[go_sem,seval,Try.results34])|(with_reducible first|apply And.intro|intro _)|(refine qai ?_;simp only[go_sem,seval,Try.results34])|exact lexT|((try rw[qaa]);omega)
 refine qax (E:=Try.env 5) Try.tok Try.follows 1000 1000 [17] (fsts [0,1,2,4,5,6,8,9,10,14,3,7,11,12] (.two 13 (.two 15 (.one 16 (.one 17 .done)) 16 (.one 15 (.one 17 .done))) 16 (.one 13 (.one 15 (.one 17 .done))))) (by kernel_rfl) ?_
 simp only[go_sem,seval,Try.results34]
 repeat' first|assumption|(simp (disch:=first|assumption|omega|(simp;done)|(simp;omega)) only[];try simp only[go_sem,seval,Try.results34])|(with_reducible first|apply And.intro|intro _)|(refine qad hr2 ?_;simp only[go_sem,seval,Try.results34])|(refine qai ?_;simp only[go_sem,seval,Try.results34])|exact lexT|((try rw[qaa]);omega)
 all_goals rfl
end Go.Proofs
