/- Contracts, plain definitions and lemmas. Conditions: none; lemmas. -/
import Derived.Test.YteikeianenfhaaaGreatD3
import Derived.Test.YteikeianenfhaaaGreatC72
set_option maxRecDepth 20000
set_option linter.unusedVariables false
set_option linter.unusedSimpArgs false
set_option maxHeartbeats 2000000
namespace Go.Proofs
set_option linter.defProp false
open Go Go.VL Tryz
def KN {x:bR}(h:x.inputs.Nodup) (net:Int) (i:Nat):pJ x net i=if net∈x.inputs then [(i:Int)] else []:=by
 unfold pJ;have key : ∀ l:List Int,l.Nodup->(l.filter fun z=>decide (z=net)).length=if net∈l then 1 else 0:=by
  intro l;induction l with
  | nil=>exact fun _=>rfl
  | cons z l ih=>
   intro h;rw[List.nodup_cons] at h;have:=ih h.2;by_cases e:z=net
   ·subst e;rw[if_neg h.1] at this;simp only[List.filter_cons,decide_true,if_true,cU,this,jP,true_or]
   ·rw[List.filter_cons,if_neg (by simpa using e),this];have:net∈z::l↔net∈l:=by simp[Ne.symm e]
    simp only[this]
 have hk:=key _ h;generalize hl:(x.inputs.filter fun z=>decide (z=net))=l at *
 split
 ·rename_i hm;rw[if_pos hm] at hk;obtain⟨z,rfl⟩:=List.length_eq_one_iff.1 hk;rfl
 ·rename_i hm;rw[if_neg hm] at hk;rw[List.length_eq_zero_iff.1 hk];rfl
def BD {cells:List bR}(h : ∀ x∈cells,x.inputs.Nodup) (net:Int) : ∀ i,i<=cells.length->(eA cells net i).length<=i
 | 0,_=>by simp[eA]
 | i+1,hi=>by
  have ih:=BD h net i (by omega);rw[eA,KN (h _ (aP (by omega):cells.getD i bI∈cells)),cr];split <;> simp <;> omega
abbrev rV (n:mo):D:=.agg [dI n.net,dI n.cell,dI n.tile,ai n.sinks,ai n.pads]
abbrev lG (l:List mo):D:=.lst 5 (l.map fun x=>rV x)
def fw {l:List mo}{i:Nat}{z:D}(h:i<l.length):(l.map fun x=>rV x).getD i z=rV (l.getD i lQ):=ck _ _ _ _ _ h
def Tryz.oq (o:Int) (h:0<=o/\o<=100):Pure prog 148 [dI o] (dI (o*5+4)):=by
 refine bw func148 rfl ntmps148 fun ok=>?_
 simp only[go_sem,seval] at ok
 repeat' first|assumption|simp (disch:=first|assumption|omega|simp;try omega) only[go_sem,seval,ag,aW]|(with_reducible first|apply aa|intro)|(try rw[ae]);omega
def Tryz.mU (c:ac) (hc:c.Valid) (net:Int):Pure prog 186 [dC c,dI net] (ai (mH (ax c) net)):=by
 have hce:=gB c hc;have hcl:=qf hc;have hin:=ut hc;refine bw func186 rfl ntmps186 fun ok=>?_
 simp only[go_sem,seval] at ok
 repeat' first|assumption|simp (disch:=first|assumption|omega|simp;try omega) only[go_sem,seval,ag,aW]|(with_reducible first|apply aa|intro)|(refine kA hce ?_)|(try rw[ae]);omega
 have hsd:mH (ax c) net=eA (ax c) net (ax c).length:=rfl;rw[hsd];generalize ax c=cells at *
 refine bt (E:=env 0) tok (σ:=Nat) (fun i=>[(1,.d (dI net)),(5,.sl 1 (eA cells net i).length 1 0 (eA cells net i).length),(9,.d (cd cells)),(10,.d (dI cells.length)),(11,.d (dI i))]) (fun i=>[.dead 0,.row (eA cells net i).length 1 true ((eA cells net i).map (D.int .i64))]) (fun i=>i<=cells.length) (fun i=>cells.length-i) [] [(5,1,true)] 1000 1000 ?_ ?_
 ·simp only[go_sem,seval];exact⟨0,by omega,by simp[eA]⟩
 ·intro i hi;by_cases hlt:i<cells.length
  ·have hx:=hin _ (aP hlt:cells.getD i bI∈cells);have hsn:eA cells net (i+1)=eA cells net i++pJ (cells.getD i bI) net i:=rfl;rw[KN hx.2.1] at hsn;have hql:=BD (fun x hx=>(hin x hx).2.1) net i (by omega);have hct:=lA (cells.getD i bI).inputs net (by omega);generalize hx9:cells.getD i bI=x at *
   generalize eA cells net i=q at *
   repeat' first|assumption|simp (disch:=first|assumption|omega|simp;try omega) only[go_sem,seval,hx9,ag,aW]|(with_reducible first|apply aa|intro)|(refine aA hct ?_)|(try rw[ae]);omega
   ·rename_i h1;rw[if_pos h1] at hsn;refine⟨i+1,by omega,by omega,⟨?_,rfl⟩,?_,?_⟩ <;> rw[hsn] <;> simp
   ·rename_i h1;rw[if_neg h1,jN] at hsn;refine⟨i+1,by omega,by omega,⟨?_,rfl⟩,?_,?_⟩ <;> rw[hsn]
  ·obtain rfl:i=cells.length:=by omega
   repeat' first|assumption|simp (disch:=first|assumption|omega|simp;try omega) only[go_sem,seval,ag,aW]|(with_reducible first|apply aa|intro)|(try rw[ae]);omega
def Tryz.nO (n:mo) (place:List Int) (hs : ∀ i∈n.sinks,0<=i/\i<place.length) (hk:n.cell<place.length) (hl:n.sinks.length<=1000) (hl2:n.pads.length<=1000) (hp:place.length<=1000):Pure prog 187 [rV n,ai place] (ai (gE n place)):=by
 refine bw func187 rfl ntmps187 fun ok=>?_
 simp only[go_sem,seval] at ok⊢;have hT:gE n place=kg n place::(n.sinks.map (gK place)++n.pads):=rfl;rw[hT]
 repeat' first|assumption|simp (disch:=first|assumption|omega|simp;try omega) only[go_sem,seval,ag,aW]|(with_reducible first|apply aa|intro)|(try rw[ae]);omega
 ·rename_i h9;rw[show kg n place=place.getD n.cell.toNat 0 from if_pos h9];generalize place.getD n.cell.toNat 0=s at *
  refine bt (E:=env 0) tok (σ:=Nat) (fun i=>[(1,.d (ai place)),(2,.ptr 0 0),(5,.sl 1 i 1 0 (i+1)),(22,.d (ai n.sinks)),(23,.d (dI n.sinks.length)),(24,.d (dI i))]) (fun i=>[.box [.d (dI n.net),.d (dI n.cell),.d (dI n.tile),.d (ai n.sinks),.d (ai n.pads)],.row i 1 true ((s::(n.sinks.take i).map (gK place)).map (D.int .i64))]) (fun i=>i<=n.sinks.length) (fun i=>n.sinks.length-i) [] [] 1000 1000 ?_ ?_
  ·simp only[go_sem,seval];exact⟨0,by omega,by simp⟩
  ·intro i hi;by_cases hlt:i<n.sinks.length
   ·have hts:(n.sinks.take (i+1)).map (gK place)=(n.sinks.take i).map (gK place) ++ [gK place (n.sinks.getD i 0)]:=mz 0 hlt;have hb:=hs _ (aP hlt:n.sinks.getD i 0∈n.sinks);have hql:(s::(n.sinks.take i).map (gK place)).length=i+1:=by simp;omega
    have htd:gK place (n.sinks.getD i 0)=place.getD (n.sinks.getD i 0).toNat 0:=rfl;generalize hx9:n.sinks.getD i 0=x at *
    have hq2:s::(n.sinks.take (i+1)).map (gK place)=(s::(n.sinks.take i).map (gK place)) ++ [place.getD x.toNat 0]:=by rw[hts,htd];rfl
    generalize (s::(n.sinks.take i).map (gK place))=q at *
    repeat' first|assumption|simp (disch:=first|assumption|omega|simp;try omega) only[go_sem,seval,hx9,hql,ag,aW]|(with_reducible first|apply aa|intro)|(try rw[ae]);omega
    refine⟨i+1,by omega,by omega,rfl,rfl,?_⟩;rw[<-hq2];rfl
   ·obtain rfl:i=n.sinks.length:=by omega
    rw[iA]
    repeat' first|assumption|simp (disch:=first|assumption|omega|simp;try omega) only[go_sem,seval,ag,aW]|(with_reducible first|apply aa|intro)|(try rw[ae]);omega
 ·rename_i h9;rw[show kg n place=n.tile from if_neg h9];generalize n.tile=s at *
  refine bt (E:=env 0) tok (σ:=Nat) (fun i=>[(1,.d (ai place)),(2,.ptr 0 0),(5,.sl 1 i 1 0 (i+1)),(22,.d (ai n.sinks)),(23,.d (dI n.sinks.length)),(24,.d (dI i))]) (fun i=>[.box [.d (dI n.net),.d (dI n.cell),.d (dI s),.d (ai n.sinks),.d (ai n.pads)],.row i 1 true ((s::(n.sinks.take i).map (gK place)).map (D.int .i64))]) (fun i=>i<=n.sinks.length) (fun i=>n.sinks.length-i) [] [] 1000 1000 ?_ ?_
  ·simp only[go_sem,seval];exact⟨0,by omega,by simp⟩
  ·intro i hi;by_cases hlt:i<n.sinks.length
   ·have hts:(n.sinks.take (i+1)).map (gK place)=(n.sinks.take i).map (gK place) ++ [gK place (n.sinks.getD i 0)]:=mz 0 hlt;have hb:=hs _ (aP hlt:n.sinks.getD i 0∈n.sinks);have hql:(s::(n.sinks.take i).map (gK place)).length=i+1:=by simp;omega
    have htd:gK place (n.sinks.getD i 0)=place.getD (n.sinks.getD i 0).toNat 0:=rfl;generalize hx9:n.sinks.getD i 0=x at *
    have hq2:s::(n.sinks.take (i+1)).map (gK place)=(s::(n.sinks.take i).map (gK place)) ++ [place.getD x.toNat 0]:=by rw[hts,htd];rfl
    generalize (s::(n.sinks.take i).map (gK place))=q at *
    repeat' first|assumption|simp (disch:=first|assumption|omega|simp;try omega) only[go_sem,seval,hx9,hql,ag,aW]|(with_reducible first|apply aa|intro)|(try rw[ae]);omega
    refine⟨i+1,by omega,by omega,rfl,rfl,?_⟩;rw[<-hq2];rfl
   ·obtain rfl:i=n.sinks.length:=by omega
    rw[iA]
    repeat' first|assumption|simp (disch:=first|assumption|omega|simp;try omega) only[go_sem,seval,ag,aW]|(with_reducible first|apply aa|intro)|(try rw[ae]);omega
end Go.Proofs

set_option linter.unusedVariables false
set_option linter.unusedSimpArgs false
namespace Go.VL
set_option linter.defProp false
def Nr {ab:List (Int×Int)}(hn:(a9 ab).Nodup) {i j:Nat}(hi:i<ab.length) (hj:j<ab.length) (h:(ab.getD i (0,0)).1=(ab.getD j (0,0)).1):i=j:=by
 refine z9.1 hn i j (by simp[a9];omega) (by simp[a9];omega) ?_;have e : ∀ k,k<ab.length->(a9 ab).getD k 0=(ab.getD k (0,0)).1:=fun k hk=>by simp[a9,List.getD,hk]
 rw[e i hi,e j hj,h]
def DR {c:ac}{cells:List bR}{place:List Int} : ∀ k:Nat,(o9 c cells place k).Nodup/\(∀ n∈o9 c cells place k,1<=n/\n<=k)/\(o9 c cells place k).length<=k
 | 0=>by simp[o9]
 | k+1=>by
  obtain⟨h1,h2,h3⟩:=DR (c:=c) (cells:=cells) (place:=place) k;rw[Ez];split
  ·rw[jN];exact⟨h1,fun n hn=>by have:=h2 n hn;omega,by omega⟩
  ·refine⟨?_,fun n hn=>?_,by simp;omega⟩
   ·rw[uf];refine⟨h1,by simp,fun a ha b hb e=>?_⟩;obtain rfl:b=(k:Int)+1:=by simpa using hb
    have:=h2 a ha;omega
   ·rcases List.mem_append.1 hn with h|h
    ·have:=h2 n h;omega
    ·obtain rfl:n=(k:Int)+1:=by simpa using h
     omega
structure uO (routes:List Rt):Prop where
 nd:(routes.map (·.net)).Nodup
 net : ∀ r∈routes,1<=r.net
 tree : ∀ r∈routes,∃ busy,bL busy r.ab
 len:routes.length<=100
def uO.ab {routes:List Rt}(h:uO routes) : ∀ r∈routes,r.ab.length<=25:=fun r hr=>by
 obtain⟨b,hb⟩:=h.tree r hr;exact ru hb
end Go.VL

set_option maxRecDepth 20000
set_option linter.unusedVariables false
set_option linter.unusedSimpArgs false
namespace Go.Proofs
set_option linter.defProp false
open Go Go.VL
def Ox {c:ac}(hc:c.Valid) : ∀ x∈ax c,x.inputs.length<=3:=by
 intro x hx;rcases List.mem_append.1 hx with h|h
 ·obtain⟨i,hi,rfl⟩:=List.mem_map.1 h;unfold iU;split <;> simp
 ·obtain⟨l,hl,rfl⟩:=List.mem_map.1 h;obtain⟨m,hm,rfl⟩:=(ro hc).each l hl;exact(p6 hc hm).2.1
def Tryz.qj (c:ac) (hc:c.Valid) (cells:List bR) (hcl:cells.length<=25) (hci : ∀ x∈cells,x.inputs.length<=3) (place:List Int) (hp:ay cells.length place) :
  Pure prog 138 [dC c,cd cells,ai place] (dI (iY c cells place)):=by
 have hf:=hc.am;have hv:=hc.aM;have hi0:=hc.i0;have hi1:=hc.i1;have hvv:c.vars=c.first+(c.gates.length:Int):=rfl
 have hfst:=ba c (by omega);have k3:dR (dI c.first):=by show cp .i64 _;rw[ae];omega
 have hcb:=F9 hc hp;have hpb:=fun net=>yI hc hp (net:=net)
 refine bw func138 rfl ntmps138 fun ok=>?_
 simp only[go_sem,seval] at ok
 repeat' first|assumption|simp (disch:=first|assumption|omega|simp;try omega) only[go_sem,seval,ag]|(with_reducible first|apply aa|intro)|exact ah|(try rw[ae]);omega
 refine ce (E:=env 0) tok (σ:=Nat) (fun k=>[(0,.d (dC c)),(1,.d (cd cells)),(2,.d (ai place)),(3,.ptr 0 0),(7,.d (dI (oO c cells place k))),(8,.d (dI ((k:Int)+1)))]) (fun _=>[.box [.d (dI c.inputs),.d (ai c.next),.d (aO c.gates),.d (ai c.outs)]]) (fun k=>(k:Int)<=c.vars-1) (fun k=>c.vars.toNat-k) [] 1000 1000 ?_ ?_ ?_
 ·simp only[go_sem,seval]
 ·simp only[go_sem,seval];exact⟨0,by omega,rfl,rfl⟩
 ·intro k hk;have hck:=hcb k;have ek:(k:Int)+1=((k+1:Nat):Int):=by omega
  have hcs:oO c cells place (k+1)=oO c cells place k+kZ (i8 c cells place ((k+1:Nat):Int)):=by rw[<-ek];rfl
  have hdb:=CA (hpb ((k+1:Nat):Int));by_cases hlt:(k:Int)<c.vars-1
  ·have h1:=lP c hc cells hcl hci place hp ((k+1:Nat):Int) (by omega);have h2:=qK _ (hpb ((k+1:Nat):Int))
   repeat' first|assumption|simp (disch:=first|assumption|omega|simp;try omega) only[go_sem,seval,ag]|(with_reducible first|apply aa|intro)|(refine nP (fun _=>⟨hfst,k3⟩) ?_)|(refine aA h1 ?_)|(refine aA h2 ?_)|exact ah|(try rw[ae]);omega
   exact⟨k+1,by omega,by omega,hcs.symm,rfl⟩
  ·repeat' first|assumption|simp (disch:=first|assumption|omega|simp;try omega) only[go_sem,seval,ag]|(with_reducible first|apply aa|intro)|(refine nP (fun _=>⟨hfst,k3⟩) ?_)|exact ah|(try rw[ae]);omega
   rw[iY,show k=c.vars.toNat-1 by omega]
def Tryz.sG (place:List Int) (i:Nat) (tile:Int) (hi:i<place.length) (hl:place.length<=25):Pure prog 139 [ai place,dI i,dI tile] (ai (dL place i tile)):=by
 refine bw func139 rfl ntmps139 fun ok=>?_
 simp only[go_sem,seval] at ok
 repeat' first|assumption|simp (disch:=first|assumption|omega|simp;try omega) only[go_sem,seval,ag]|(with_reducible first|apply aa|intro)|exact ah|(try rw[ae]);omega
 refine ce (E:=env 0) tok (σ:=Nat×List Int) (fun s=>[(0,.d (ai place)),(1,.d (dI i)),(2,.d (dI tile)),(7,.sl 0 1 1 0 place.length),(8,.d (dI s.1))]) (fun s=>[.row 1 1 true (s.2.map (D.int .i64))])
  (fun s=>s.1<=place.length/\s.2.length=place.length/\∀ j,j<place.length->s.2.getD j 0=if j<s.1/\place.getD j 0=tile then place.getD i 0 else place.getD j 0) (fun s=>place.length-s.1) [] 1000 1000 ?_ ?_ ?_
 ·simp only[go_sem,seval]
 ·simp only[go_sem,seval];exact⟨(0,place),⟨by simp,rfl,fun j hj=>by simp⟩,rfl,rfl⟩
 ·rintro⟨k,q⟩ ⟨hk,hql,hq⟩;simp only at hk hql hq;by_cases hkt:k<place.length
  ·have hqk:=hq k hkt;rw[if_neg (by omega)] at hqk
   repeat' first|assumption|simp (disch:=first|assumption|omega|simp;try omega) only[go_sem,seval,ag]|(with_reducible first|apply aa|intro)|exact ah|(try rw[ae]);omega
   ·rename_i h9;rw[hqk] at h9;refine⟨(k+1,q.set k (place.getD i 0)),⟨by simp only;omega,by simp only[fB];exact hql,fun j hj=>?_⟩,by simp only;omega,rfl,rfl⟩;simp only;rw[rg (by omega),hq j hj];by_cases hjk:k=j
    ·subst hjk;rw[if_pos rfl,if_pos ⟨by omega,h9⟩]
    ·rw[if_neg hjk];by_cases h2:j<k/\place.getD j 0=tile
     ·rw[if_pos h2,if_pos ⟨by omega,h2.2⟩]
     ·rw[if_neg h2,if_neg (fun h=>h2 ⟨by omega,h.2⟩)]
   ·rename_i h9;rw[hqk] at h9;refine⟨(k+1,q),⟨by simp only;omega,hql,fun j hj=>?_⟩,by simp only;omega,rfl,rfl⟩;simp only;rw[hq j hj];by_cases h2:j<k/\place.getD j 0=tile
    ·rw[if_pos h2,if_pos ⟨by omega,h2.2⟩]
    ·rw[if_neg h2,if_neg (fun h=>by
      by_cases hjk:j=k
      ·subst hjk;exact h9 h.2
      ·exact h2 ⟨by omega,h.2⟩)]
  ·have e:q.set i tile=dL place i tile:=by
    refine oK 0 (by rw[fB,zQ,hql]) fun j hj=>?_
    rw[fB,hql] at hj;rw[zk hj,rg (by omega),hq j hj];by_cases hji:j=i
    ·rw[if_pos hji.symm,if_pos hji]
    ·rw[if_neg (Ne.symm hji),if_neg hji];by_cases h2:place.getD j 0=tile
     ·rw[if_pos ⟨by omega,h2⟩,if_pos h2]
     ·rw[if_neg (fun h=>h2 h.2),if_neg h2]
   repeat' first|assumption|simp (disch:=first|assumption|omega|simp;try omega) only[go_sem,seval,ag]|(with_reducible first|apply aa|intro)|exact ah|(try rw[ae]);omega
def Tryz.n9 (c:ac) (hc:c.Valid) (cells:List bR) (hcl:cells.length<=25) (hci : ∀ x∈cells,x.inputs.length<=3):bk prog 75 [dC c,cd cells] (ai (j7 c cells)):=by
 refine pu (E:=env 0) tok rfl 1000 func75 rfl rfl ntmps75 (by simp) fun ok=>?_
 simp only[go_sem,seval] at ok
 repeat' first|assumption|simp (disch:=first|assumption|omega|simp;try omega) only[go_sem,seval,ag]|(with_reducible first|apply aa|intro)|exact ah|(try rw[ae]);omega
 refine bt (E:=env 0) tok (σ:=Nat) (fun i=>[(0,.d (dC c)),(1,.d (cd cells)),(2,.ptr 0 0),(5,.sl 1 i 1 0 i),(6,.d (dI i))]) (fun i=>[.box [.d (dI c.inputs),.d (ai c.next),.d (aO c.gates),.d (ai c.outs)],.row i 1 true ((gm i).map (D.int .i64))]) (fun i=>i<=cells.length) (fun i=>cells.length-i) [] [] 1000 1000 ?_ ?_
 ·simp only[go_sem,seval];exact⟨0,by omega,by simp[gm]⟩
 ·intro i hi;have hil:(gm i).length=i:=by simp[gm]
  have his:gm (i+1)=gm i ++ [(i:Int)]:=by rw[gm,kK,iz];rfl
  by_cases hlt:i<cells.length
  ·generalize gm i=q at *
   simp only[go_sem,seval]
   repeat' first|assumption|simp (disch:=first|assumption|omega|simp;try omega) only[go_sem,seval,hil,ag]|(with_reducible first|apply aa|intro)|exact ah|(try rw[ae]);omega
   refine⟨i+1,by omega,by omega,?_⟩;rw[his]
   repeat' apply And.intro
   all_goals rfl
  ·obtain rfl:i=cells.length:=by omega
   have hpo:=CU (n:=cells.length) (by omega);have hcost:=fun p (h:ay cells.length p)=>qj c hc cells hcl hci p h
   have hpd:j7 c cells=((List.range 3).foldl (lk c cells) (gm cells.length,iY c cells (gm cells.length))).1:=rfl;have hsw:=BF (c:=c) (cells:=cells) hcl;generalize gm cells.length=P0 at *
   simp only[go_sem,seval]
   repeat' first|assumption|simp (disch:=first|assumption|omega|simp;try omega) only[go_sem,seval,hil,ag]|(with_reducible first|apply aa|intro)|(refine aA (hcost _ hpo) ?_)|exact ah|(try rw[ae]);omega
   refine bt (E:=env 0) tok (σ:=Nat) (fun s=>[(0,.d (dC c)),(1,.d (cd cells)),(2,.ptr 0 0),(5,.d (ai ((List.range s).foldl (lk c cells) (P0,iY c cells P0)).1)),(7,.d (dI ((List.range s).foldl (lk c cells) (P0,iY c cells P0)).2)),(8,.d (dI s))]) (fun s=>[.box [.d (dI c.inputs),.d (ai c.next),.d (aO c.gates),.d (ai c.outs)]]) (fun s=>s<=3) (fun s=>3-s) [] [] 1000 1000 ?_ ?_
   ·simp only[go_sem,seval];refine⟨0,by omega,?_⟩;simp[hil];exact ag (by omega)
   ·intro s hs;have hS:=hsw s;have hS1:(List.range (s+1)).foldl (lk c cells) (P0,iY c cells P0)=lk c cells ((List.range s).foldl (lk c cells) (P0,iY c cells P0)) s:=tQ;generalize hS9:(List.range s).foldl (lk c cells) (P0,iY c cells P0)=S at *
    have hmid:=AE (c:=c) hS;have hSd:lk c cells S s=(List.range cells.length).foldl (eK c cells) S:=rfl;by_cases hst:s<3
    ·repeat' first|assumption|simp (disch:=first|assumption|omega|simp;try omega) only[go_sem,seval,ag]|(with_reducible first|apply aa|intro)|exact ah|(try rw[ae]);omega
     refine bt (E:=env 0) tok (σ:=Nat) (fun i=>[(0,.d (dC c)),(1,.d (cd cells)),(2,.ptr 0 0),(5,.d (ai ((List.range i).foldl (eK c cells) S).1)),(7,.d (dI ((List.range i).foldl (eK c cells) S).2)),(8,.d (dI s)),(9,.d (dI i))]) (fun i=>[.box [.d (dI c.inputs),.d (ai c.next),.d (aO c.gates),.d (ai c.outs)]]) (fun i=>i<=cells.length) (fun i=>cells.length-i) [] [] 1000 1000 ?_ ?_
     ·simp only[go_sem,seval];exact⟨0,by omega,by simp⟩
     ·intro i hi;have hI:=hmid i hi;have hI1:(List.range (i+1)).foldl (eK c cells) S=eK c cells ((List.range i).foldl (eK c cells) S) i:=tQ;by_cases hit:i<cells.length
      ·generalize (List.range i).foldl (eK c cells) S=M at *
       have hin:=AW (c:=c) hit hI;have hId:eK c cells M i=(List.range 25).foldl (kB c cells i) M:=rfl
       repeat' first|assumption|simp (disch:=first|assumption|omega|simp;try omega) only[go_sem,seval,ag]|(with_reducible first|apply aa|intro)|exact ah|(try rw[ae]);omega
       refine bt (E:=env 0) tok (σ:=Nat) (fun t=>[(0,.d (dC c)),(1,.d (cd cells)),(2,.ptr 0 0),(5,.d (ai ((List.range t).foldl (kB c cells i) M).1)),(7,.d (dI ((List.range t).foldl (kB c cells i) M).2)),(8,.d (dI s)),(9,.d (dI i)),(10,.d (dI t))]) (fun t=>[.box [.d (dI c.inputs),.d (ai c.next),.d (aO c.gates),.d (ai c.outs)]]) (fun t=>t<=25) (fun t=>25-t) [] [] 1000 1000 ?_ ?_
       ·simp only[go_sem,seval];exact⟨0,by omega,by simp⟩
       ·intro t ht;have hT:=hin t ht;have hT1:(List.range (t+1)).foldl (kB c cells i) M=kB c cells i ((List.range t).foldl (kB c cells i) M) t:=tQ;by_cases htt:t<25
        ·generalize (List.range t).foldl (kB c cells i) M=N at *
         obtain⟨p,k⟩:=N;simp only at hT;have hpl:=hT.len;have htr:=sG p i (t:Int) (by omega) (by omega);have hok:=hT.wa hit (tile:=(t:Int)) (by omega);have hco:=hcost _ hok;have hsd:kB c cells i (p,k) t=if iY c cells (dL p i (t:Int))<k then(dL p i (t:Int),iY c cells (dL p i (t:Int))) else(p,k):=rfl
         generalize dL p i (t:Int)=nx at *
         repeat' first|assumption|simp (disch:=first|assumption|omega|simp;try omega) only[go_sem,seval,ag]|(with_reducible first|apply aa|intro)|(refine aA htr ?_)|(refine aA hco ?_)|exact ah|(try rw[ae]);omega
         ·rename_i h9;refine⟨t+1,by omega,by omega,?_⟩;rw[hT1,hsd,if_pos h9];exact⟨rfl,rfl,rfl⟩
         ·rename_i h9;refine⟨t+1,by omega,by omega,?_⟩;rw[hT1,hsd,if_neg h9];exact⟨rfl,rfl,rfl⟩
        ·obtain rfl:t=25:=by omega
         rw[<-hId,<-hI1]
         repeat' first|assumption|simp (disch:=first|assumption|omega|simp;try omega) only[go_sem,seval,ag]|(with_reducible first|apply aa|intro)|exact ah|(try rw[ae]);omega
         refine⟨i+1,by omega,by omega,?_⟩;rw[kK];exact⟨rfl,rfl,rfl⟩
      ·obtain rfl:i=cells.length:=by omega
       rw[<-hSd,<-hS1]
       repeat' first|assumption|simp (disch:=first|assumption|omega|simp;try omega) only[go_sem,seval,ag]|(with_reducible first|apply aa|intro)|exact ah|(try rw[ae]);omega
       refine⟨s+1,by omega,by omega,?_⟩;rw[kK];exact⟨rfl,rfl,rfl⟩
    ·obtain rfl:s=3:=by omega
     repeat' first|assumption|simp (disch:=first|assumption|omega|simp;try omega) only[go_sem,seval,ag]|(with_reducible first|apply aa|intro)|exact ah|(try rw[ae]);omega
     all_goals rw[hpd,<-hS9]
end Go.Proofs

set_option maxRecDepth 20000
set_option linter.unusedVariables false
set_option linter.unusedSimpArgs false
namespace Go.Proofs
set_option linter.defProp false
open Go Go.VL
abbrev wN (x:Rt):D:=.agg [dI x.net,dI x.track,aO x.ab]
abbrev gW (l:List Rt):D:=.lst 3 (l.map fun x=>wN x)
def b8 {l:List Rt}{i:Nat}{z:D}(h:i<l.length):(l.map fun x=>wN x).getD i z=wN (l.getD i eQ):=ck _ _ _ _ _ h
def Tryz.qP (t:Int) (h:0<=t/\t<=24):Pure prog 225 [dI t] (ai (dz t)):=by
 have hr:=aB (y:=5) h.1;refine bw func225 rfl ntmps225 fun ok=>?_
 simp only[go_sem,seval] at ok⊢
 repeat' first|assumption|simp (disch:=first|assumption|omega|simp;try omega) only[go_sem,seval,hr,ag,aB]|(with_reducible first|apply aa|intro)|(try rw[ae]);omega
 all_goals (unfold dz;repeat' split)
 all_goals first|rfl|(exfalso;omega)
def Tryz.wO (ab:List (Int×Int)) (t:Int):Pure prog 224 [aO ab,dI t] (.bool (decide (t∈a9 ab))):=by
 refine bw func224 rfl ntmps224 fun ok=>?_
 simp only[go_sem,seval] at ok
 repeat' first|assumption|simp (disch:=first|assumption|omega|simp;try omega) only[go_sem,seval,ag,aB]|(with_reducible first|apply aa|intro)|(try rw[ae]);omega
 refine ce (E:=env 0) tok (σ:=Nat) (fun i=>[(0,.d (aO ab)),(1,.d (dI t)),(4,.d (dB false)),(5,.d (dI i))]) (fun _=>[]) (fun i=>i<=ab.length/\∀ j,j<i->(ab.getD j (0,0)).1≠t) (fun i=>ab.length-i) [] 1000 1000 ?_ ?_ ?_
 ·simp only[go_sem,seval]
 ·simp only[go_sem,seval];exact⟨0,⟨by omega,by omega⟩,rfl⟩
 ·rintro i ⟨hi,hinv⟩;by_cases hlt:i<ab.length
  ·repeat' first|assumption|simp (disch:=first|assumption|omega|simp;try omega) only[go_sem,seval,ag,aB]|(with_reducible first|apply aa|intro)|(try rw[ae]);omega
   ·rename_i h9;rw[decide_eq_true];exact List.mem_map.2 ⟨_,aP hlt,h9⟩
   ·rename_i h9;refine⟨i+1,⟨by omega,fun j hj=>?_⟩,by omega,rfl⟩;by_cases hji:j=i
    ·subst hji;exact h9
    ·exact hinv j (by omega)
  ·repeat' first|assumption|simp (disch:=first|assumption|omega|simp;try omega) only[go_sem,seval,ag,aB]|(with_reducible first|apply aa|intro)|(try rw[ae]);omega
   simp only[false_eq_decide_iff];intro hm;obtain⟨x,hx,he⟩:=List.mem_map.1 hm;obtain⟨j,hj,rfl⟩:=fO (0,0) hx;exact hinv j (by omega) he
def Tryz.qF (g:Nat) (ab:List (Int×Int)) (sink:Int) (busy:List Bool) (hb:busy.length=25) (ht:bL busy ab) (hs:0<=sink/\sink<=24) :
  aQ prog 216 [.d (aO ab),.d (dI sink),.sl 0 g 1 0 25] [.row g 1 true (busy.map D.bool)] (fun r H'=>r=.d (.tup [aO ((eo busy ab sink).getD ab),dB (eo busy ab sink).isSome])/\H'=[.row g 1 true (busy.map D.bool)]):=by
 have hon:=wO ab sink;refine jp (E:=env 1) tok rfl 1000 func216 rfl rfl ntmps216 (by simp) ?_
 repeat' first|assumption|simp (disch:=first|assumption|omega|simp;try omega) only[go_sem,seval,ag,aB]|(with_reducible first|apply aa|intro)|(refine aA hon ?_)|(try rw[ae]);omega
 ·rename_i h9;rw[eo,if_pos h9];refine rh (by simp) (by simp only[go_sem,seval]) ?_;simp only[go_sem,seval]
 rename_i h9;have hex:eo busy ab sink=if(iJ ab sink busy).1.getD sink.toNat 0 = -2 then none else some (ab++ii (iJ ab sink busy).1 25 sink []):=if_neg h9;have hhl:=ru ht;refine bt (E:=env 1) tok (σ:=Nat) (fun i=>[(0,.d (aO ab)),(1,.d (dI sink)),(2,.sl 0 g 1 0 25),(8,.sl 1 0 1 0 25),(9,.d (dI i))]) (fun i=>[.row g 1 true (busy.map D.bool),.row 0 1 true ((List.replicate i (-2:Int)++List.replicate (25-i) 0).map (D.int .i64))])
  (fun i=>i<=25) (fun i=>25-i) [] [] 1000 1000 ?_ ?_
 ·simp only[go_sem,seval];exact⟨0,by omega,by simp⟩
 ·intro i hi;by_cases hit:i<25
  ·have hst:(List.replicate i (-2:Int)++List.replicate (25-i) 0).set i (-2)=List.replicate (i+1) (-2)++List.replicate (25-(i+1)) 0:=by
    rw[OC (by simp) (by omega),wU,Nat.sub_sub]
   have hql:(List.replicate i (-2:Int)++List.replicate (25-i) 0).length=25:=by simp;omega
   generalize List.replicate i (-2:Int)++List.replicate (25-i) 0=q at *
   simp only[go_sem,seval]
   repeat' first|assumption|simp (disch:=first|assumption|omega|simp;try omega) only[go_sem,seval,hql,ag,aB]|(with_reducible first|apply aa|intro)|(try rw[ae]);omega
   refine⟨i+1,by omega,by omega,rfl,?_⟩;rw[hst]
  ·obtain rfl:i=25:=by omega
   rw[show List.replicate 25 (-2:Int)++List.replicate (25-25) 0=List.replicate 25 (-2) by simp];have hq25:(List.replicate 25 (-2:Int)).length=25:=by simp
   have hf0d:m7 ab=ab.foldl (fun f h=>f.set h.1.toNat (-1)) (List.replicate 25 (-2)):=rfl;generalize List.replicate 25 (-2:Int)=q0 at *
   simp only[go_sem,seval]
   repeat' first|assumption|simp (disch:=first|assumption|omega|simp;try omega) only[go_sem,seval,hq25,ag,aB]|(with_reducible first|apply aa|intro)|(try rw[ae]);omega
   refine bt (E:=env 1) tok (σ:=Nat) (fun i=>[(0,.d (aO ab)),(1,.d (dI sink)),(2,.sl 0 g 1 0 25),(8,.sl 1 0 1 0 25),(10,.sl 2 i 1 0 i),(11,.d (dI i))]) (fun i=>[.row g 1 true (busy.map D.bool),.row 0 1 true (((ab.take i).foldl (fun f h=>f.set h.1.toNat (-1)) q0).map (D.int .i64)),.row i 1 true ((a9 (ab.take i)).map (D.int .i64))])
    (fun i=>i<=ab.length) (fun i=>ab.length-i) [] [] 1000 1000 ?_ ?_
   ·simp only[go_sem,seval];exact⟨0,by omega,by simp[a9]⟩
   ·intro i hi;have hfl:((ab.take i).foldl (fun f h=>f.set h.1.toNat (-1)) q0).length=25:=by
     have key : ∀ (l:List (Int×Int)) (f:List Int),(l.foldl (fun f h=>f.set h.1.toNat (-1)) f).length=f.length:=by
      intro l;induction l with
      | nil=>exact fun f=>rfl
      | cons x l ih=>intro f;rw[eO,ih,fB]
     rw[key,hq25]
    have htl:(a9 (ab.take i)).length=i:=by simp[a9];omega
    by_cases hit:i<ab.length
    ·have hfs:=gI (f:=fun(f:List Int) (h:Int×Int)=>f.set h.1.toNat (-1)) (b:=q0) ((0,0):Int×Int) hit;have hts:a9 (ab.take (i+1))=a9 (ab.take i) ++ [(ab.getD i (0,0)).1]:=mz (0,0) hit;have hr:=ht.rng _ (aP hit:ab.getD i (0,0)∈ab);generalize (ab.take i).foldl (fun f h=>f.set h.1.toNat (-1)) q0=fr at *
     generalize a9 (ab.take i)=tl at *
     simp only[go_sem,seval]
     repeat' first|assumption|simp (disch:=first|assumption|omega|simp;try omega) only[go_sem,seval,hfl,htl,ag,aB]|(with_reducible first|apply aa|intro)|(try rw[ae]);omega
     refine⟨i+1,by omega,by omega,?_⟩;rw[hfs,hts]
     repeat' apply And.intro
     all_goals first|rfl|(simp;done)
    ·have e:ab.take i=ab:=ag (by omega);rw[e,<-hf0d];rw[e] at htl;obtain rfl:i=ab.length:=by omega
     simp only[go_sem,seval]
     repeat' first|assumption|simp (disch:=first|assumption|omega|simp;try omega) only[go_sem,seval,hq25,ag,aB]|(with_reducible first|apply aa|intro)|(try rw[ae]);omega
     have hinv0:=xT (busy:=busy) ht.rng ht.nd;have hbc:iJ ab sink busy=jr busy sink 26 0 (m7 ab,a9 ab):=rfl;have hfin:=HR ht sink;have hl0:=Fl (ab:=ab);refine bt (E:=env 1) tok (σ:=Nat×BS) (fun s=>[(0,.d (aO ab)),(1,.d (dI sink)),(2,.sl 0 g 1 0 25),(8,.sl 1 0 1 0 25),(10,.sl 2 s.2.2.length 1 0 s.2.2.length),(12,.d (dI s.1))]) (fun s=>[.row g 1 true (busy.map D.bool),.row 0 1 true (s.2.1.map (D.int .i64)),.row s.2.2.length 1 true (s.2.2.map (D.int .i64))])
      (fun s=>s.1<=s.2.2.length/\cc busy (a9 ab) s.2/\jr busy sink (26-s.1) s.1 s.2=iJ ab sink busy) (fun s=>26-s.1) [] [] 1000 1000 ?_ ?_
     ·simp only[go_sem,seval];refine⟨(0,(m7 ab,a9 ab)),⟨by simp,hinv0,hbc.symm⟩,?_⟩;simp[htl]
     ·rintro⟨k,⟨fr,qu⟩⟩ ⟨hk,hbi,hbn⟩;simp only at hk hbi hbn;have hql:=hbi.mV;have hfl:=hbi.len;simp only at hql hfl;by_cases hkc:k<qu.length/\fr.getD sink.toNat 0 = -2
      ·have hqm:qu.getD k 0∈qu:=aP hkc.1;have hqr:=hbi.rng _ hqm;have hst:jr busy sink (26-(k+1)) (k+1) (dh busy (fr,qu) (qu.getD k 0))=iJ ab sink busy:=by
        rw[<-hbn,show 26-k=(26-(k+1))+1 by omega,jr,if_pos hkc]
       have hnx:=qP (qu.getD k 0) hqr;have hvis:dh busy (fr,qu) (qu.getD k 0)=(dz (qu.getD k 0)).foldl (gL busy (qu.getD k 0)) (fr,qu):=rfl;have hnb:=xz hqr;have hk1:=hkc.1;have hk2:=hkc.2;have hqg:=hqr;generalize hq9:qu.getD k 0=q at *
       repeat' first|assumption|simp (disch:=first|assumption|omega|simp;try omega) only[go_sem,seval,hq9,hk2,ag,aB]|(with_reducible first|apply aa|intro)|(refine aA hnx ?_)|(try rw[ae]);omega
       have hvi:=hbi.visit hqm;rw[hvis] at hvi;have hsteps : ∀ i,cc busy (a9 ab) (((dz q).take i).foldl (gL busy q) (fr,qu)):=fun i=>hbi.steps _ hqm fun n hn=>jX hn
       have hpre : ∀ i,∃ r,(((dz q).take i).foldl (gL busy q) (fr,qu)).2=qu++r:=by
        intro i;have key : ∀ (l:List Int) (s:BS),∃ r,(l.foldl (gL busy q) s).2=s.2++r:=by
         intro l;induction l with
         | nil=>exact fun s=>⟨[],by simp⟩
         | cons n l ih=>
          intro s;obtain⟨r1,h1⟩:=DS (busy:=busy) (q:=q) (n:=n) (s:=s);obtain⟨r2,h2⟩:=ih (gL busy q s n);exact⟨r1++r2,by rw[eO,h2,h1,fS]⟩
        exact key _ _
       refine bt (E:=env 1) tok (σ:=Nat) (fun i=>[(0,.d (aO ab)),(1,.d (dI sink)),(2,.sl 0 g 1 0 25),(8,.sl 1 0 1 0 25),(10,.sl 2 (((dz q).take i).foldl (gL busy q) (fr,qu)).2.length 1 0 (((dz q).take i).foldl (gL busy q) (fr,qu)).2.length),(12,.d (dI k)),(13,.d (ai (dz q))),(14,.d (dI i))])
        (fun i=>[.row g 1 true (busy.map D.bool),.row 0 1 true ((((dz q).take i).foldl (gL busy q) (fr,qu)).1.map (D.int .i64)),.row (((dz q).take i).foldl (gL busy q) (fr,qu)).2.length 1 true ((((dz q).take i).foldl (gL busy q) (fr,qu)).2.map (D.int .i64))])
        (fun i=>i<=(dz q).length) (fun i=>(dz q).length-i) [] [] 1000 1000 ?_ ?_
       ·simp only[go_sem,seval];exact⟨0,by omega,by simp⟩
       ·intro i hi;have hSi:=hsteps i;obtain⟨r,hr⟩:=hpre i;by_cases hit:i<(dz q).length
        ·have hfs:=gI (f:=gL busy q) (b:=(fr,qu)) (0:Int) hit;have hn:=hnb _ (aP hit:(dz q).getD i 0∈dz q);generalize ((dz q).take i).foldl (gL busy q) (fr,qu)=S at *
         obtain⟨f2,q2⟩:=S;have hq2l:=hSi.mV;have hf2l:=hSi.len;simp only at hr hq2l hf2l;have hk3:k<q2.length:=by rw[hr];simp;omega
         have hqk:q2.getD k 0=q:=by rw[hr,cZ hk1];exact hq9
         have hsd:gL busy q (f2,q2) ((dz q).getD i 0)=if f2.getD ((dz q).getD i 0).toNat 0 = -2/\busy.getD ((dz q).getD i 0).toNat false=false then(f2.set ((dz q).getD i 0).toNat q,q2 ++ [(dz q).getD i 0]) else(f2,q2):=rfl
         generalize hn9:(dz q).getD i 0=n at *
         have hnl:(dz q).length<=4:=by unfold dz;repeat' split <;> simp
         simp only[go_sem,seval,hqk,hn9]
         repeat' first|assumption|simp (disch:=first|assumption|omega|simp;try omega) only[go_sem,seval,hqk,hf2l,hn9,ag,aB]|(with_reducible first|apply aa|intro)|(try rw[ae]);omega
         ·rename_i h7;refine cg (n:=1) [10] (aw [0,1,2,3,5,6,7,4,8,9] (.one 10 .done)) ?_;simp only[go_sem,seval,hqk,hn9]
          repeat' first|assumption|simp (disch:=first|assumption|omega|simp;try omega) only[go_sem,seval,hqk,hf2l,hn9,ag,aB]|(with_reducible first|apply aa|intro)|(try rw[ae]);omega
          have e:((dz q).take (i+1)).foldl (gL busy q) (fr,qu)=(f2.set n.toNat q,q2 ++ [n]):=by rw[hfs,hsd,if_pos (by simpa using h7)]
          refine⟨i+1,by omega,by omega,?_⟩;rw[e]
          repeat' apply And.intro
          all_goals first|rfl|(simp;done)
         ·rename_i h7;have e:((dz q).take (i+1)).foldl (gL busy q) (fr,qu)=(f2,q2):=by rw[hfs,hsd,if_neg (by
           rintro⟨h1,h2⟩;rcases h7 with h7|h7
           ·exact h7 h1
           ·rw[h2] at h7;exact absurd h7 (by simp))]
          refine⟨i+1,by omega,by omega,?_⟩;rw[e];exact⟨⟨rfl,rfl⟩,rfl,rfl,rfl⟩
        ·have e:(dz q).take i=dz q:=ag (by omega);rw[e,<-hvis];rw[e,<-hvis] at hSi hr;have hgl:k+1<=(dh busy (fr,qu) q).2.length:=by rw[hr];simp;omega
         generalize dh busy (fr,qu) q=S at *
         repeat' first|assumption|simp (disch:=first|assumption|omega|simp;try omega) only[go_sem,seval,ag,aB]|(with_reducible first|apply aa|intro)|(try rw[ae]);omega
         exact⟨(k+1,S),⟨hgl,hSi,hst⟩,by simp only;omega,⟨rfl,rfl⟩,rfl,rfl,rfl⟩
      ·have hst:(fr,qu)=iJ ab sink busy:=by
        rw[<-hbn,show 26-k=(25-k)+1 by omega,jr,if_neg hkc]
       rw[<-hst] at hfin hex;have hpd : ¬ fr.getD sink.toNat 0 = -2->eo busy ab sink=some (ab++ii fr 25 sink []):=fun h=>by rw[hex,if_neg h]
       have hpn:fr.getD sink.toNat 0 = -2->eo busy ab sink=none:=fun h=>by rw[hex,if_pos h]
       repeat' first|assumption|simp (disch:=first|assumption|omega|simp;try omega) only[go_sem,seval,ag,aB]|(with_reducible first|apply aa|intro)|(try rw[ae]);omega
       ·rename_i h8;rw[hpn h8];refine rh (by simp) (by simp only[go_sem,seval]) ?_;simp only[go_sem,seval]
       rename_i h8;rw[hpd h8];have hsm:=(hfin.seen sink hs.1 hs.2).1 h8;obtain⟨p0,hp0,hpe⟩:=fO 0 hsm;simp only at hp0 hpe;clear hbn hst hpd hpn hex hkc;refine bt (E:=env 1) tok (σ:=Nat×Nat×List (Int×Int)) (fun s=>[(0,.d (aO ab)),(8,.sl 1 0 1 0 25),(15,.d (aO s.2.2)),(16,.d (dI (qu.getD s.2.1 0)))]) (fun s=>[.row g 1 true (busy.map D.bool),.row 0 1 true (fr.map (D.int .i64))])
        (fun s=>s.2.1<s.1/\s.2.1<qu.length/\s.1+s.2.2.length<=25/\ii fr s.1 (qu.getD s.2.1 0) s.2.2=ii fr 25 sink []) (fun s=>s.1) [] [] 1000 1000 ?_ ?_
       ·simp only[go_sem,seval];refine⟨(25,p0,[]),⟨by simp only;omega,hp0,by simp,by rw[hpe]⟩,?_⟩;simp only[List.map_nil,true_and,and_true];first|exact hpe.symm|exact⟨rfl,hpe.symm⟩|(rw[hpe];simp;done)|(rw[hpe])
       ·rintro⟨f,p,acc⟩ ⟨hpf,hpq,hfa,hch⟩;simp only at hpf hpq hfa hch;have hpm:=hbi.rng _ (aP hpq:qu.getD p 0∈qu);have hroot:=hbi.root p hpq;simp only at hroot;obtain⟨f',rfl⟩ : ∃ f',f=f'+1:=⟨f-1,by omega⟩;have hcs:ii fr (f'+1) (qu.getD p 0) acc=if 0<=fr.getD (qu.getD p 0).toNat 0 then ii fr f' (fr.getD (qu.getD p 0).toNat 0) ((qu.getD p 0,fr.getD (qu.getD p 0).toNat 0)::acc) else acc:=rfl
        rw[hcs] at hch;by_cases hge:0<=fr.getD (qu.getD p 0).toNat 0
        ·rw[if_pos hge] at hch;obtain⟨m,hm1,hm2⟩ : ∃ m,m<p/\qu.getD m 0=fr.getD (qu.getD p 0).toNat 0:=by
          rcases hroot with⟨h1,-⟩|⟨-,-,-,m,h4,h5,-⟩
          ·omega
          ·exact⟨m,h4,h5⟩
         generalize qu.getD p 0=tt at *
         generalize hv9:fr.getD tt.toNat 0=v at *
         repeat' first|assumption|simp (disch:=first|assumption|omega|simp;try omega) only[go_sem,seval,hv9,ag,aB]|(with_reducible first|apply aa|intro)|(try rw[ae]);omega
         refine⟨(f',m,(tt,v)::acc),⟨by simp only;omega,by simp only;omega,by simp only[cU];omega,by simp only;rw[hm2];exact hch⟩,by simp only;omega,?_⟩;exact⟨rfl,hm2.symm⟩
        ·rw[if_neg hge] at hch;generalize qu.getD p 0=tt at *
         repeat' first|assumption|simp (disch:=first|assumption|omega|simp;try omega) only[go_sem,seval,ag,aB]|(with_reducible first|apply aa|intro)|(try rw[ae]);omega
         refine rh (by simp) (by simp only[go_sem,seval]) ?_;simp only[go_sem,seval];rw[ag (by simp),hch]
end Go.Proofs
