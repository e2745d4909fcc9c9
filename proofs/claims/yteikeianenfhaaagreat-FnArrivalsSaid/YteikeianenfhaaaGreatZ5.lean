/- Law: arrival times accumulate. Conditions: none; lemmas. -/
import Derived.Test.YteikeianenfhaaaGreatF4
import Derived.Test.YteikeianenfhaaaGreatF1
set_option maxRecDepth 20000
set_option linter.unusedVariables false
set_option linter.unusedSimpArgs false
set_option maxHeartbeats 2000000
namespace Go.Proofs
open Go Go.VL Tryz
theorem qpV {c:Circ}{v:Int}(hv:v∈qaP c):(arrC c).getD v.toNat 0<=qfV c:=by
 obtain⟨l,hl,rfl⟩:=List.mem_map.1 hv;have key : ∀ (l:List Int) (m:Int),m<=l.foldl (fun m l=>max m ((arrC c).getD (l/2).toNat 0)) m/\∀ x∈l,(arrC c).getD (x/2).toNat 0<=l.foldl (fun m l=>max m ((arrC c).getD (l/2).toNat 0)) m:=by
  intro l;induction l with
  | nil=>exact fun m=>⟨Int.le_refl _,fun x h=>by simp at h⟩
  | cons x l ih=>
   intro m;rw[yan];obtain⟨h1,h2⟩:=ih (max m ((arrC c).getD (x/2).toNat 0));refine⟨by omega,fun y hy=>?_⟩;rcases List.mem_cons.1 hy with rfl|h
   ·omega
   ·exact h2 y h
 exact(key c.roots 0).2 l (qoe.2 hl)
theorem arr_law {c:Circ}(hc:c.Valid) {place:List Int}{rs:List Rt}(hr:RtsOk rs) {j:Nat}(hj:j<(qac c).length) (hreg:((qac c).getD j ce0).reg=false) :
  (∀ n∈((qac c).getD j ce0).inputs,(qbK c (qac c) place rs).getD n.toNat 0+3<=(qbK c (qac c) place rs).getD ((qac c).getD j ce0).net.toNat 0)/\3<=(qbK c (qac c) place rs).getD ((qac c).getD j ce0).net.toNat 0/\
  (((qac c).getD j ce0).net∈qaP c->(qbK c (qac c) place rs).getD ((qac c).getD j ce0).net.toNat 0<=qfV c*(3+qdh rs)):=by
 have ha:=qlT hc (place:=place) (rs:=rs) hj hreg;have hge:=latT_ge (a:=qbK c (qac c) place rs) (rs:=rs) (tile:=place.getD j 0) (nets:=((qac c).getD j ce0).inputs);refine⟨fun n hn=>?_,by omega,fun hroot=>?_⟩
 ·have h1:=hge.2 n hn;have h2:=(qec (net:=n) (tile:=place.getD j 0) hr.hops).1;omega
 ·have hf:=hc.first_bd;have hjl : ¬ j<c.next.length:=fun h=>by rw[(qhY hj).2 h] at hreg;cases hreg
  obtain⟨l,hl,e⟩:=qfU (by omega) hj;obtain⟨g,hg,rfl⟩:=(qcz hc).each l hl;have e2:((qac c).getD j ce0).net.toNat=c.first.toNat+g:=by
   rw[e];show(c.first+(g:Int)).toNat=_
   omega
  have hu:=qku hc (place:=place) hr (g+1) g (by omega) hg hl;have hd:=qpV hroot;rw[e2] at hd ⊢;exact Int.le_trans hu (Int.mul_le_mul_of_nonneg_right hd (by have:=(qgT rs).1;omega))
theorem Tryz.c_lroots (c:Circ) (hv:c.Valid):Pure prog 43 [dC c] (dIs (qaP c)):=by
 refine qaA func43 rfl ntmps43 fun ok=>?_
 simp only[go_sem,seval,-List.reduceReplicate] at ok
 repeat' first|assumption|(simp (disch:=first|assumption|omega|(simp;done)|(simp;omega)) only[go_sem,seval,-List.reduceReplicate,yaa,qah,qav])|(with_reducible first|apply And.intro|intro _)|((try rw[qaa]);omega)
 have hlo:=hv.lo;have hln:=hv.ln;have hrv:qaP c=c.outs.map (· / 2)++c.next.map (· / 2):=yaI ..;rw[hrv];refine qai (E:=env 0) tok (σ:=Nat) (fun i=>[(1,.ptr 0 0),(3,.sl 1 i 1 0 i),(4,.d (dI i))]) (fun i=>[.box [.d (dI c.inputs),.d (dIs c.next),.d (dPs c.gates),.d (dIs c.outs)],.row i 1 true (((c.outs.take i).map (· / 2)).map (D.int .i64))]) (fun i=>i<=c.outs.length) (fun i=>c.outs.length-i) [] [] 1000 1000 ?_ ?_
 ·simp only[go_sem,seval,-List.reduceReplicate];exact⟨0,by omega,by simp⟩
 ·intro i hi;have hql:((c.outs.take i).map (· / 2)).length=i:=by simp;omega
  by_cases hit:i<c.outs.length
  ·have hts:(c.outs.take (i+1)).map (· / 2)=(c.outs.take i).map (· / 2) ++ [c.outs.getD i 0/2]:=qaN 0 hit;have hxo:=hv.o _ (qab hit:c.outs.getD i 0∈c.outs);unfold qa6 at hxo;generalize (c.outs.take i).map (· / 2)=q at *
   generalize hx9:c.outs.getD i 0=x at *
   simp only[go_sem,seval,-List.reduceReplicate,hx9]
   repeat' first|assumption|(simp (disch:=first|assumption|omega|(simp;done)|(simp;omega)) only[go_sem,seval,-List.reduceReplicate,hx9,hql,yaa,qah,qav])|(with_reducible first|apply And.intro|intro _)|((try rw[qaa]);omega)
   refine⟨i+1,by omega,by omega,rfl,rfl,?_⟩;rw[hts]
  ·obtain rfl:i=c.outs.length:=by omega
   rw[yaq];rw[yaq] at hql;generalize c.outs.map (· / 2)=q at *
   repeat' first|assumption|(simp (disch:=first|assumption|omega|(simp;done)|(simp;omega)) only[go_sem,seval,-List.reduceReplicate,yaa,qah,qav])|(with_reducible first|apply And.intro|intro _)|((try rw[qaa]);omega)
   refine qai (E:=env 0) tok (σ:=Nat) (fun i=>[(1,.ptr 0 0),(3,.sl 1 (q.length+i) 1 0 (q.length+i)),(5,.d (dI i))]) (fun i=>[.box [.d (dI c.inputs),.d (dIs c.next),.d (dPs c.gates),.d (dIs c.outs)],.row (q.length+i) 1 true ((q++(c.next.take i).map (· / 2)).map (D.int .i64))]) (fun i=>i<=c.next.length) (fun i=>c.next.length-i) [] [] 1000 1000 ?_ ?_
   ·simp only[go_sem,seval,-List.reduceReplicate];refine⟨0,by omega,⟨by omega,rfl⟩,by omega,?_⟩;simp
   ·intro i hi;have hql2:(q++(c.next.take i).map (· / 2)).length=q.length+i:=by simp;omega
    by_cases hit:i<c.next.length
    ·have hts:q++(c.next.take (i+1)).map (· / 2)=(q++(c.next.take i).map (· / 2)) ++ [c.next.getD i 0/2]:=by rw[qaN 0 hit,yal]
     have hxo:=hv.n _ (qab hit:c.next.getD i 0∈c.next);unfold qa6 at hxo;generalize q++(c.next.take i).map (· / 2)=q2 at *
     generalize hx9:c.next.getD i 0=x at *
     simp only[go_sem,seval,-List.reduceReplicate,hx9]
     repeat' first|assumption|(simp (disch:=first|assumption|omega|(simp;done)|(simp;omega)) only[go_sem,seval,-List.reduceReplicate,hx9,hql2,yaa,qah,qav])|(with_reducible first|apply And.intro|intro _)|((try rw[qaa]);omega)
     refine⟨i+1,by omega,by omega,⟨by omega,rfl⟩,by omega,?_⟩;rw[hts]
    ·obtain rfl:i=c.next.length:=by omega
     rw[yaq]
     repeat' first|assumption|(simp (disch:=first|assumption|omega|(simp;done)|(simp;omega)) only[go_sem,seval,-List.reduceReplicate,yaa,qah,qav])|(with_reducible first|apply And.intro|intro _)|((try rw[qaa]);omega)
set_option maxHeartbeats 4000000 in
theorem Tryz.c_FnArrivals (code:List Int):Pure prog 6 [dUs code] (.bool true):=by
 refine qaA func6 rfl ntmps6 fun ok=>?_
 simp only[go_sem,seval,-List.reduceReplicate] at ok
 repeat' first|assumption|(simp (disch:=first|assumption|omega|(simp;done)|(simp;omega)) only[go_sem,seval,-List.reduceReplicate,yaa,qah,qav])|(with_reducible first|apply And.intro|intro _)|((try rw[qaa]);omega)
 refine qjV (c_DrawArrivals code) ?_;rintro x ⟨c,place,rfl,hc,hpl⟩;have hA:=(c_Arrivals c place).res (arrO_wk c place);have hS:=c_sArrivals c place;have hR:=c_Route c place;have hsi:=c_sameInts (arrL c place) (arrL c place);rw[decide_eq_true rfl] at hsi;cases hra:qaM c place [] with
 | none=>
  have e:arrL c place=[]:=by unfold arrL;rw[hra]
  rw[e] at hA hS hsi;rw[hra] at hR;have hR:Pure prog 39 [dC c,dIs place] (.tup [.nil,dB false]):=hR
  repeat' first|assumption|(simp (disch:=first|assumption|omega|(simp;done)|(simp;omega)) only[go_sem,seval,-List.reduceReplicate,yaa,qah,qav])|(with_reducible first|apply And.intro|intro _)|(refine qad hA ?_)|(refine qad hS ?_)|(refine qad hsi ?_)|(refine qad hR ?_)|(refine qaO (fun _=>c_alive) ?_)|(refine qb3 (fun _=>⟨c_alive,trivial⟩) ?_)|((try rw[qaa]);omega)
 | some rs=>
  have e:arrL c place=qbK c (qac c) place rs:=by unfold arrL;rw[hra]
  rw[e] at hA hS hsi;rw[hra] at hR;have hR:Pure prog 39 [dC c,dIs place] (.tup [dRts rs,dB true]):=hR;have hro:=qfp hra;obtain⟨hv,hpo,-,busy,hRo⟩:=qfo hra;have hce:=c_Cells c hv;have hvc:=c_VarCountV c hv;have hmd:=c_MappedDepth c hv;have hlr:=c_lroots c hv;have hvb:=hv.vars_bd;have hfb:=hv.first_bd;have hi0:=hv.i0;have hi1:=hv.i1;have hln:=hv.ln;have hlg:=hv.lg;have hvv:c.vars=c.first+(c.gates.length:Int):=rfl
  have hfd:c.first=1+c.inputs+(c.next.length:Int):=rfl
  have hcl:=qbD hv;have hcin:=qde hv;have hcn:=qcT hv;have hrl:=hro.len;have hz0:=fun v h=>qlU hv (place:=place) (rs:=rs) (v:=v) h
  have hlaw:=fun j hj hreg=>arr_law hv (place:=place) hro (j:=j) hj hreg
  have hAl:(qbK c (qac c) place rs).length=c.vars.toNat:=qeO _;have hAb:=fun v=>qjk (cells:=qac c) (place:=place) hro (N:=c.vars.toNat) (qac c).length v
  have hAd:arrT (qac c) place rs c.vars.toNat (qac c).length=qbK c (qac c) place rs:=rfl;rw[hAd] at hAb;have hdb:=qiM c c.roots 0 (by omega);rw[show c.roots.foldl (fun m l=>max m ((arrC c).getD (l/2).toNat 0)) 0=qfV c from rfl] at hdb;generalize qac c=cells at *
  generalize qbK c cells place rs=A at *
  repeat' first|assumption|(simp (disch:=first|assumption|omega|(simp;done)|(simp;omega)) only[go_sem,seval,-List.reduceReplicate,yaa,qah,qav])|(with_reducible first|apply And.intro|intro _)|(refine qad hA ?_)|(refine qad hS ?_)|(refine qad hsi ?_)|(refine qad hR ?_)|((try rw[qaa]);omega)
  refine qai (E:=env 0) tok (σ:=Nat) (fun v=>[(3,.ptr 0 0),(4,.d (dIs place)),(5,.d (dIs A)),(6,.d (dRts rs)),(8,.d (dI v))]) (fun _=>[.box [.d (dI c.inputs),.d (dIs c.next),.d (dPs c.gates),.d (dIs c.outs)]]) (fun v=>(v:Int)<=c.first) (fun v=>c.first.toNat-v) [] [] 1000 1000 ?_ ?_
  ·simp only[go_sem,seval,-List.reduceReplicate];exact⟨0,by omega,rfl⟩
  ·intro v hvf;by_cases hvt:(v:Int)<c.first
   ·have hzv:=hz0 v hvt
    repeat' first|assumption|(simp (disch:=first|assumption|omega|(simp;done)|(simp;omega)) only[go_sem,seval,-List.reduceReplicate,hzv,yaX,yaa,qah,qav])|(with_reducible first|apply And.intro|intro _)|((try rw[qaa]);omega)
    exact⟨v+1,by omega,by omega,rfl⟩
   ·repeat' first|assumption|(simp (disch:=first|assumption|omega|(simp;done)|(simp;omega)) only[go_sem,seval,-List.reduceReplicate,yaa,qah,qav])|(with_reducible first|apply And.intro|intro _)|((try rw[qaa]);omega)
    have hlb : ∀ i,0<=qdh (rs.take i)/\qdh (rs.take i)<=25:=by
     intro i;refine⟨(qgT _).1,?_⟩;have key : ∀ (l:List Rt) (m:Int),m<=25->(∀ r∈l,r.hops.length<=25)->l.foldl (fun m r=>max m (r.hops.length:Int)) m<=25:=by
      intro l;induction l with
      | nil=>exact fun m h _=>h
      | cons y l ih=>
       intro m hm hl;rw[yan];have:=hl y (by simp);exact ih _ (by omega) fun r hr=>hl r (by simp[hr])
     exact key _ 0 (by omega) fun r hr=>hro.hops r (yam hr)
    refine qai (E:=env 0) tok (σ:=Nat) (fun i=>[(3,.ptr 0 0),(4,.d (dIs place)),(5,.d (dIs A)),(6,.d (dRts rs)),(9,.d (dI (qdh (rs.take i)))),(10,.d (dI i))]) (fun _=>[.box [.d (dI c.inputs),.d (dIs c.next),.d (dPs c.gates),.d (dIs c.outs)]]) (fun i=>i<=rs.length) (fun i=>rs.length-i) [] [] 1000 1000 ?_ ?_
    ·simp only[go_sem,seval,-List.reduceReplicate];exact⟨0,by omega,rfl,rfl⟩
    ·intro i hi;have hli:=hlb i;by_cases hit:i<rs.length
     ·have hls:qdh (rs.take (i+1))=max (qdh (rs.take i)) ((rs.getD i rt0).hops.length:Int):=qaw (f:=fun(m:Int) (r:Rt)=>max m (r.hops.length:Int)) (b:=0) rt0 hit;have hxl:=hro.hops _ (qab hit:rs.getD i rt0∈rs);generalize hx9:rs.getD i rt0=x at *
      generalize qdh (rs.take i)=w at *
      repeat' first|assumption|(simp (disch:=first|assumption|omega|(simp;done)|(simp;omega)) only[go_sem,seval,-List.reduceReplicate,hx9,yaa,qah,qav])|(with_reducible first|apply And.intro|intro _)|((try rw[qaa]);omega)
      exact⟨i+1,by omega,by omega,hls.symm,rfl⟩
     ·obtain rfl:i=rs.length:=by omega
      rw[yaq] at hli ⊢;have hpb:0<=qfV c*(3+qdh rs)/\qfV c*(3+qdh rs)<=1100*28:=
       ⟨Int.mul_nonneg hdb.1 (by omega),Int.le_trans (Int.mul_le_mul_of_nonneg_right (show qfV c<=1100 by omega) (by omega)) (Int.mul_le_mul_of_nonneg_left (by omega) (by decide))⟩
      repeat' first|assumption|(simp (disch:=first|assumption|omega|(simp;done)|(simp;omega)) only[go_sem,seval,-List.reduceReplicate,yaa,qah,qav])|(with_reducible first|apply And.intro|intro _)|(refine qbU hce ?_)|((try rw[qaa]);omega)
      have hlL:qdh rs<=25:=hli.2;generalize qdh rs=L0 at *
      generalize qfV c=D0 at *
      refine qai (E:=env 0) tok (σ:=Nat) (fun i=>[(3,.ptr 0 0),(5,.d (dIs A)),(9,.d (dI L0)),(11,.d (dCes cells)),(12,.d (dI i))]) (fun _=>[.box [.d (dI c.inputs),.d (dIs c.next),.d (dPs c.gates),.d (dIs c.outs)]]) (fun i=>i<=cells.length) (fun i=>cells.length-i) [] [] 1000 1000 ?_ ?_
      ·simp only[go_sem,seval,-List.reduceReplicate];exact⟨0,by omega,rfl⟩
      ·intro i hi;by_cases hit:i<cells.length
       ·have hxm:cells.getD i ce0∈cells:=qab hit;have h1:=hcn _ hxm;have h2:=hcin _ hxm;have hlw:=hlaw i hit;have hct:=c_contains (qaP c) (cells.getD i ce0).net;generalize hx9:cells.getD i ce0=x at *
        have hxl:x.net<(A.length:Int):=by omega
        have hAx:=hAb x.net.toNat;cases hreg:x.reg with
        | true=>
         repeat' first|assumption|(simp (disch:=first|assumption|omega|(simp;done)|(simp;omega)) only[go_sem,seval,-List.reduceReplicate,hx9,yaa,qah,qav])|(with_reducible first|apply And.intro|intro _)|((try rw[qaa]);omega)
         generalize A.getD x.net.toNat 0=t at *
         refine qai (E:=env 0) tok (σ:=Unit) (fun _=>[(3,.ptr 0 0),(5,.d (dIs A)),(9,.d (dI L0)),(11,.d (dCes cells)),(12,.d (dI i)),(13,.d (dI t)),(14,.d (dI 0))]) (fun _=>[.box [.d (dI c.inputs),.d (dIs c.next),.d (dPs c.gates),.d (dIs c.outs)]]) (fun _=>True) (fun _=>0) [] [] 1000 1000 ?_ ?_
         ·simp only[go_sem,seval,-List.reduceReplicate];exact⟨(),trivial⟩
         ·intro _ _
          repeat' first|assumption|(simp (disch:=first|assumption|omega|(simp;done)|(simp;omega)) only[go_sem,seval,-List.reduceReplicate,hx9,hreg,yaa,qah,qav])|(with_reducible first|apply And.intro|intro _)|((try rw[qaa]);omega)
          refine qbN (n:=0) [] (fsts [0,1,2,3,4,5,6,7,8,9,10,13,14,15,11] (.one 12 (fsts [16,17,18,21,22,23,24] (.two 19 (.two 20 (.one 25 (.one 26 (fsts [27,28,29] .done))) 25 (.one 20 (.one 26 (fsts [27,28,29] .done)))) 25 (.one 19 (.one 20 (.one 26 (fsts [27,28,29] .done)))))))) ?_
          repeat' first|assumption|(simp (disch:=first|assumption|omega|(simp;done)|(simp;omega)) only[go_sem,seval,-List.reduceReplicate,hx9,hreg,Int.mul_one,yaa,qah,qav])|(with_reducible first|apply And.intro|intro _)|(refine qaO (fun _=>hmd) ?_)|(refine qaO (fun _=>hlr) ?_)|(refine qaO (fun _=>hct) ?_)|((try rw[qaa]);omega)
          all_goals exact⟨i+1,by omega,by omega,rfl⟩
        | false=>
         obtain⟨l1,l2,l3⟩:=hlw hreg
         repeat' first|assumption|(simp (disch:=first|assumption|omega|(simp;done)|(simp;omega)) only[go_sem,seval,-List.reduceReplicate,hx9,yaa,qah,qav])|(with_reducible first|apply And.intro|intro _)|((try rw[qaa]);omega)
         generalize A.getD x.net.toNat 0=t at *
         refine qai (E:=env 0) tok (σ:=Nat) (fun k=>[(3,.ptr 0 0),(5,.d (dIs A)),(9,.d (dI L0)),(11,.d (dCes cells)),(12,.d (dI i)),(13,.d (dI t)),(14,.d (dI k))]) (fun _=>[.box [.d (dI c.inputs),.d (dIs c.next),.d (dPs c.gates),.d (dIs c.outs)]]) (fun k=>k<=x.inputs.length) (fun k=>x.inputs.length-k) [] [] 1000 1000 ?_ ?_
         ·simp only[go_sem,seval,-List.reduceReplicate];exact⟨0,by omega,rfl⟩
         ·intro k hk;by_cases hkt:k<x.inputs.length
          ·have hym:=qab hkt (z:=(0:Int));have hy1:=l1 _ hym;have hy2:=h2.2.2 _ hym;generalize hy9:x.inputs.getD k 0=y at *
           have hyl:y<(A.length:Int):=by omega
           have hAy:=hAb y.toNat
           repeat' first|assumption|(simp (disch:=first|assumption|omega|(simp;done)|(simp;omega)) only[go_sem,seval,-List.reduceReplicate,hx9,hreg,hy9,yaa,qah,qav])|(with_reducible first|apply And.intro|intro _)|((try rw[qaa]);omega)
           all_goals first|exact⟨k+1,by omega,by omega,rfl⟩|(exfalso;rename_i h9;rcases h9 with h9|h9 <;> simp_all;done)
          ·repeat' first|assumption|(simp (disch:=first|assumption|omega|(simp;done)|(simp;omega)) only[go_sem,seval,-List.reduceReplicate,hx9,hreg,yaa,qah,qav])|(with_reducible first|apply And.intro|intro _)|(refine qaO (fun _=>hmd) ?_)|(refine qaO (fun _=>hlr) ?_)|(refine qaO (fun _=>hct) ?_)|((try rw[qaa]);omega)
           all_goals (
            refine qbN (n:=0) [] (fsts [0,1,2,3,4,5,6,7,8,9,10,13,14,15,11] (.one 12 (fsts [16,17,18,21,22,23,24] (.two 19 (.two 20 (.one 25 (.one 26 (fsts [27,28,29] .done))) 25 (.one 20 (.one 26 (fsts [27,28,29] .done)))) 25 (.one 19 (.one 20 (.one 26 (fsts [27,28,29] .done)))))))) ?_;simp only[go_sem,seval,-List.reduceReplicate,hx9,hreg,Int.mul_one]
            repeat' first|assumption|(simp (disch:=first|assumption|omega|(simp;done)|(simp;omega)) only[go_sem,seval,-List.reduceReplicate,hx9,hreg,Int.mul_one,yaa,qah,qav])|(with_reducible first|apply And.intro|intro _)|(refine qaO (fun _=>hmd) ?_)|(refine qaO (fun _=>hlr) ?_)|(refine qaO (fun _=>hct) ?_)|((try rw[qaa]);omega))
           all_goals first
            | exact⟨i+1,by omega,by omega,rfl⟩
            | (rename_i h9;rcases h9 with h9|⟨h9,h10⟩ <;> first|omega|(have:=l3 h10;omega))
       ·obtain rfl:i=cells.length:=by omega
        repeat' first|assumption|(simp (disch:=first|assumption|omega|(simp;done)|(simp;omega)) only[go_sem,seval,-List.reduceReplicate,yaa,qah,qav])|(with_reducible first|apply And.intro|intro _)|(refine qad hvc ?_)|((try rw[qaa]);omega)
end Go.Proofs
