/- Contracts: the times of a placement, all. Conditions: none; lemmas. -/
import Derived.Test.YtoanmdnkgjdinaaG1
import Derived.Test.YtoanmdnkgjdinaaF1
set_option maxRecDepth 20000
set_option linter.unusedVariables false
set_option linter.unusedSimpArgs false
namespace Go.Proofs
open Go Go.VL
abbrev cbox (c:Circ):R:=.box [.d (dI c.inputs),.d (dIs c.next),.d (dPs c.gates),.d (dIs c.outs)]
noncomputable def qqy (c:Circ) (place:List Int) (o:Option (List Rt)) (r:I) (H':List R):Prop:=
 match o with
 | none=>r=.tup [.d (.agg [.nil,.raw (.map none),.nil]),.d (dB false)]∧H'=[cbox c]
 | some rs=>∃ m B1 B4,HMok rs rs.length 0 m∧r=.tup [.agg [.d (dCes (qaj c)),.map 2,.sl 3 0 1 0 (qaS c (qaj c) place rs).length],.d (dB true)]∧
   H'=[cbox c,.box B1,.map (hkE m),.row 0 1 true ((qaS c (qaj c) place rs).map (D.int .i64)),.box B4]
set_option maxHeartbeats 2000000 in
theorem Try.c_timingOf (c:Circ) (place:List Int) :
  ICall Try.prog 53 [.ptr 0 0,.d (dIs place)] [cbox c] (qqy c place (qaI c place [])):=by
 have hR:=Try.c_Route c place
 cases hra:qaI c place [] with
 | none=>
  rw[hra] at hR
  have hR:Pure Try.prog 12 [dC c,dIs place] (.tup [.nil,dB false]):=hR
  refine qaF (E:=Try.env 1) Try.tok rfl 1000 Try.func53 rfl rfl Try.ntmps53 (by simp) ?_
  simp only[go_sem,seval,-List.reduceReplicate,Try.results53]
  repeat' first|assumption|(simp (disch:=first|assumption|omega|(simp;done)|(simp;omega)) only[qaa,qac,List.take_of_length_le,qab,qae,qaf,qag,qah,qak];try simp only[go_sem,seval,-List.reduceReplicate,Try.results53])|(with_reducible refine And.intro ?_ ?_)|(with_reducible intro _)|(refine qai hR ?_;simp only[go_sem,seval,-List.reduceReplicate,Try.results53])|((try rw[qad]);omega)
  refine qa8 (r0:=.tup [.d (.agg [.nil,.raw (.map none),.nil]),.d (dB false)]) (H1:=[cbox c]) ?_ ⟨rfl,rfl⟩
  simp only[go_sem,seval,-List.reduceReplicate]
 | some rs=>
  rw[hra] at hR
  have hR:Pure Try.prog 12 [dC c,dIs place] (.tup [dRts rs,dB true]):=hR
  have hro:=qb4 hra
  obtain⟨hv,hp,-,busy,hRo⟩:=qcN hra
  have hce:=Try.c_Cells c hv
  have hf:=hv.first_bd
  have hi0:=hv.i0
  have hi1:=hv.i1
  have hvs:=Try.c_vars c (by omega)
  have hvb:=hv.vars_bd
  have hcl:=qbi hv
  have hpn:=hp.len
  refine qaF (E:=Try.env 1) Try.tok rfl 1000 Try.func53 rfl rfl Try.ntmps53 (by simp) ?_
  simp only[go_sem,seval,-List.reduceReplicate,Try.results53]
  repeat' first|assumption|(simp (disch:=first|assumption|omega|(simp;done)|(simp;omega)) only[qaa,qac,List.take_of_length_le,qab,qae,qaf,qag,qah,qak];try simp only[go_sem,seval,-List.reduceReplicate,Try.results53])|(with_reducible refine And.intro ?_ ?_)|(with_reducible intro _)|(refine qai hR ?_;simp only[go_sem,seval,-List.reduceReplicate,Try.results53])|(refine qbk hce ?_;simp only[go_sem,seval,-List.reduceReplicate,Try.results53])|(refine qai hvs ?_;simp only[go_sem,seval,-List.reduceReplicate,Try.results53])|((try rw[qad]);omega)
  have hrl:=hro.len
  have hA0:List.replicate c.vars.toNat (0:Int)=arrT (qaj c) place rs c.vars.toNat 0:=rfl
  rw[hA0]
  have hAl:=fun i=>qdB (cells:=qaj c) (place:=place) (routes:=rs) (N:=c.vars.toNat) i
  have hAb:=fun i v=>qes (cells:=qaj c) (place:=place) hro (N:=c.vars.toNat) i v
  have hcn:=qd3 hv
  have hcin:=qcD hv
  have hpr:=fun i hi=>hp.get (i:=i) hi
  have hAd:qaS c (qaj c) place rs=arrT (qaj c) place rs c.vars.toNat (qaj c).length:=rfl
  generalize hcs:qaj c=cells at *
  refine qao (E:=Try.env 1) Try.tok (σ:=Nat×HMap) (fun s=>[(0,.ptr 0 0),(1,.d (dIs place)),(4,.ptr 1 0),(8,.ptr 4 0),(35,.d (dRts rs)),(36,.d (dI rs.length)),(37,.d (dI s.1))])
   (fun s=>[cbox c,.box [.d .nil,.d (.raw (.map none)),.d .nil],.map (hkE s.2),.row 0 1 true ((arrT cells place rs c.vars.toNat 0).map (D.int .i64)),.box [.d (dCes cells),.map 2,.sl 3 0 1 0 c.vars.toNat]]) (fun s=>s.1≤rs.length∧HMok rs s.1 0 s.2) (fun s=>rs.length-s.1) [] [] 1000 1000 ?_ ?_
  ·simp only[go_sem,seval,-List.reduceReplicate]
   exact⟨(0,[]),⟨by simp only;omega,HMok.zero rs⟩,by simp[hkE]⟩
  ·rintro⟨i,m⟩ ⟨hi,hm⟩
   simp only at hi hm
   by_cases hit:i<rs.length
   ·have hxm:rs.getD i rt0∈rs:=qal hit
    have hhl:=hro.hops _ hxm
    have htree:=(hRo.each _ hxm).tree
    have hst:=fun j m2 (h:HMok rs i j m2) hj d hd=>HMok.step hro hit h hj (d:=d) hd
    have hat:=fun j hj=>qoF hro hit (j:=j) hj
    have hfr:=fun j m2 (h:HMok rs i j m2) hj hf=>HMok.from_ hro hit h (j:=j) hj hf
    have hnx:=fun m2 h=>HMok.next (m:=m2) hit h
    have hbd:=fun t=>qbD (net:=(rs.getD i rt0).net) (tile:=t) hro.hops
    generalize hx9:rs.getD i rt0=x at *
    simp only[go_sem,seval,-List.reduceReplicate,Try.results53,hx9]
    repeat' first|assumption|(simp (disch:=first|assumption|omega|(simp;done)|(simp;omega)) only[qaa,qac,List.take_of_length_le,qab,qae,qaf,qag,qah,qak];try simp only[go_sem,seval,-List.reduceReplicate,Try.results53,hx9])|(with_reducible refine And.intro ?_ ?_)|(with_reducible intro _)|((try rw[qad]);omega)
    refine qao (E:=Try.env 1) Try.tok (σ:=Nat×HMap) (fun s=>[(0,.ptr 0 0),(1,.d (dIs place)),(4,.ptr 1 0),(8,.ptr 4 0),(35,.d (dRts rs)),(36,.d (dI rs.length)),(37,.d (dI i)),(10,.ptr 5 0),(42,.d (dPs x.hops)),(43,.d (dI x.hops.length)),(44,.d (dI s.1))])
     (fun s=>[cbox c,.box [.d .nil,.d (.raw (.map none)),.d .nil],.map (hkE s.2),.row 0 1 true ((arrT cells place rs c.vars.toNat 0).map (D.int .i64)),.box [.d (dCes cells),.map 2,.sl 3 0 1 0 c.vars.toNat],.box [.d (dI x.net),.d (dI x.track),.d (dPs x.hops)]]) (fun s=>s.1≤x.hops.length∧HMok rs i s.1 s.2) (fun s=>x.hops.length-s.1) [] [] 1000 1000 ?_ ?_
    ·simp only[go_sem,seval,-List.reduceReplicate]
     exact⟨(0,m),⟨by simp only;omega,hm⟩,rfl,rfl⟩
    ·rintro⟨j,m2⟩ ⟨hj,hm2⟩
     simp only at hj hm2
     by_cases hjt:j<x.hops.length
     ·have hst2:=hst j m2 hm2 hjt
      have hat2:=hat j hjt
      have hfr2:=hfr j m2 hm2 hjt
      have hb1:=hbd (x.hops.getD j (0,0)).1
      have hb2:=hbd (x.hops.getD j (0,0)).2
      have eu:=fun d=>qoE (x.net,(x.hops.getD j (0,0)).1) d m2
      have ef:=qhf (x.net,(x.hops.getD j (0,0)).2) m2
      generalize hu9:x.hops.getD j (0,0)=u at *
      simp only at eu ef
      by_cases hge:0≤u.2
      ·rw[if_pos hge] at hat2
       rw[hfr2 hge] at ef
       simp only[go_sem,seval,-List.reduceReplicate,Try.results53,hu9,eu,ef,Option.map_some,Option.getD_some]
       repeat' first|assumption|(simp (disch:=first|assumption|omega|(simp;done)|(simp;omega)) only[qaa,qac,List.take_of_length_le,qab,qae,qaf,qag,qah,qak];try simp only[go_sem,seval,-List.reduceReplicate,Try.results53,hu9,eu,ef,Option.map_some,Option.getD_some])|(with_reducible refine And.intro ?_ ?_)|(with_reducible intro _)|((try rw[qad]);omega)
       refine qaQ (E:=Try.env 1) Try.tok Try.follows 1000 1000 [16] (.fst 0 (.fst 2 (.fst 4 (.fst 7 (.fst 9 (.fst 11 (.fst 1 (.fst 3 (.fst 5 (.fst 6 (.fst 8 (.fst 10 (.fst 12 (.fst 13 (.fst 14 (.fst 15 (.one 16 (.done)))))))))))))))))) (by kernel_rfl) ?_
       simp only[go_sem,seval,-List.reduceReplicate,Try.results53,hu9,eu,ef,Option.map_some,Option.getD_some]
       repeat' first|assumption|(simp (disch:=first|assumption|omega|(simp;done)|(simp;omega)) only[qaa,qac,List.take_of_length_le,qab,qae,qaf,qag,qah,qak];try simp only[go_sem,seval,-List.reduceReplicate,Try.results53,hu9,eu,ef,Option.map_some,Option.getD_some])|(with_reducible refine And.intro ?_ ?_)|(with_reducible intro _)|((try rw[qad]);omega)
       all_goals first|exact qd5 rfl m2|skip
       refine⟨(j+1,hkUp m2 (x.net,u.1) (qaW rs x.net u.2+1)),⟨by simp only;omega,hst2 _ hat2.symm⟩,by simp only;omega,rfl,rfl⟩
      ·rw[if_neg hge] at hat2
       simp only[go_sem,seval,-List.reduceReplicate,Try.results53,hu9,eu]
       repeat' first|assumption|(simp (disch:=first|assumption|omega|(simp;done)|(simp;omega)) only[qaa,qac,List.take_of_length_le,qab,qae,qaf,qag,qah,qak];try simp only[go_sem,seval,-List.reduceReplicate,Try.results53,hu9,eu])|(with_reducible refine And.intro ?_ ?_)|(with_reducible intro _)|((try rw[qad]);omega)
       ·exact qd5 rfl m2
       ·exact⟨(j+1,hkUp m2 (x.net,u.1) 0),⟨by simp only;omega,hst2 _ hat2.symm⟩,by simp only;omega,rfl,rfl⟩
     ·obtain rfl:j=x.hops.length:=by omega
      have hnx2:=hnx m2 hm2
      simp only[go_sem,seval,-List.reduceReplicate,Try.results53]
      repeat' first|assumption|(simp (disch:=first|assumption|omega|(simp;done)|(simp;omega)) only[qaa,qac,List.take_of_length_le,qab,qae,qaf,qag,qah,qak];try simp only[go_sem,seval,-List.reduceReplicate,Try.results53])|(with_reducible refine And.intro ?_ ?_)|(with_reducible intro _)|((try rw[qad]);omega)
      exact⟨(i+1,m2),⟨by simp only;omega,hnx2⟩,by simp only;omega,rfl,rfl⟩
   ·obtain rfl:i=rs.length:=by omega
    simp only[go_sem,seval,-List.reduceReplicate,Try.results53]
    repeat' first|assumption|(simp (disch:=first|assumption|omega|(simp;done)|(simp;omega)) only[qaa,qac,List.take_of_length_le,qab,qae,qaf,qag,qah,qak];try simp only[go_sem,seval,-List.reduceReplicate,Try.results53])|(with_reducible refine And.intro ?_ ?_)|(with_reducible intro _)|((try rw[qad]);omega)
    refine qao (E:=Try.env 1) Try.tok (σ:=Nat) (fun i=>[(1,.d (dIs place)),(4,.ptr 1 0),(8,.ptr 4 0),(77,.d (dCes cells)),(78,.d (dI cells.length)),(79,.d (dI i))])
     (fun i=>[cbox c,.box [.d .nil,.d (.raw (.map none)),.d .nil],.map (hkE m),.row 0 1 true ((arrT cells place rs c.vars.toNat i).map (D.int .i64)),.box [.d (dCes cells),.map 2,.sl 3 0 1 0 c.vars.toNat]]) (fun i=>i≤cells.length) (fun i=>cells.length-i) [] [] 1000 1000 ?_ ?_
    ·simp only[go_sem,seval,-List.reduceReplicate]
     exact⟨0,by omega,rfl,rfl⟩
    ·intro i hi
     have hali:=hAl i
     have habi:=hAb i
     by_cases hit:i<cells.length
     ·have hxm:cells.getD i ce0∈cells:=qal hit
      have h1:=hcn _ hxm
      have h2:=hcin _ hxm
      have hpi:=hpr i hit
      have hla:=fun nets hn hl tile=>Try.c_latest 0 cells m (arrT cells place rs c.vars.toNat i) rs hm hro (2503*(i:Int)) (by omega) habi nets hn hl tile
      have hlb:=qer habi hro (place.getD i 0) (cells.getD i ce0).inputs
      have has:arrT cells place rs c.vars.toNat (i+1)=if(cells.getD i ce0).reg then arrT cells place rs c.vars.toNat i else(arrT cells place rs c.vars.toNat i).set (cells.getD i ce0).net.toNat (latT (arrT cells place rs c.vars.toNat i) rs (cells.getD i ce0).inputs (place.getD i 0)+3):=rfl
      generalize hx9:cells.getD i ce0=x at *
      have hla2:=hla x.inputs (fun n hn=>by have:=h2.2.2 n hn;omega) (by omega) (place.getD i 0)
      generalize arrT cells place rs c.vars.toNat i=A at *
      simp only[go_sem,seval,-List.reduceReplicate,Try.results53,hx9]
      repeat' first|assumption|(simp (disch:=first|assumption|omega|(simp;done)|(simp;omega)) only[qaa,qac,List.take_of_length_le,qab,qae,qaf,qag,qah,qak];try simp only[go_sem,seval,-List.reduceReplicate,Try.results53,hx9])|(with_reducible refine And.intro ?_ ?_)|(with_reducible intro _)|((try rw[qad]);omega)
      ·rename_i h7
       rw[if_neg (by rw[h7];simp)] at has
       rw[hali] at hla2
       refine qaQ (E:=Try.env 1) Try.tok Try.follows 1000 1000 [11,14] (.fst 0 (.fst 2 (.fst 5 (.fst 7 (.fst 8 (.fst 9 (.fst 4 (.fst 6 (.fst 10 (.three 1 (.two 3 (.one 11 (.fst 12 (.fst 13 (.one 14 (.done))))) 11 (.fst 12 (.one 3 (.fst 13 (.one 14 (.done)))))) 3 (.two 1 (.one 11 (.fst 12 (.fst 13 (.one 14 (.done))))) 11 (.fst 12 (.one 1 (.fst 13 (.one 14 (.done)))))) 11 (.fst 12 (.two 1 (.one 3 (.fst 13 (.one 14 (.done)))) 3 (.one 1 (.fst 13 (.one 14 (.done)))))))))))))))) (by kernel_rfl) ?_
       simp only[go_sem,seval,-List.reduceReplicate,Try.results53,hx9]
       repeat' first|assumption|(simp (disch:=first|assumption|omega|(simp;done)|(simp;omega)) only[qaa,qac,List.take_of_length_le,qab,qae,qaf,qag,qah,qak];try simp only[go_sem,seval,-List.reduceReplicate,Try.results53,hx9])|(with_reducible refine And.intro ?_ ?_)|(with_reducible intro _)|((try rw[qad]);omega)
       all_goals (
        refine qar hla2 [2,3] (by simp only[go_sem,seval,-List.reduceReplicate]) ?_
        rintro r0 H1 ⟨rfl,rfl⟩
        simp only[go_sem,seval,-List.reduceReplicate,Try.results53,hx9]
        repeat' first|assumption|(simp (disch:=first|assumption|omega|(simp;done)|(simp;omega)) only[qaa,qac,List.take_of_length_le,qab,qae,qaf,qag,qah,qak];try simp only[go_sem,seval,-List.reduceReplicate,Try.results53,hx9])|(with_reducible refine And.intro ?_ ?_)|(with_reducible intro _)|((try rw[qad]);omega))
       all_goals (
        refine⟨i+1,by omega,by omega,rfl,?_⟩
        rw[has,Int.add_comm 3])
      ·rename_i h7
       rw[if_pos h7] at has
       exact⟨i+1,by omega,by omega,rfl,has.symm⟩
     ·obtain rfl:i=cells.length:=by omega
      simp only[go_sem,seval,-List.reduceReplicate,Try.results53]
      repeat' first|assumption|(simp (disch:=first|assumption|omega|(simp;done)|(simp;omega)) only[qaa,qac,List.take_of_length_le,qab,qae,qaf,qag,qah,qak];try simp only[go_sem,seval,-List.reduceReplicate,Try.results53])|(with_reducible refine And.intro ?_ ?_)|(with_reducible intro _)|((try rw[qad]);omega)
      have hN:c.vars.toNat=(qaS c cells place rs).length:=by rw[hAd,hAl]
      rw[←hAd]
      rw[←hcs] at hN ⊢
      exact qbB ⟨m,_,_,hm,by rw[hN],rfl⟩
end Go.Proofs
