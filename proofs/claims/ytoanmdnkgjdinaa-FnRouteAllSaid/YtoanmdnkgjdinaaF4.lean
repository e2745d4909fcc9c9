/- Law: every used net reaches everything that uses it. Conditions: none; lemmas. -/
import Derived.Test.YtoanmdnkgjdinaaF1
import Derived.Test.YtoanmdnkgjdinaaF3
set_option maxRecDepth 20000
set_option linter.unusedVariables false
set_option linter.unusedSimpArgs false
namespace Go.Proofs
open Go Go.VL
theorem Try.c_VarCountV (c:Circ) (h:c.Valid):Pure Try.prog 16 [dC c] (dI c.vars):=by
 have hcv:=Try.c_CircuitValid c
 rw[decide_eq_true h] at hcv
 have:=h.vars_bd
 have:=h.first_bd
 have:=h.i0
 have:=h.i1
 refine qan (E:=Try.env 0) Try.tok rfl 1000 Try.func16 rfl rfl Try.ntmps16 (by simp) fun ok=>?_
 simp only[go_sem,seval,-List.reduceReplicate] at ok
 simp only[go_sem,seval,-List.reduceReplicate,Try.results16]
 repeat' first|assumption|(simp (disch:=first|assumption|omega|(simp;done)|(simp;omega)) only[qaa,qac,List.take_of_length_le,qab,qae,qaf,qag,qah,qak];try simp only[go_sem,seval,-List.reduceReplicate,Try.results16])|(with_reducible refine And.intro ?_ ?_)|(with_reducible intro _)|(refine qai hcv ?_;simp only[go_sem,seval,-List.reduceReplicate,Try.results16])|(refine qai (Try.c_vars c (by omega)) ?_;simp only[go_sem,seval,-List.reduceReplicate,Try.results16])|((try rw[qad]);omega)
set_option maxHeartbeats 2000000 in
theorem Try.c_FnRouteAll (code:List Int):Pure Try.prog 3 [dUs code] (.bool true):=by
 refine qan (E:=Try.env 0) Try.tok rfl 1000 Try.func3 rfl rfl Try.ntmps3 (by simp) fun ok=>?_
 simp only[go_sem,seval,-List.reduceReplicate] at ok
 simp only[go_sem,seval,-List.reduceReplicate,Try.results3]
 repeat' first|assumption|(simp (disch:=first|assumption|omega|(simp;done)|(simp;omega)) only[qaa,qac,List.take_of_length_le,qab,qae,qaf,qag,qah,qak];try simp only[go_sem,seval,-List.reduceReplicate,Try.results3])|(with_reducible refine And.intro ?_ ?_)|(with_reducible intro _)|((try rw[qad]);omega)
 refine qdm (Try.c_DrawRoute code) ?_
 rintro x ⟨c,place,rfl,hc,hpl⟩
 have hR:=Try.c_Route c place
 have hS:=Try.c_sRoute c place
 cases hra:qaI c place [] with
 | none=>
  rw[hra] at hR hS
  have hR:Pure Try.prog 12 [dC c,dIs place] (.tup [.nil,dB false]):=hR
  have hS:PureF Try.prog 13 [dC c,dIs place] (.tup [dRts [],dB false]):=hS
  simp only[go_sem,seval,-List.reduceReplicate,Try.results3]
  repeat' first|assumption|(simp (disch:=first|assumption|omega|(simp;done)|(simp;omega)) only[qaa,qac,List.take_of_length_le,qab,qae,qaf,qag,qah,qak];try simp only[go_sem,seval,-List.reduceReplicate,Try.results3])|(with_reducible refine And.intro ?_ ?_)|(with_reducible intro _)|(refine qai hR ?_;simp only[go_sem,seval,-List.reduceReplicate,Try.results3])|(refine qbk hS ?_;simp only[go_sem,seval,-List.reduceReplicate,Try.results3])|(refine qai Try.c_alive ?_;simp only[go_sem,seval,-List.reduceReplicate,Try.results3])|((try rw[qad]);omega)
 | some rs=>
  rw[hra] at hR hS
  have hR:Pure Try.prog 12 [dC c,dIs place] (.tup [dRts rs,dB true]):=hR
  have hS:PureF Try.prog 13 [dC c,dIs place] (.tup [dRts rs,dB true]):=hS
  have hro:=qb4 hra
  obtain⟨hv,hp,-,busy,hRo⟩:=qcN hra
  have hce:=Try.c_Cells c hv
  have hvc:=Try.c_VarCountV c hv
  have hvb:=hv.vars_bd
  have hfb:=hv.first_bd
  have hlo:=hv.lo
  have hpdl:=fun n o=>qfb (c:=c) (net:=n) o
  have hcl:=qbi hv
  have hpn:=hp.len
  have hfw:=fun net h0 h1=>qmR hv hRo (net:=net) h0 h1
  have hre:=fun r hr=>qin hv hRo (r:=r) hr
  have hpr:=fun i hi=>hp.get (i:=i) hi
  generalize qaj c=cells at *
  simp only[go_sem,seval,-List.reduceReplicate,Try.results3]
  repeat' first|assumption|(simp (disch:=first|assumption|omega|(simp;done)|(simp;omega)) only[qaa,qac,List.take_of_length_le,qab,qae,qaf,qag,qah,qak];try simp only[go_sem,seval,-List.reduceReplicate,Try.results3])|(with_reducible refine And.intro ?_ ?_)|(with_reducible intro _)|(refine qai hR ?_;simp only[go_sem,seval,-List.reduceReplicate,Try.results3])|(refine qbk hS ?_;simp only[go_sem,seval,-List.reduceReplicate,Try.results3])|(refine qbk hce ?_;simp only[go_sem,seval,-List.reduceReplicate,Try.results3])|((try rw[qad]);omega)
  refine qao (E:=Try.env 0) Try.tok (σ:=Nat) (fun n=>[(3,.ptr 0 0),(4,.d (dIs place)),(5,.d (dRts rs)),(9,.d (dCes cells)),(10,.d (dI n))]) (fun _=>[.box [.d (dI c.inputs),.d (dIs c.next),.d (dPs c.gates),.d (dIs c.outs)]]) (fun n=>(n:Int)≤c.vars) (fun n=>c.vars.toNat-n) [] [] 1000 1000 ?_ ?_
  ·simp only[go_sem,seval,-List.reduceReplicate]
   exact⟨0,by omega,rfl⟩
  ·intro n hn
   by_cases hlt:(n:Int)<c.vars
   ·have hfn:=hfw (n:Int) (by omega) hlt
    simp only[go_sem,seval,-List.reduceReplicate,Try.results3]
    repeat' first|assumption|(simp (disch:=first|assumption|omega|(simp;done)|(simp;omega)) only[qaa,qac,List.take_of_length_le,qab,qae,qaf,qag,qah,qak];try simp only[go_sem,seval,-List.reduceReplicate,Try.results3])|(with_reducible refine And.intro ?_ ?_)|(with_reducible intro _)|(refine qai hvc ?_;simp only[go_sem,seval,-List.reduceReplicate,Try.results3])|((try rw[qad]);omega)
    refine qao (E:=Try.env 0) Try.tok (σ:=Nat) (fun i=>[(3,.ptr 0 0),(4,.d (dIs place)),(5,.d (dRts rs)),(9,.d (dCes cells)),(10,.d (dI n)),(11,.sl 1 (qbR cells place n i).length 1 0 (qbR cells place n i).length),(12,.d (dI i))])
     (fun i=>[.box [.d (dI c.inputs),.d (dIs c.next),.d (dPs c.gates),.d (dIs c.outs)],.row (qbR cells place n i).length 1 true ((qbR cells place n i).map (D.int .i64))]) (fun i=>i≤cells.length) (fun i=>cells.length-i) [] [] 1000 1000 ?_ ?_
    ·simp only[go_sem,seval,-List.reduceReplicate]
     exact⟨0,by omega,by simp[qbR]⟩
    ·intro i hi
     have hsl:=qi8 (cells:=cells) (place:=place) (net:=(n:Int)) i
     by_cases hit:i<cells.length
     ·have hsn:qbR cells place n (i+1)=qbR cells place n i++(if(n:Int)∈(cells.getD i ce0).inputs then [place.getD i 0] else []):=rfl
      have hpi:=hpr i hit
      have hct:=Try.c_contains (cells.getD i ce0).inputs (n:Int)
      generalize hx9:cells.getD i ce0=x at *
      generalize qbR cells place n i=q at *
      simp only[go_sem,seval,-List.reduceReplicate,Try.results3,hx9]
      repeat' first|assumption|(simp (disch:=first|assumption|omega|(simp;done)|(simp;omega)) only[qaa,qac,List.take_of_length_le,qab,qae,qaf,qag,qah,qak];try simp only[go_sem,seval,-List.reduceReplicate,Try.results3,hx9])|(with_reducible refine And.intro ?_ ?_)|(with_reducible intro _)|(refine qai hct ?_;simp only[go_sem,seval,-List.reduceReplicate,Try.results3,hx9])|((try rw[qad]);omega)
      ·rename_i h1
       rw[if_pos h1] at hsn
       refine⟨i+1,by omega,by omega,?_⟩
       rw[hsn]
       exact⟨⟨by simp,rfl⟩,by simp,rfl⟩
      ·rename_i h1
       rw[if_neg h1,List.append_nil] at hsn
       refine⟨i+1,by omega,by omega,?_⟩
       rw[hsn]
       exact⟨⟨rfl,rfl⟩,rfl,rfl⟩
     ·obtain rfl:i=cells.length:=by omega
      simp only[go_sem,seval,-List.reduceReplicate,Try.results3]
      repeat' first|assumption|(simp (disch:=first|assumption|omega|(simp;done)|(simp;omega)) only[qaa,qac,List.take_of_length_le,qab,qae,qaf,qag,qah,qak];try simp only[go_sem,seval,-List.reduceReplicate,Try.results3])|(with_reducible refine And.intro ?_ ?_)|(with_reducible intro _)|((try rw[qad]);omega)
      refine qao (E:=Try.env 0) Try.tok (σ:=Nat) (fun o=>[(3,.ptr 0 0),(4,.d (dIs place)),(5,.d (dRts rs)),(9,.d (dCes cells)),(10,.d (dI n)),(11,.sl 1 (qbR cells place n cells.length++qaL c n o).length 1 0 (qbR cells place n cells.length++qaL c n o).length),(13,.d (dI o))])
       (fun o=>[.box [.d (dI c.inputs),.d (dIs c.next),.d (dPs c.gates),.d (dIs c.outs)],.row (qbR cells place n cells.length++qaL c n o).length 1 true ((qbR cells place n cells.length++qaL c n o).map (D.int .i64))]) (fun o=>o≤c.outs.length) (fun o=>c.outs.length-o) [] [] 1000 1000 ?_ ?_
      ·simp only[go_sem,seval,-List.reduceReplicate]
       exact⟨0,by omega,by simp[qaL]⟩
      ·intro o ho
       by_cases hot:o<c.outs.length
       ·have hps:qaL c n (o+1)=qaL c n o++(if c.outs.getD o 0/2=n then [(o:Int)*5+4] else []):=rfl
        have hqa : ∀ l:List Int,qbR cells place n cells.length++(qaL c n o++l)=(qbR cells place n cells.length++qaL c n o)++l:=fun l=>(List.append_assoc ..).symm
        have hqb:(qbR cells place n cells.length++qaL c n o).length≤100:=by
         have:=hpdl n o
         rw[List.length_append];omega
        have hql:(qbR cells place n cells.length++qaL c n o).length=(qbR cells place n cells.length).length+(qaL c n o).length:=List.length_append ..
        generalize hq9:qbR cells place n cells.length++qaL c n o=q at *
        have hoo:=hv.o _ (qal hot:c.outs.getD o 0∈c.outs)
        unfold qbc at hoo
        generalize hx9:c.outs.getD o 0=x at *
        have hr:=qab (y:=2) hoo.1
        simp only[go_sem,seval,-List.reduceReplicate,Try.results3,hx9]
        repeat' first|assumption|(simp (disch:=first|assumption|omega|(simp;done)|(simp;omega)) only[qaa,qac,List.take_of_length_le,qab,qae,qaf,qag,qah,qak];try simp only[go_sem,seval,-List.reduceReplicate,Try.results3,hx9,hr])|(with_reducible refine And.intro ?_ ?_)|(with_reducible intro _)|((try rw[qad]);omega)
        ·rename_i h1
         rw[if_pos h1] at hps
         refine⟨o+1,by omega,by omega,?_⟩
         rw[hps,hqa]
         have e5:(o:Int)*5+5-1=(o:Int)*5+4:=by omega
         rw[e5]
         refine⟨⟨?_,rfl⟩,?_,rfl⟩ <;> (rw[List.length_append,List.length_singleton];omega)
        ·rename_i h1
         rw[if_neg h1,List.append_nil] at hps
         refine⟨o+1,by omega,by omega,?_⟩
         rw[hps]
         exact⟨⟨by omega,rfl⟩,by omega,hq9.symm⟩
       ·obtain rfl:o=c.outs.length:=by omega
        simp only[go_sem,seval,-List.reduceReplicate,Try.results3]
        repeat' first|assumption|(simp (disch:=first|assumption|omega|(simp;done)|(simp;omega)) only[qaa,qac,List.take_of_length_le,qab,qae,qaf,qag,qah,qak];try simp only[go_sem,seval,-List.reduceReplicate,Try.results3])|(with_reducible refine And.intro ?_ ?_)|(with_reducible intro _)|((try rw[qad]);omega)
        rw[←qfp]
        have hSl:(qfp c cells place n).length=(qbR cells place n cells.length).length+(qaL c n c.outs.length).length:=List.length_append ..
        have hSb:(qfp c cells place n).length≤100:=by
         have:=hpdl n c.outs.length
         omega
        rw[←hSl]
        generalize hS9:qfp c cells place n=S at *
        have hcb:=qoC rs n
        refine qao (E:=Try.env 0) Try.tok (σ:=Nat) (fun i=>[(3,.ptr 0 0),(4,.d (dIs place)),(5,.d (dRts rs)),(9,.d (dCes cells)),(10,.d (dI n)),(11,.d (dIs S)),(14,.d (dI (cntR rs n i))),(15,.d (dI i))])
         (fun i=>[.box [.d (dI c.inputs),.d (dIs c.next),.d (dPs c.gates),.d (dIs c.outs)]]) (fun i=>i≤rs.length) (fun i=>rs.length-i) [] [] 1000 1000 ?_ ?_
        ·simp only[go_sem,seval,-List.reduceReplicate]
         refine⟨0,by omega,?_⟩
         exact⟨rfl,rfl⟩
        ·intro i hi
         have hci:=hcb i
         by_cases hit:i<rs.length
         ·have hcs:cntR rs n (i+1)=if(rs.getD i rt0).net=n then cntR rs n i+1 else cntR rs n i:=rfl
          have hxm:rs.getD i rt0∈rs:=qal hit
          have hrx:=hre _ hxm
          have hhl:=hro.hops _ hxm
          have hrl:=hro.len
          have htree:=(hRo.each _ hxm).tree
          generalize hx9:rs.getD i rt0=x at *
          generalize cntR rs n i=cn at *
          simp only[go_sem,seval,-List.reduceReplicate,Try.results3,hx9]
          repeat' first|assumption|(simp (disch:=first|assumption|omega|(simp;done)|(simp;omega)) only[qaa,qac,List.take_of_length_le,qab,qae,qaf,qag,qah,qak];try simp only[go_sem,seval,-List.reduceReplicate,Try.results3,hx9])|(with_reducible refine And.intro ?_ ?_)|(with_reducible intro _)|((try rw[qad]);omega)
          ·rename_i h1
           rw[if_neg h1] at hcs
           exact⟨i+1,by omega,by omega,hcs.symm,rfl⟩
          rename_i h1
          rw[if_pos h1] at hcs
          rw[h1,hS9] at hrx
          obtain⟨hre1,hre2⟩:=hrx
          refine qao (E:=Try.env 0) Try.tok (σ:=Nat) (fun k=>[(3,.ptr 0 0),(4,.d (dIs place)),(5,.d (dRts rs)),(9,.d (dCes cells)),(10,.d (dI n)),(11,.d (dIs S)),(14,.d (dI (cn+1))),(15,.d (dI i)),(16,.sl 1 k 1 0 k),(17,.d (dI k))])
           (fun k=>[.box [.d (dI c.inputs),.d (dIs c.next),.d (dPs c.gates),.d (dIs c.outs)],.row k 1 true ((qaq (x.hops.take k)).map (D.int .i64))]) (fun k=>k≤x.hops.length) (fun k=>x.hops.length-k) [] [] 1000 1000 ?_ ?_
          ·simp only[go_sem,seval,-List.reduceReplicate]
           exact⟨0,by omega,by simp[qaq]⟩
          ·intro k hk
           have hql:(qaq (x.hops.take k)).length=k:=by simp[qaq];omega
           by_cases hkt:k<x.hops.length
           ·have hts:qaq (x.hops.take (k+1))=qaq (x.hops.take k) ++ [(x.hops.getD k (0,0)).1]:=qaX (0,0) hkt
            have hr:=htree.rng _ (qal hkt:x.hops.getD k (0,0)∈x.hops)
            generalize qaq (x.hops.take k)=Tk at *
            generalize hu9:x.hops.getD k (0,0)=u at *
            simp only[go_sem,seval,-List.reduceReplicate,Try.results3,hx9,hu9]
            repeat' first|assumption|(simp (disch:=first|assumption|omega|(simp;done)|(simp;omega)) only[qaa,qac,List.take_of_length_le,qab,qae,qaf,qag,qah,qak];try simp only[go_sem,seval,-List.reduceReplicate,Try.results3,hx9,hu9,hql])|(with_reducible refine And.intro ?_ ?_)|(with_reducible intro _)|((try rw[qad]);omega)
            refine⟨k+1,by omega,by omega,rfl,rfl,?_⟩
            rw[hts]
           ·obtain rfl:k=x.hops.length:=by omega
            rw[List.take_length]
            rw[List.take_length] at hql
            have ht0:(qaq x.hops).getD 0 0=(x.hops.getD 0 (0,0)).1:=by simp[qaq,List.getD,htree.pos]
            have hpos:=htree.pos
            have hct:=fun t=>Try.c_contains (qaq x.hops) t
            rw[hre2] at ht0
            generalize qaq x.hops=T at *
            simp only[go_sem,seval,-List.reduceReplicate,Try.results3,hx9]
            repeat' first|assumption|(simp (disch:=first|assumption|omega|(simp;done)|(simp;omega)) only[qaa,qac,List.take_of_length_le,qab,qae,qaf,qag,qah,qak];try simp only[go_sem,seval,-List.reduceReplicate,Try.results3,hx9,hql])|(with_reducible refine And.intro ?_ ?_)|(with_reducible intro _)|((try rw[qad]);omega)
            refine qao (E:=Try.env 0) Try.tok (σ:=Nat) (fun k=>[(3,.ptr 0 0),(4,.d (dIs place)),(5,.d (dRts rs)),(9,.d (dCes cells)),(10,.d (dI n)),(11,.d (dIs S)),(14,.d (dI (cn+1))),(15,.d (dI i)),(16,.d (dIs T)),(18,.d (dI k))])
             (fun k=>[.box [.d (dI c.inputs),.d (dIs c.next),.d (dPs c.gates),.d (dIs c.outs)]]) (fun k=>k≤S.length) (fun k=>S.length-k) [] [] 1000 1000 ?_ ?_
            ·simp only[go_sem,seval,-List.reduceReplicate]
             refine⟨0,by omega,?_⟩
             exact⟨List.take_of_length_le (by omega),rfl⟩
            ·intro m hm
             by_cases hmt:m<S.length
             ·have hct2:=hct (S.getD m 0)
              rw[decide_eq_true (hre1 _ (qal hmt))] at hct2
              generalize hw9:S.getD m 0=w at *
              simp only[go_sem,seval,-List.reduceReplicate,Try.results3,hw9]
              repeat' first|assumption|(simp (disch:=first|assumption|omega|(simp;done)|(simp;omega)) only[qaa,qac,List.take_of_length_le,qab,qae,qaf,qag,qah,qak];try simp only[go_sem,seval,-List.reduceReplicate,Try.results3,hw9])|(with_reducible refine And.intro ?_ ?_)|(with_reducible intro _)|(refine qai hct2 ?_;simp only[go_sem,seval,-List.reduceReplicate,Try.results3,hw9])|((try rw[qad]);omega)
              exact⟨m+1,by omega,by omega,rfl⟩
             ·simp only[go_sem,seval,-List.reduceReplicate,Try.results3]
              repeat' first|assumption|(simp (disch:=first|assumption|omega|(simp;done)|(simp;omega)) only[qaa,qac,List.take_of_length_le,qab,qae,qaf,qag,qah,qak];try simp only[go_sem,seval,-List.reduceReplicate,Try.results3])|(with_reducible refine And.intro ?_ ?_)|(with_reducible intro _)|((try rw[qad]);omega)
              refine qao (E:=Try.env 0) Try.tok (σ:=Nat) (fun k=>[(3,.ptr 0 0),(4,.d (dIs place)),(5,.d (dRts rs)),(9,.d (dCes cells)),(10,.d (dI n)),(11,.d (dIs S)),(14,.d (dI (cn+1))),(15,.d (dI i)),(16,.d (dIs T)),(19,.d (dI (srcK cells place n k))),(20,.d (dI k))])
               (fun k=>[.box [.d (dI c.inputs),.d (dIs c.next),.d (dPs c.gates),.d (dIs c.outs)]]) (fun k=>k≤cells.length) (fun k=>cells.length-k) [] [] 1000 1000 ?_ ?_
              ·simp only[go_sem,seval,-List.reduceReplicate]
               refine⟨0,by omega,?_⟩
               exact⟨rfl,rfl⟩
              ·intro k hk
               by_cases hkt:k<cells.length
               ·have hpk:=hpr k hkt
                have hsk:srcK cells place n (k+1)=if(cells.getD k ce0).net=n then place.getD k 0 else srcK cells place n k:=rfl
                generalize hy9:cells.getD k ce0=y at *
                generalize srcK cells place n k=z at *
                simp only[go_sem,seval,-List.reduceReplicate,Try.results3,hy9]
                repeat' first|assumption|(simp (disch:=first|assumption|omega|(simp;done)|(simp;omega)) only[qaa,qac,List.take_of_length_le,qab,qae,qaf,qag,qah,qak];try simp only[go_sem,seval,-List.reduceReplicate,Try.results3,hy9])|(with_reducible refine And.intro ?_ ?_)|(with_reducible intro _)|((try rw[qad]);omega)
                ·rename_i h7
                 rw[if_pos h7] at hsk
                 exact⟨k+1,by omega,by omega,hsk.symm,rfl⟩
                ·rename_i h7
                 rw[if_neg h7] at hsk
                 exact⟨k+1,by omega,by omega,hsk.symm,rfl⟩
               ·obtain rfl:k=cells.length:=by omega
                simp only[go_sem,seval,-List.reduceReplicate,Try.results3,ht0]
                repeat' first|assumption|(simp (disch:=first|assumption|omega|(simp;done)|(simp;omega)) only[qaa,qac,List.take_of_length_le,qab,qae,qaf,qag,qah,qak];try simp only[go_sem,seval,-List.reduceReplicate,Try.results3,ht0])|(with_reducible refine And.intro ?_ ?_)|(with_reducible intro _)|((try rw[qad]);omega)
                exact⟨i+1,by omega,by omega,hcs.symm,rfl⟩
         ·obtain rfl:i=rs.length:=by omega
          by_cases h5:(0:Int)<n∧S≠[]
          ·rw[if_pos h5] at hfn
           have h6:0<S.length:=List.length_pos_iff.2 h5.2
           simp only[go_sem,seval,-List.reduceReplicate,Try.results3]
           repeat' first|assumption|(simp (disch:=first|assumption|omega|(simp;done)|(simp;omega)) only[qaa,qac,List.take_of_length_le,qab,qae,qaf,qag,qah,qak];try simp only[go_sem,seval,-List.reduceReplicate,Try.results3])|(with_reducible refine And.intro ?_ ?_)|(with_reducible intro _)|((try rw[qad]);omega)
           exact⟨n+1,by omega,by omega,rfl⟩
          ·rw[if_neg h5] at hfn
           have h6 : ¬ ((0:Int)<n∧0<S.length):=fun h=>h5 ⟨h.1,List.length_pos_iff.1 h.2⟩
           simp only[go_sem,seval,-List.reduceReplicate,Try.results3]
           repeat' first|assumption|(simp (disch:=first|assumption|omega|(simp;done)|(simp;omega)) only[qaa,qac,List.take_of_length_le,qab,qae,qaf,qag,qah,qak];try simp only[go_sem,seval,-List.reduceReplicate,Try.results3])|(with_reducible refine And.intro ?_ ?_)|(with_reducible intro _)|((try rw[qad]);omega)
           exact⟨n+1,by omega,by omega,rfl⟩
   ·obtain rfl:n=c.vars.toNat:=by omega
    simp only[go_sem,seval,-List.reduceReplicate,Try.results3]
    repeat' first|assumption|(simp (disch:=first|assumption|omega|(simp;done)|(simp;omega)) only[qaa,qac,List.take_of_length_le,qab,qae,qaf,qag,qah,qak];try simp only[go_sem,seval,-List.reduceReplicate,Try.results3])|(with_reducible refine And.intro ?_ ?_)|(with_reducible intro _)|(refine qai hvc ?_;simp only[go_sem,seval,-List.reduceReplicate,Try.results3])|((try rw[qad]);omega)
end Go.Proofs
