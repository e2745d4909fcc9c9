/- Contracts: the reference's cells, sinks and pins. Conditions: none; lemmas. -/
import Derived.Test.YtagfdhingigaoaaC71
import Derived.Test.YtagfdhingigaoaaC62
set_option maxRecDepth 20000
set_option linter.unusedVariables false
set_option linter.unusedSimpArgs false
namespace Go.Proofs
open Go Go.VL
abbrev dCe (x:Cel):D:=.agg [dI x.net,dIs x.inputs,dI x.table,dB x.reg]
abbrev dCes (l:List Cel):D:=.lst 4 (l.map fun x=>dCe x)
theorem qao {l:List Cel}{i:Nat}{z:D}(h:i<l.length):(l.map fun x=>dCe x).getD i z=dCe (l.getD i ce0):=getD_lt _ _ _ _ _ h
def dLat (c:Circ) (i:Nat):D:=if(c.next.getD i 0)/2 > 0 then dCe (qb7 c i) else .agg [dI (c.inputs+1+(i:Int)),.nil,dI ((c.next.getD i 0)%2),dB true]
theorem dLat_wk (c:Circ) (i:Nat):WK (dLat c i) (dCe (qb7 c i)):=by
 unfold dLat
 split
 ·exact .refl _
 ·rename_i h
  have e:qb7 c i=⟨c.inputs+1+i,[],(c.next.getD i 0)%2,true⟩:=if_neg h
  rw[e]
  exact .aggs ⟨.refl _,.nil (by omega),.refl _,.refl _,trivial⟩
theorem qox (c:Circ):WK (.lst 4 ((List.range c.next.length).map (dLat c)++(qfn c).map fun l=>dCe (qcq l))) (dCes (qcH c)):=by
 have e:(qcH c).map (fun x=>dCe x)=(List.range c.next.length).map (fun i=>dCe (qb7 c i))++(qfn c).map fun l=>dCe (qcq l):=by
  rw[qcH,List.map_append,List.map_map,List.map_map];rfl
 show WK _ (.lst 4 ((qcH c).map fun x=>dCe x))
 rw[e]
 refine .lst (by simp) fun j hj=>?_
 by_cases h:j<c.next.length
 ·rw[qaw (by simpa using h),qaw (by simpa using h)]
  simp only[List.getD_eq_getElem?_getD,List.getElem?_map,List.getElem?_range h,Option.map_some,Option.getD_some]
  exact dLat_wk c j
 ·rw[List.getD_eq_getElem?_getD,List.getD_eq_getElem?_getD,List.getElem?_append_right (by simpa using h),List.getElem?_append_right (by simpa using h)]
  simp only[List.length_map,List.length_range]
  exact .refl _
theorem Try.c_l6Cells (c:Circ) (hc:c.Valid):Pure Try.prog 37 [dC c] (dCes (qcH c)):=by
 have hmp:=Try.c_l5Map c hc
 have hln:=hc.ln
 have hll:=qiZ hc
 have hlg:=hc.lg
 have hlk:=qf3 hc
 have hi0:=hc.i0
 have hi1:=hc.i1
 refine Pure.res ?_ (qox c)
 refine qat (E:=Try.env 0) Try.tok rfl 1000 Try.func37 rfl rfl Try.ntmps37 (by simp) fun ok=>?_
 simp only[go_sem,seval] at ok
 simp only[go_sem,seval,Try.results37]
 repeat' first|assumption|(simp (disch:=first|assumption|omega|(simp;done)|(simp;omega)) only[List.take_of_length_le,qab,qaI,qao];try simp only[go_sem,seval,Try.results37])|(with_reducible first|apply And.intro|intro _)|(refine qac ?_;simp only[go_sem,seval,Try.results37])|exact lexT|((try rw[qaa]);omega)
 refine qas (E:=Try.env 0) Try.tok (σ:=Nat) (fun i=>[(0,.d (dC c)),(1,.ptr 0 0),(3,.sl 1 i 4 0 i),(4,.d (dI i))]) (fun i=>[.box [.d (dI c.inputs),.d (dIs c.next),.d (dPs c.gates),.d (dIs c.outs)],.row i 4 true ((List.range i).map (dLat c))]) (fun i=>i≤c.next.length) (fun i=>c.next.length-i) [] [] 1000 1000 ?_ ?_
 ·simp only[go_sem,seval]
  exact⟨0,by omega,by simp⟩
 ·intro i hi
  have hrl:((List.range i).map (dLat c)).length=i:=by simp
  have hrs:(List.range (i+1)).map (dLat c)=(List.range i).map (dLat c) ++ [dLat c i]:=by rw[List.range_succ,List.map_append];rfl
  by_cases hlt:i<c.next.length
  ·have hno:=hc.n _ (qan hlt:c.next.getD i 0∈c.next)
   unfold qba at hno
   have hld:dLat c i=if(c.next.getD i 0)/2 > 0 then dCe (qb7 c i) else .agg [dI (c.inputs+1+(i:Int)),.nil,dI ((c.next.getD i 0)%2),dB true]:=rfl
   have hlc:qb7 c i=if(c.next.getD i 0)/2 > 0 then⟨c.inputs+1+i,[(c.next.getD i 0)/2],2-(c.next.getD i 0)%2,true⟩ else⟨c.inputs+1+i,[],(c.next.getD i 0)%2,true⟩:=rfl
   generalize (List.range i).map (dLat c)=q at *
   have hr:=qab (y:=2) hno.1
   simp only[go_sem,seval,Try.results37]
   repeat' first|assumption|(simp (disch:=first|assumption|omega|(simp;done)|(simp;omega)) only[List.take_of_length_le,qab,qaI,qao];try simp only[go_sem,seval,Try.results37,hr,hrl])|(with_reducible first|apply And.intro|intro _)|(refine qac ?_;simp only[go_sem,seval,Try.results37,hr,hrl])|exact lexT|((try rw[qaa]);omega)
   ·rename_i h9
    refine⟨i+1,by omega,by omega,rfl,rfl,?_⟩
    rw[hrs,hld,if_pos (by omega),hlc,if_pos (by omega)]
    rfl
   ·rename_i h9
    refine⟨i+1,by omega,by omega,rfl,rfl,?_⟩
    rw[hrs,hld,if_neg (by omega)]
  ·obtain rfl:i=c.next.length:=by omega
   simp only[go_sem,seval,Try.results37]
   repeat' first|assumption|(simp (disch:=first|assumption|omega|(simp;done)|(simp;omega)) only[List.take_of_length_le,qab,qaI,qao];try simp only[go_sem,seval,Try.results37])|(with_reducible first|apply And.intro|intro _)|(refine qcO hmp ?_;simp only[go_sem,seval,Try.results37])|(refine qac ?_;simp only[go_sem,seval,Try.results37])|exact lexT|((try rw[qaa]);omega)
   generalize (List.range c.next.length).map (dLat c)=q at *
   have hlv : ∀ l∈qfn c,l.leaves.length≤3:=fun l hl=>by
    obtain⟨m,hm,rfl⟩:=hlk.each l hl
    exact(qei hc hm).2.1
   generalize qfn c=luts at *
   refine qas (E:=Try.env 0) Try.tok (σ:=Nat) (fun i=>[(3,.sl 1 (c.next.length+i) 4 0 (c.next.length+i)),(7,.d (dLus luts)),(8,.d (dI i))]) (fun i=>[.dead 0,.row (c.next.length+i) 4 true (q++(luts.take i).map fun l=>dCe (qcq l))]) (fun i=>i≤luts.length) (fun i=>luts.length-i) [] [] 1000 1000 ?_ ?_
   ·simp only[go_sem,seval]
    exact⟨0,by omega,by simp⟩
   ·intro i hi
    by_cases hlt:i<luts.length
    ·have hlv2:=hlv _ (qan hlt:luts.getD i lu0∈luts)
     have hts:(luts.take (i+1)).map (fun l=>dCe (qcq l))=(luts.take i).map (fun l=>dCe (qcq l)) ++ [dCe (qcq (luts.getD i lu0))]:=qdA lu0 hlt
     have hql:(q++(luts.take i).map fun l=>dCe (qcq l)).length=c.next.length+i:=by simp[hrl];omega
     have hqa:q++(luts.take (i+1)).map (fun l=>dCe (qcq l))=(q++(luts.take i).map fun l=>dCe (qcq l)) ++ [dCe (qcq (luts.getD i lu0))]:=by rw[hts,List.append_assoc]
     generalize hd9:luts.getD i lu0=x at *
     generalize (q++(luts.take i).map fun l=>dCe (qcq l))=q2 at *
     simp only[go_sem,seval,Try.results37]
     repeat' first|assumption|(simp (disch:=first|assumption|omega|(simp;done)|(simp;omega)) only[List.take_of_length_le,qab,qaI,qao];try simp only[go_sem,seval,Try.results37,hd9,hql])|(with_reducible first|apply And.intro|intro _)|(refine qac ?_;simp only[go_sem,seval,Try.results37,hd9,hql])|exact lexT|((try rw[qaa]);omega)
     refine qau (E:=Try.env 0) Try.tok Try.follows 1000 1000 [12,20] (fsts [0,1,2,3,4,7,8,9,10,13,14,15,16,11] (.three 5 (.two 6 (.two 12 (.one 17 (.fst 18 (.one 19 (.one 20 (.fst 21 .done))))) 17 (.one 12 (.fst 18 (.one 19 (.one 20 (.fst 21 .done)))))) 17 (.one 6 (.one 12 (.fst 18 (.one 19 (.one 20 (.fst 21 .done))))))) 6 (.three 5 (.two 12 (.one 17 (.fst 18 (.one 19 (.one 20 (.fst 21 .done))))) 17 (.one 12 (.fst 18 (.one 19 (.one 20 (.fst 21 .done)))))) 12 (.two 5 (.one 17 (.fst 18 (.one 19 (.one 20 (.fst 21 .done))))) 17 (.one 5 (.fst 18 (.one 19 (.one 20 (.fst 21 .done)))))) 17 (.two 5 (.one 12 (.fst 18 (.one 19 (.one 20 (.fst 21 .done))))) 12 (.one 5 (.fst 18 (.one 19 (.one 20 (.fst 21 .done))))))) 17 (.two 5 (.one 6 (.one 12 (.fst 18 (.one 19 (.one 20 (.fst 21 .done)))))) 6 (.two 5 (.one 12 (.fst 18 (.one 19 (.one 20 (.fst 21 .done))))) 12 (.one 5 (.fst 18 (.one 19 (.one 20 (.fst 21 .done))))))))) (by kernel_rfl) ?_
     simp only[go_sem,seval,Try.results37,hd9,hql]
     repeat' first|assumption|(simp (disch:=first|assumption|omega|(simp;done)|(simp;omega)) only[List.take_of_length_le,qab,qaI,qao];try simp only[go_sem,seval,Try.results37,hd9,hql])|(with_reducible first|apply And.intro|intro _)|(refine qac ?_;simp only[go_sem,seval,Try.results37,hd9,hql])|exact lexT|((try rw[qaa]);omega)
     refine⟨i+1,by omega,by omega,⟨by omega,rfl⟩,by omega,?_⟩
     rw[hqa,←hql]
     exact qkw
    ·simp only[go_sem,seval,Try.results37]
     repeat' first|assumption|(simp (disch:=first|assumption|omega|(simp;done)|(simp;omega)) only[List.take_of_length_le,qab,qaI,qao];try simp only[go_sem,seval,Try.results37])|(with_reducible first|apply And.intro|intro _)|(refine qac ?_;simp only[go_sem,seval,Try.results37])|exact lexT|((try rw[qaa]);omega)
theorem Try.c_l6Sinks (cells:List Cel) (net:Int) (hl:cells.length≤100) (hi : ∀ x∈cells,x.inputs.length≤100):Pure Try.prog 57 [dCes cells,dI net] (dIs (qfK cells net)):=by
 refine qat (E:=Try.env 0) Try.tok rfl 1000 Try.func57 rfl rfl Try.ntmps57 (by simp) fun ok=>?_
 simp only[go_sem,seval] at ok
 simp only[go_sem,seval,Try.results57]
 repeat' first|assumption|(simp (disch:=first|assumption|omega|(simp;done)|(simp;omega)) only[List.take_of_length_le,qab,qaI,qao];try simp only[go_sem,seval,Try.results57])|(with_reducible first|apply And.intro|intro _)|(refine qac ?_;simp only[go_sem,seval,Try.results57])|exact lexT|((try rw[qaa]);omega)
 refine qas (E:=Try.env 0) Try.tok (σ:=Nat) (fun i=>[(0,.d (dCes cells)),(1,.d (dI net)),(5,.sl 0 (qbz cells net i).length 1 0 (qbz cells net i).length),(6,.d (dI i))]) (fun i=>[.row (qbz cells net i).length 1 true ((qbz cells net i).map (D.int .i64))]) (fun i=>i≤cells.length∧(qbz cells net i).length≤100*i) (fun i=>cells.length-i) [] [] 1000 1000 ?_ ?_
 ·simp only[go_sem,seval]
  exact⟨0,⟨by omega,by simp[qbz]⟩,by simp[qbz]⟩
 ·rintro i ⟨hii,hsl⟩
  by_cases hlt:i<cells.length
  ·have hin:=hi _ (qan hlt:cells.getD i ce0∈cells)
   have hsn:qbz cells net (i+1)=qbz cells net i++qfJ (cells.getD i ce0) net i:=rfl
   have hus:qfJ (cells.getD i ce0) net i=((cells.getD i ce0).inputs.filter fun z=>decide (z=net)).map fun _=>(i:Int):=rfl
   generalize hd9:cells.getD i ce0=x at *
   generalize qbz cells net i=q at *
   simp only[go_sem,seval,Try.results57]
   repeat' first|assumption|(simp (disch:=first|assumption|omega|(simp;done)|(simp;omega)) only[List.take_of_length_le,qab,qaI,qao];try simp only[go_sem,seval,Try.results57])|(with_reducible first|apply And.intro|intro _)|(refine qac ?_;simp only[go_sem,seval,Try.results57])|exact lexT|((try rw[qaa]);omega)
   refine qas (E:=Try.env 0) Try.tok (σ:=Nat×List Int) (fun s=>[(0,.d (dCes cells)),(1,.d (dI net)),(5,.sl 0 s.2.length 1 0 s.2.length),(6,.d (dI i)),(7,.d (dI s.1))]) (fun s=>[.row s.2.length 1 true (s.2.map (D.int .i64))])
    (fun s=>s.1≤x.inputs.length∧s.2.length≤100*i+s.1∧s.2=q++((x.inputs.take s.1).filter fun z=>decide (z=net)).map fun _=>(i:Int)) (fun s=>x.inputs.length-s.1) [] [] 1000 1000 ?_ ?_
   ·simp only[go_sem,seval]
    exact⟨(0,q),⟨by simp,by simp only;omega,by simp⟩,by simp⟩
   ·rintro⟨k,o⟩ ⟨hk,hol,ho⟩
    simp only at hk hol ho
    by_cases hkt:k<x.inputs.length
    ·have hts:(x.inputs.take (k+1)).filter (fun z=>decide (z=net))=(x.inputs.take k).filter (fun z=>decide (z=net))++(if x.inputs.getD k 0=net then [x.inputs.getD k 0] else []):=by
      rw[List.take_succ_eq_append_getElem hkt,List.filter_append]
      congr 1
      have e:x.inputs.getD k 0=x.inputs[k]:=by simp[List.getD,hkt]
      rw[e]
      by_cases h:x.inputs[k]=net <;> simp[h]
     simp only[go_sem,seval,Try.results57]
     repeat' first|assumption|(simp (disch:=first|assumption|omega|(simp;done)|(simp;omega)) only[List.take_of_length_le,qab,qaI,qao];try simp only[go_sem,seval,Try.results57,hd9])|(with_reducible first|apply And.intro|intro _)|(refine qac ?_;simp only[go_sem,seval,Try.results57,hd9])|exact lexT|((try rw[qaa]);omega)
     ·rename_i h9
      refine⟨(k+1,o ++ [(i:Int)]),⟨by simp only;omega,by simp only[List.length_append,List.length_singleton];omega,?_⟩,by simp only;omega,by simp,by simp⟩
      show o ++ [(i:Int)]=q++((x.inputs.take (k+1)).filter _).map _
      rw[hts,if_pos h9,List.map_append,←List.append_assoc,←ho]
      rfl
     ·rename_i h9
      refine⟨(k+1,o),⟨by simp only;omega,by simp only;omega,?_⟩,by simp only;omega,⟨rfl,rfl⟩,rfl,rfl⟩
      show o=q++((x.inputs.take (k+1)).filter _).map _
      rw[hts,if_neg h9,List.append_nil]
      exact ho
    ·have e:o=qbz cells net (i+1):=by rw[hsn,hus,ho,List.take_of_length_le (by omega)]
     simp only[go_sem,seval,Try.results57]
     repeat' first|assumption|(simp (disch:=first|assumption|omega|(simp;done)|(simp;omega)) only[List.take_of_length_le,qab,qaI,qao];try simp only[go_sem,seval,Try.results57,hd9])|(with_reducible first|apply And.intro|intro _)|(refine qac ?_;simp only[go_sem,seval,Try.results57,hd9])|exact lexT|((try rw[qaa]);omega)
     refine⟨i+1,⟨by omega,by rw[←e];omega⟩,by omega,?_⟩
     rw[←e]
     exact⟨⟨rfl,rfl⟩,rfl,rfl⟩
  ·simp only[go_sem,seval,Try.results57]
   repeat' first|assumption|(simp (disch:=first|assumption|omega|(simp;done)|(simp;omega)) only[List.take_of_length_le,qab,qaI,qao];try simp only[go_sem,seval,Try.results57])|(with_reducible first|apply And.intro|intro _)|(refine qac ?_;simp only[go_sem,seval,Try.results57])|exact lexT|((try rw[qaa]);omega)
   rw[qfK,show i=cells.length by omega]
theorem Try.c_l7Dist (tiles:List Int) (h : ∀ t∈tiles,0≤t∧t≤24):Pure Try.prog 56 [dIs tiles] (dI (qjW tiles)):=by
 refine qat (E:=Try.env 0) Try.tok rfl 1000 Try.func56 rfl rfl Try.ntmps56 (by simp) fun ok=>?_
 simp only[go_sem,seval] at ok
 simp only[go_sem,seval,Try.results56]
 repeat' first|assumption|(simp (disch:=first|assumption|omega|(simp;done)|(simp;omega)) only[List.take_of_length_le,qab,qaI,qao];try simp only[go_sem,seval,Try.results56])|(with_reducible first|apply And.intro|intro _)|(refine qac ?_;simp only[go_sem,seval,Try.results56])|exact lexT|((try rw[qaa]);omega)
 ·rename_i h9
  have:tiles=[]:=List.length_eq_zero_iff.1 (by omega)
  rw[this];rfl
 rename_i h9
 have hne:tiles≠[]:=by rintro rfl;exact h9 rfl
 have hdc:qjW tiles=(boxC tiles).2.1-(boxC tiles).1+(boxC tiles).2.2.2-(boxC tiles).2.2.1:=if_neg hne
 have hbb:=qmO h
 rw[hdc]
 refine qaH (E:=Try.env 0) Try.tok (σ:=Nat) (fun i=>[(0,.d (dIs tiles)),(2,.d (dI 0)),(3,.d (dI ((tiles.take i).foldl boxF (5,0,5,0)).1)),(4,.d (dI ((tiles.take i).foldl boxF (5,0,5,0)).2.1)),(5,.d (dI ((tiles.take i).foldl boxF (5,0,5,0)).2.2.1)),(6,.d (dI ((tiles.take i).foldl boxF (5,0,5,0)).2.2.2)),(7,.d (dI i))]) (fun _=>[]) (fun i=>i≤tiles.length) (fun i=>tiles.length-i) [] 1000 1000 ?_ ?_ ?_
 ·simp only[go_sem,seval]
 ·simp only[go_sem,seval]
  exact⟨0,by omega,by simp⟩
 ·intro i hi
  by_cases hlt:i<tiles.length
  ·have hts:=qaR (f:=boxF) (b:=(5,0,5,0)) (0:Int) hlt
   have ht:=h _ (qan hlt:tiles.getD i 0∈tiles)
   have hr:=qab (y:=5) ht.1
   generalize (tiles.take i).foldl boxF (5,0,5,0)=s at *
   obtain⟨s1,s2,s3,s4⟩:=s
   simp only[go_sem,seval,Try.results56]
   repeat' first|assumption|(simp (disch:=first|assumption|omega|(simp;done)|(simp;omega)) only[List.take_of_length_le,qab,qaI,qao];try simp only[go_sem,seval,Try.results56,hr])|(with_reducible first|apply And.intro|intro _)|(refine qac ?_;simp only[go_sem,seval,Try.results56,hr])|exact lexT|((try rw[qaa]);omega)
   refine⟨i+1,by omega,by omega,?_⟩
   rw[hts]
   simp[boxF]
  ·have e:tiles.take i=tiles:=List.take_of_length_le (by omega)
   rw[e,←boxC]
   simp only[go_sem,seval,Try.results56]
   repeat' first|assumption|(simp (disch:=first|assumption|omega|(simp;done)|(simp;omega)) only[List.take_of_length_le,qab,qaI,qao];try simp only[go_sem,seval,Try.results56])|(with_reducible first|apply And.intro|intro _)|(refine qac ?_;simp only[go_sem,seval,Try.results56])|exact lexT|((try rw[qaa]);omega)
theorem Try.c_l7Has (l:List Int) (n:Int):Pure Try.prog 58 [dIs l,dI n] (.bool (decide (n∈l))):=by
 refine qat (E:=Try.env 0) Try.tok rfl 1000 Try.func58 rfl rfl Try.ntmps58 (by simp) fun ok=>?_
 simp only[go_sem,seval] at ok
 simp only[go_sem,seval,Try.results58]
 repeat' first|assumption|(simp (disch:=first|assumption|omega|(simp;done)|(simp;omega)) only[List.take_of_length_le,qab,qaI,qao];try simp only[go_sem,seval,Try.results58])|(with_reducible first|apply And.intro|intro _)|(refine qac ?_;simp only[go_sem,seval,Try.results58])|exact lexT|((try rw[qaa]);omega)
 refine qaH (E:=Try.env 0) Try.tok (σ:=Nat) (fun i=>[(0,.d (dIs l)),(1,.d (dI n)),(4,.d (dB false)),(5,.d (dI i))]) (fun _=>[]) (fun i=>i≤l.length∧∀ j,j<i→l.getD j 0≠n) (fun i=>l.length-i) [] 1000 1000 ?_ ?_ ?_
 ·simp only[go_sem,seval]
 ·simp only[go_sem,seval]
  exact⟨0,⟨by omega,by omega⟩,rfl⟩
 ·rintro i ⟨hi,hinv⟩
  by_cases hlt:i<l.length
  ·simp only[go_sem,seval,Try.results58]
   repeat' first|assumption|(simp (disch:=first|assumption|omega|(simp;done)|(simp;omega)) only[List.take_of_length_le,qab,qaI,qao];try simp only[go_sem,seval,Try.results58])|(with_reducible first|apply And.intro|intro _)|(refine qac ?_;simp only[go_sem,seval,Try.results58])|exact lexT|((try rw[qaa]);omega)
   ·rename_i h9
    rw[←h9,decide_eq_true (qan hlt)]
   ·rename_i h9
    refine⟨i+1,⟨by omega,fun j hj=>?_⟩,by omega,rfl⟩
    by_cases hji:j=i
    ·subst hji;exact h9
    ·exact hinv j (by omega)
  ·simp only[go_sem,seval,Try.results58]
   repeat' first|assumption|(simp (disch:=first|assumption|omega|(simp;done)|(simp;omega)) only[List.take_of_length_le,qab,qaI,qao];try simp only[go_sem,seval,Try.results58])|(with_reducible first|apply And.intro|intro _)|(refine qac ?_;simp only[go_sem,seval,Try.results58])|exact lexT|((try rw[qaa]);omega)
   simp only[false_eq_decide_iff]
   intro hm
   obtain⟨j,hj,he⟩:=qbb 0 hm
   exact hinv j (by omega) he
def qcI (c:Circ) (cells:List Cel) (place:List Int) (net:Int) (i:Nat):List Int:=qg9 c net++qbc cells place net i
theorem qhD {c:Circ}{cells:List Cel}{place:List Int}{net:Int}{i:Nat}:qcI c cells place net (i+1)=qcI c cells place net i++(if(cells.getD i ce0).net=net then [place.getD i 0] else []):=by
 rw[qcI,qcI,List.append_assoc];rfl
theorem Try.c_l7Pins (c:Circ) (hc:c.Valid) (cells:List Cel) (hcl:cells.length≤25) (hci : ∀ x∈cells,x.inputs.length≤3) (place:List Int) (hp:PlaceOk cells.length place) (net:Int) (hn : -100≤net∧net≤100) :
  Pure Try.prog 49 [dC c,dCes cells,dIs place,dI net] (dIs (qdL c cells place net)):=by
 have hlo:=hc.lo
 have hi0:=hc.i0
 have hi1:=hc.i1
 have hsk:=Try.c_l6Sinks cells net (by omega) (fun x hx=>by have:=hci x hx;omega)
 have hpl:=hp.len
 refine qat (E:=Try.env 0) Try.tok rfl 1000 Try.func49 rfl rfl Try.ntmps49 (by simp) fun ok=>?_
 simp only[go_sem,seval] at ok
 simp only[go_sem,seval,Try.results49]
 repeat' first|assumption|(simp (disch:=first|assumption|omega|(simp;done)|(simp;omega)) only[List.take_of_length_le,qab,qaI,qao];try simp only[go_sem,seval,Try.results49])|(with_reducible first|apply And.intro|intro _)|(refine qag hsk ?_;simp only[go_sem,seval,Try.results49])|(refine qac ?_;simp only[go_sem,seval,Try.results49])|exact lexT|((try rw[qaa]);omega)
 have hbox:[I.d (dI c.inputs),I.d (dIs c.next),I.d (dPs c.gates),I.d (dIs c.outs)]=[I.d (dI c.inputs),I.d (dIs c.next),I.d (dPs c.gates),I.d (dIs c.outs)]:=rfl
 have hsm : ∀ z∈qfK cells net,0≤z∧z<cells.length:=fun z hz=>by
  obtain⟨m,hm,-,rfl⟩:=qej.1 hz
  omega
 have hsl:(qfK cells net).length≤3*cells.length:=by
  have key : ∀ n,n≤cells.length→(qbz cells net n).length≤3*n:=by
   intro n
   induction n with
   | zero=>intro _;simp[qbz]
   | succ n ih=>
    intro h
    have h1:=ih (by omega)
    have h2:=hci _ (qan (by omega):cells.getD n ce0∈cells)
    have h3:(qfJ (cells.getD n ce0) net n).length≤(cells.getD n ce0).inputs.length:=by
     simp only[qfJ,List.length_map];exact List.length_filter_le _ _
    rw[qbz,List.length_append];omega
  exact key _ (Nat.le_refl _)
 have hstd:qbA c cells place net=(qfK cells net).map (qfL place)++qbI c net c.outs.length:=rfl
 have hpn:qdL c cells place net=if qbA c cells place net=[] then [] else(qbA c cells place net).foldl addU (qg9 c net++qbc cells place net cells.length):=rfl
 generalize qfK cells net=list at *
 refine qas (E:=Try.env 0) Try.tok (σ:=Nat) (fun i=>[(0,.d (dC c)),(1,.d (dCes cells)),(2,.d (dIs place)),(3,.d (dI net)),(4,.ptr 0 0),(9,.sl 1 i 1 0 i),(10,.d (dIs list)),(11,.d (dI i))]) (fun i=>[.box [.d (dI c.inputs),.d (dIs c.next),.d (dPs c.gates),.d (dIs c.outs)],.row i 1 true (((list.take i).map (qfL place)).map (D.int .i64))])
  (fun i=>i≤list.length) (fun i=>list.length-i) [] [] 1000 1000 ?_ ?_
 ·simp only[go_sem,seval]
  exact⟨0,by omega,by simp⟩
 ·intro i hi
  have hql:((list.take i).map (qfL place)).length=i:=by simp;omega
  by_cases hlt:i<list.length
  ·have hz:=hsm _ (qan hlt:list.getD i 0∈list)
   have hts:(list.take (i+1)).map (qfL place)=(list.take i).map (qfL place) ++ [place.getD (list.getD i 0).toNat 0]:=qdA 0 hlt
   generalize (list.take i).map (qfL place)=q at *
   simp only[go_sem,seval,Try.results49]
   repeat' first|assumption|(simp (disch:=first|assumption|omega|(simp;done)|(simp;omega)) only[List.take_of_length_le,qab,qaI,qao];try simp only[go_sem,seval,Try.results49,hql])|(with_reducible first|apply And.intro|intro _)|(refine qac ?_;simp only[go_sem,seval,Try.results49,hql])|exact lexT|((try rw[qaa]);omega)
   refine⟨i+1,by omega,by omega,?_⟩
   repeat' apply And.intro
   all_goals first|rfl|(rw[hts])
  ·rw[show list.take i=list from List.take_of_length_le (by omega)]
   rw[show list.take i=list from List.take_of_length_le (by omega)] at hql
   obtain rfl:i=list.length:=by omega
   generalize hq9:list.map (qfL place)=q at *
   simp only[go_sem,seval,Try.results49]
   repeat' first|assumption|(simp (disch:=first|assumption|omega|(simp;done)|(simp;omega)) only[List.take_of_length_le,qab,qaI,qao];try simp only[go_sem,seval,Try.results49,hql])|(with_reducible first|apply And.intro|intro _)|(refine qac ?_;simp only[go_sem,seval,Try.results49,hql])|exact lexT|((try rw[qaa]);omega)
   refine qas (E:=Try.env 0) Try.tok (σ:=Nat) (fun o=>[(0,.d (dC c)),(1,.d (dCes cells)),(2,.d (dIs place)),(3,.d (dI net)),(4,.ptr 0 0),(9,.sl 1 (q++qbI c net o).length 1 0 (q++qbI c net o).length),(12,.d (dI o))]) (fun o=>[.box [.d (dI c.inputs),.d (dIs c.next),.d (dPs c.gates),.d (dIs c.outs)],.row (q++qbI c net o).length 1 true ((q++qbI c net o).map (D.int .i64))])
    (fun o=>o≤c.outs.length∧(qbI c net o).length≤o) (fun o=>c.outs.length-o) [] [] 1000 1000 ?_ ?_
   ·simp only[go_sem,seval]
    refine⟨0,⟨by omega,by simp[qbI]⟩,?_⟩
    simp[qbI]
    omega
   ·rintro o ⟨ho,hpo⟩
    have hps:qbI c net (o+1)=qbI c net o++(if c.outs.getD o 0/2=net then [(o:Int)*5+4] else []):=rfl
    have hq2:(q++qbI c net o).length=list.length+(qbI c net o).length:=by simp;omega
    by_cases hot:o<c.outs.length
    ·generalize qbI c net o=p at *
     have hqa : ∀ l:List Int,q++(p++l)=(q++p)++l:=fun l=>(List.append_assoc _ _ _).symm
     generalize hqq:q++p=q2 at *
     have hout:=hc.o _ (qan hot:c.outs.getD o 0∈c.outs)
     have hout0:0≤c.outs.getD o 0:=hout.1
     simp only[go_sem,seval,Try.results49]
     repeat' first|assumption|(simp (disch:=first|assumption|omega|(simp;done)|(simp;omega)) only[List.take_of_length_le,qab,qaI,qao];try simp only[go_sem,seval,Try.results49])|(with_reducible first|apply And.intro|intro _)|(refine qac ?_;simp only[go_sem,seval,Try.results49])|exact lexT|((try rw[qaa]);omega)
     ·rename_i h9
      rw[if_pos h9] at hps
      refine⟨o+1,⟨by omega,by rw[hps,List.length_append,List.length_singleton];omega⟩,by omega,?_⟩
      rw[hps,hqa,show(o:Int)*5+5-1=(o:Int)*5+4 by omega]
      have e3:q2.length+1=list.length+(p ++ [(o:Int)*5+4]).length:=by simp;omega
      repeat' apply And.intro
      all_goals first|rfl|omega|(simp;omega)
     ·rename_i h9
      rw[if_neg h9,List.append_nil] at hps
      refine⟨o+1,⟨by omega,by rw[hps];omega⟩,by omega,?_⟩
      rw[hps]
      repeat' apply And.intro
      all_goals first|rfl|omega|exact hqq.symm|(rw[hqq];done)|(simp;omega)
    ·obtain rfl:o=c.outs.length:=by omega
     rw[←hstd]
     rw[←hstd] at hq2
     rw[hpn,show qg9 c net++qbc cells place net cells.length=qcI c cells place net cells.length from rfl]
     generalize hst9:qbA c cells place net=sk at *
     by_cases hsk0:sk=[]
     ·rw[if_pos hsk0]
      subst hsk0
      simp only[go_sem,seval,Try.results49]
      repeat' first|assumption|(simp (disch:=first|assumption|omega|(simp;done)|(simp;omega)) only[List.take_of_length_le,qab,qaI,qao];try simp only[go_sem,seval,Try.results49])|(with_reducible first|apply And.intro|intro _)|(refine qac ?_;simp only[go_sem,seval,Try.results49])|exact lexT|((try rw[qaa]);omega)
     rw[if_neg hsk0]
     have hskp:0<sk.length:=List.length_pos_iff.2 hsk0
     by_cases hsn:1≤net∧net≤c.inputs
     ·have hsi:qg9 c net=[(net-1)*5]:=if_pos hsn
      simp only[go_sem,seval,Try.results49]
      repeat' first|assumption|(simp (disch:=first|assumption|omega|(simp;done)|(simp;omega)) only[List.take_of_length_le,qab,qaI,qao];try simp only[go_sem,seval,Try.results49])|(with_reducible first|apply And.intro|intro _)|(refine qac ?_;simp only[go_sem,seval,Try.results49])|exact lexT|((try rw[qaa]);omega)
      have hskl:sk.length≤100:=by omega
      refine qas (E:=Try.env 0) Try.tok (σ:=Nat) (fun i=>[(0,.d (dC c)),(1,.d (dCes cells)),(2,.d (dIs place)),(3,.d (dI net)),(4,.ptr 0 0),(9,.sl 1 sk.length 1 0 sk.length),(13,.sl 2 (qcI c cells place net i).length 1 0 (qcI c cells place net i).length),(14,.d (dI i))]) (fun i=>[.box [.d (dI c.inputs),.d (dIs c.next),.d (dPs c.gates),.d (dIs c.outs)],.row sk.length 1 true (sk.map (D.int .i64)),.row (qcI c cells place net i).length 1 true ((qcI c cells place net i).map (D.int .i64))])
       (fun i=>i≤cells.length∧(qcI c cells place net i).length≤1+i) (fun i=>cells.length-i) [] [] 1000 1000 ?_ ?_
      ·simp only[go_sem,seval]
       refine⟨0,⟨by omega,by simp[qcI,hsi,qbc]⟩,?_⟩
       simp[qcI,hsi,qbc]
      ·rintro i ⟨hi,hil⟩
       have hss:=qhD (c:=c) (cells:=cells) (place:=place) (net:=net) (i:=i)
       by_cases hit:i<cells.length
       ·generalize hx9:cells.getD i ce0=x at *
        generalize qcI c cells place net i=out at *
        simp only[go_sem,seval,Try.results49]
        repeat' first|assumption|(simp (disch:=first|assumption|omega|(simp;done)|(simp;omega)) only[List.take_of_length_le,qab,qaI,qao];try simp only[go_sem,seval,Try.results49,hx9])|(with_reducible first|apply And.intro|intro _)|(refine qac ?_;simp only[go_sem,seval,Try.results49,hx9])|exact lexT|((try rw[qaa]);omega)
        ·rename_i h9
         rw[if_pos h9] at hss
         refine⟨i+1,?_⟩
         rw[hss]
         refine⟨⟨by omega,by simp;omega⟩,by omega,?_⟩
         repeat' apply And.intro
         all_goals first|rfl|(simp;done)|(simp;omega)
        ·rename_i h9
         rw[if_neg h9,List.append_nil] at hss
         refine⟨i+1,?_⟩
         rw[hss]
         refine⟨⟨by omega,by omega⟩,by omega,?_⟩
         repeat' apply And.intro
         all_goals rfl
       ·obtain rfl:i=cells.length:=by omega
        generalize qcI c cells place net cells.length=src at *
        simp only[go_sem,seval,Try.results49]
        repeat' first|assumption|(simp (disch:=first|assumption|omega|(simp;done)|(simp;omega)) only[List.take_of_length_le,qab,qaI,qao];try simp only[go_sem,seval,Try.results49])|(with_reducible first|apply And.intro|intro _)|(refine qac ?_;simp only[go_sem,seval,Try.results49])|exact lexT|((try rw[qaa]);omega)
        refine qas (E:=Try.env 0) Try.tok (σ:=Nat) (fun j=>[(9,.sl 1 sk.length 1 0 sk.length),(13,.sl 2 ((sk.take j).foldl addU src).length 1 0 ((sk.take j).foldl addU src).length),(15,.d (dI j))]) (fun j=>[.dead 0,.row sk.length 1 true (sk.map (D.int .i64)),.row ((sk.take j).foldl addU src).length 1 true (((sk.take j).foldl addU src).map (D.int .i64))])
         (fun j=>j≤sk.length∧((sk.take j).foldl addU src).length≤100+j) (fun j=>sk.length-j) [] [] 1000 1000 ?_ ?_
        ·simp only[go_sem,seval]
         refine⟨0,⟨by omega,by simp;omega⟩,?_⟩
         simp
        ·rintro j ⟨hj,hjl⟩
         by_cases hjt:j<sk.length
         ·have hfs:=qaR (f:=addU) (b:=src) (0:Int) hjt
          have hha:=Try.c_l7Has ((sk.take j).foldl addU src) (sk.getD j 0)
          generalize (sk.take j).foldl addU src=o2 at *
          simp only[go_sem,seval,Try.results49]
          repeat' first|assumption|(simp (disch:=first|assumption|omega|(simp;done)|(simp;omega)) only[List.take_of_length_le,qab,qaI,qao];try simp only[go_sem,seval,Try.results49])|(with_reducible first|apply And.intro|intro _)|(refine qag hha ?_;simp only[go_sem,seval,Try.results49])|(refine qac ?_;simp only[go_sem,seval,Try.results49])|exact lexT|((try rw[qaa]);omega)
          ·rename_i h9
           have e:(sk.take (j+1)).foldl addU src=o2 ++ [sk.getD j 0]:=by rw[hfs,addU,if_neg h9]
           refine⟨j+1,?_⟩
           rw[e]
           refine⟨⟨by omega,by simp;omega⟩,by omega,?_⟩
           repeat' apply And.intro
           all_goals first|rfl|(simp;done)
          ·rename_i h9
           have e:(sk.take (j+1)).foldl addU src=o2:=by rw[hfs,addU,if_pos h9]
           refine⟨j+1,?_⟩
           rw[e]
           refine⟨⟨by omega,by omega⟩,by omega,?_⟩
           repeat' apply And.intro
           all_goals rfl
         ·have e:sk.take j=sk:=List.take_of_length_le (by omega)
          rw[e]
          simp only[go_sem,seval,Try.results49]
          repeat' first|assumption|(simp (disch:=first|assumption|omega|(simp;done)|(simp;omega)) only[List.take_of_length_le,qab,qaI,qao];try simp only[go_sem,seval,Try.results49])|(with_reducible first|apply And.intro|intro _)|(refine qac ?_;simp only[go_sem,seval,Try.results49])|exact lexT|((try rw[qaa]);omega)
     ·have hsi:qg9 c net=[]:=if_neg hsn
      simp only[go_sem,seval,Try.results49]
      repeat' first|assumption|(simp (disch:=first|assumption|omega|(simp;done)|(simp;omega)) only[List.take_of_length_le,qab,qaI,qao];try simp only[go_sem,seval,Try.results49])|(with_reducible first|apply And.intro|intro _)|(refine qac ?_;simp only[go_sem,seval,Try.results49])|exact lexT|((try rw[qaa]);omega)
      have hskl:sk.length≤100:=by omega
      refine qas (E:=Try.env 0) Try.tok (σ:=Nat) (fun i=>[(0,.d (dC c)),(1,.d (dCes cells)),(2,.d (dIs place)),(3,.d (dI net)),(4,.ptr 0 0),(9,.sl 1 sk.length 1 0 sk.length),(13,.sl 2 (qcI c cells place net i).length 1 0 (qcI c cells place net i).length),(14,.d (dI i))]) (fun i=>[.box [.d (dI c.inputs),.d (dIs c.next),.d (dPs c.gates),.d (dIs c.outs)],.row sk.length 1 true (sk.map (D.int .i64)),.row (qcI c cells place net i).length 1 true ((qcI c cells place net i).map (D.int .i64))])
       (fun i=>i≤cells.length∧(qcI c cells place net i).length≤1+i) (fun i=>cells.length-i) [] [] 1000 1000 ?_ ?_
      ·simp only[go_sem,seval]
       refine⟨0,⟨by omega,by simp[qcI,hsi,qbc]⟩,?_⟩
       simp[qcI,hsi,qbc]
      ·rintro i ⟨hi,hil⟩
       have hss:=qhD (c:=c) (cells:=cells) (place:=place) (net:=net) (i:=i)
       by_cases hit:i<cells.length
       ·generalize hx9:cells.getD i ce0=x at *
        generalize qcI c cells place net i=out at *
        simp only[go_sem,seval,Try.results49]
        repeat' first|assumption|(simp (disch:=first|assumption|omega|(simp;done)|(simp;omega)) only[List.take_of_length_le,qab,qaI,qao];try simp only[go_sem,seval,Try.results49,hx9])|(with_reducible first|apply And.intro|intro _)|(refine qac ?_;simp only[go_sem,seval,Try.results49,hx9])|exact lexT|((try rw[qaa]);omega)
        ·rename_i h9
         rw[if_pos h9] at hss
         refine⟨i+1,?_⟩
         rw[hss]
         refine⟨⟨by omega,by simp;omega⟩,by omega,?_⟩
         repeat' apply And.intro
         all_goals first|rfl|(simp;done)|(simp;omega)
        ·rename_i h9
         rw[if_neg h9,List.append_nil] at hss
         refine⟨i+1,?_⟩
         rw[hss]
         refine⟨⟨by omega,by omega⟩,by omega,?_⟩
         repeat' apply And.intro
         all_goals rfl
       ·obtain rfl:i=cells.length:=by omega
        generalize qcI c cells place net cells.length=src at *
        simp only[go_sem,seval,Try.results49]
        repeat' first|assumption|(simp (disch:=first|assumption|omega|(simp;done)|(simp;omega)) only[List.take_of_length_le,qab,qaI,qao];try simp only[go_sem,seval,Try.results49])|(with_reducible first|apply And.intro|intro _)|(refine qac ?_;simp only[go_sem,seval,Try.results49])|exact lexT|((try rw[qaa]);omega)
        refine qas (E:=Try.env 0) Try.tok (σ:=Nat) (fun j=>[(9,.sl 1 sk.length 1 0 sk.length),(13,.sl 2 ((sk.take j).foldl addU src).length 1 0 ((sk.take j).foldl addU src).length),(15,.d (dI j))]) (fun j=>[.dead 0,.row sk.length 1 true (sk.map (D.int .i64)),.row ((sk.take j).foldl addU src).length 1 true (((sk.take j).foldl addU src).map (D.int .i64))])
         (fun j=>j≤sk.length∧((sk.take j).foldl addU src).length≤100+j) (fun j=>sk.length-j) [] [] 1000 1000 ?_ ?_
        ·simp only[go_sem,seval]
         refine⟨0,⟨by omega,by simp;omega⟩,?_⟩
         simp
        ·rintro j ⟨hj,hjl⟩
         by_cases hjt:j<sk.length
         ·have hfs:=qaR (f:=addU) (b:=src) (0:Int) hjt
          have hha:=Try.c_l7Has ((sk.take j).foldl addU src) (sk.getD j 0)
          generalize (sk.take j).foldl addU src=o2 at *
          simp only[go_sem,seval,Try.results49]
          repeat' first|assumption|(simp (disch:=first|assumption|omega|(simp;done)|(simp;omega)) only[List.take_of_length_le,qab,qaI,qao];try simp only[go_sem,seval,Try.results49])|(with_reducible first|apply And.intro|intro _)|(refine qag hha ?_;simp only[go_sem,seval,Try.results49])|(refine qac ?_;simp only[go_sem,seval,Try.results49])|exact lexT|((try rw[qaa]);omega)
          ·rename_i h9
           have e:(sk.take (j+1)).foldl addU src=o2 ++ [sk.getD j 0]:=by rw[hfs,addU,if_neg h9]
           refine⟨j+1,?_⟩
           rw[e]
           refine⟨⟨by omega,by simp;omega⟩,by omega,?_⟩
           repeat' apply And.intro
           all_goals first|rfl|(simp;done)
          ·rename_i h9
           have e:(sk.take (j+1)).foldl addU src=o2:=by rw[hfs,addU,if_pos h9]
           refine⟨j+1,?_⟩
           rw[e]
           refine⟨⟨by omega,by omega⟩,by omega,?_⟩
           repeat' apply And.intro
           all_goals rfl
         ·have e:sk.take j=sk:=List.take_of_length_le (by omega)
          rw[e]
          simp only[go_sem,seval,Try.results49]
          repeat' first|assumption|(simp (disch:=first|assumption|omega|(simp;done)|(simp;omega)) only[List.take_of_length_le,qab,qaI,qao];try simp only[go_sem,seval,Try.results49])|(with_reducible first|apply And.intro|intro _)|(refine qac ?_;simp only[go_sem,seval,Try.results49])|exact lexT|((try rw[qaa]);omega)
end Go.Proofs
