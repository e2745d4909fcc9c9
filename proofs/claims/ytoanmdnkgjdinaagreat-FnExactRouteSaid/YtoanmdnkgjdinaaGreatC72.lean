/- Contracts: the reference's cells, sinks and pins. Conditions: none; lemmas. -/
import Derived.Test.YtoanmdnkgjdinaaGreatC62
set_option maxRecDepth 20000
set_option linter.unusedVariables false
set_option linter.unusedSimpArgs false
namespace Go.Proofs
open Go Go.VL
abbrev dCe (x:Cel):D:=.agg [dI x.net,dIs x.inputs,dI x.table,dB x.reg]
abbrev dCes (l:List Cel):D:=.lst 4 (l.map fun x=>dCe x)
theorem qah {l:List Cel}{i:Nat}{z:D}(h:i<l.length):(l.map fun x=>dCe x).getD i z=dCe (l.getD i ce0):=getD_lt _ _ _ _ _ h
def dLat (c:Circ) (i:Nat):D:=if(c.next.getD i 0)/2 > 0 then dCe (qbw c i) else .agg [dI (c.inputs+1+(i:Int)),.nil,dI ((c.next.getD i 0)%2),dB true]
theorem dLat_wk (c:Circ) (i:Nat):WK (dLat c i) (dCe (qbw c i)):=by
 unfold dLat
 split
 ·exact .refl _
 ·rename_i h
  have e:qbw c i=⟨c.inputs+1+i,[],(c.next.getD i 0)%2,true⟩:=if_neg h
  rw[e]
  exact .aggs ⟨.refl _,.nil (by omega),.refl _,.refl _,trivial⟩
theorem qlH (c:Circ):WK (.lst 4 ((List.range c.next.length).map (dLat c)++(qdu c).map fun l=>dCe (qbn l))) (dCes (qan c)):=by
 have e:(qan c).map (fun x=>dCe x)=(List.range c.next.length).map (fun i=>dCe (qbw c i))++(qdu c).map fun l=>dCe (qbn l):=by
  rw[qan,List.map_append,List.map_map,List.map_map];rfl
 show WK _ (.lst 4 ((qan c).map fun x=>dCe x))
 rw[e]
 refine .lst (by simp) fun j hj=>?_
 by_cases h:j<c.next.length
 ·rw[qay (by simpa using h),qay (by simpa using h)]
  simp only[List.getD_eq_getElem?_getD,List.getElem?_map,List.getElem?_range h,Option.map_some,Option.getD_some]
  exact dLat_wk c j
 ·rw[List.getD_eq_getElem?_getD,List.getD_eq_getElem?_getD,List.getElem?_append_right (by simpa using h),List.getElem?_append_right (by simpa using h)]
  simp only[List.length_map,List.length_range]
  exact .refl _
theorem Tryz.c_l6Cells (c:Circ) (hc:c.Valid):Pure Tryz.prog 39 [dC c] (dCes (qan c)):=by
 have hmp:=Tryz.c_l5Map c hc
 have hln:=hc.ln
 have hll:=qhP hc
 have hlg:=hc.lg
 have hlk:=qd9 hc
 have hi0:=hc.i0
 have hi1:=hc.i1
 refine Pure.res ?_ (qlH c)
 refine qam (E:=Tryz.env 0) Tryz.tok rfl 1000 Tryz.func39 rfl rfl Tryz.ntmps39 (by simp) fun ok=>?_
 simp only[go_sem,seval] at ok
 simp only[go_sem,seval,Tryz.results39]
 repeat' first|assumption|(simp (disch:=first|assumption|omega|(simp;done)|(simp;omega)) only[qaa,qac,List.take_of_length_le,qab,qae,qaf,qag,qah];try simp only[go_sem,seval,Tryz.results39])|(with_reducible refine And.intro ?_ ?_)|(with_reducible intro _)|((try rw[qad]);omega)
 refine qaq (E:=Tryz.env 0) Tryz.tok (σ:=Nat) (fun i=>[(0,.d (dC c)),(1,.ptr 0 0),(3,.sl 1 i 4 0 i),(4,.d (dI i))]) (fun i=>[.box [.d (dI c.inputs),.d (dIs c.next),.d (dPs c.gates),.d (dIs c.outs)],.row i 4 true ((List.range i).map (dLat c))]) (fun i=>i≤c.next.length) (fun i=>c.next.length-i) [] [] 1000 1000 ?_ ?_
 ·simp only[go_sem,seval]
  exact⟨0,by omega,by simp⟩
 ·intro i hi
  have hrl:((List.range i).map (dLat c)).length=i:=by simp
  have hrs:(List.range (i+1)).map (dLat c)=(List.range i).map (dLat c) ++ [dLat c i]:=by rw[List.range_succ,List.map_append];rfl
  by_cases hlt:i<c.next.length
  ·have hno:=hc.n _ (qak hlt:c.next.getD i 0∈c.next)
   unfold qbe at hno
   have hld:dLat c i=if(c.next.getD i 0)/2 > 0 then dCe (qbw c i) else .agg [dI (c.inputs+1+(i:Int)),.nil,dI ((c.next.getD i 0)%2),dB true]:=rfl
   have hlc:qbw c i=if(c.next.getD i 0)/2 > 0 then⟨c.inputs+1+i,[(c.next.getD i 0)/2],2-(c.next.getD i 0)%2,true⟩ else⟨c.inputs+1+i,[],(c.next.getD i 0)%2,true⟩:=rfl
   generalize (List.range i).map (dLat c)=q at *
   have hr:=qab (y:=2) hno.1
   simp only[go_sem,seval,Tryz.results39]
   repeat' first|assumption|(simp (disch:=first|assumption|omega|(simp;done)|(simp;omega)) only[qaa,qac,List.take_of_length_le,qab,qae,qaf,qag,qah];try simp only[go_sem,seval,Tryz.results39,hr,hrl])|(with_reducible refine And.intro ?_ ?_)|(with_reducible intro _)|((try rw[qad]);omega)
   ·rename_i h9
    refine⟨i+1,by omega,by omega,rfl,rfl,?_⟩
    rw[hrs,hld,if_pos (by omega),hlc,if_pos (by omega)]
    rfl
   ·rename_i h9
    refine⟨i+1,by omega,by omega,rfl,rfl,?_⟩
    rw[hrs,hld,if_neg (by omega)]
  ·obtain rfl:i=c.next.length:=by omega
   simp only[go_sem,seval,Tryz.results39]
   repeat' first|assumption|(simp (disch:=first|assumption|omega|(simp;done)|(simp;omega)) only[qaa,qac,List.take_of_length_le,qab,qae,qaf,qag,qah];try simp only[go_sem,seval,Tryz.results39])|(with_reducible refine And.intro ?_ ?_)|(with_reducible intro _)|(refine qbt hmp ?_;simp only[go_sem,seval,Tryz.results39])|((try rw[qad]);omega)
   generalize (List.range c.next.length).map (dLat c)=q at *
   have hlv : ∀ l∈qdu c,l.leaves.length≤3:=fun l hl=>by
    obtain⟨m,hm,rfl⟩:=hlk.each l hl
    exact(qd8 hc hm).2.1
   generalize qdu c=luts at *
   refine qaq (E:=Tryz.env 0) Tryz.tok (σ:=Nat) (fun i=>[(3,.sl 1 (c.next.length+i) 4 0 (c.next.length+i)),(7,.d (dLus luts)),(8,.d (dI i))]) (fun i=>[.dead 0,.row (c.next.length+i) 4 true (q++(luts.take i).map fun l=>dCe (qbn l))]) (fun i=>i≤luts.length) (fun i=>luts.length-i) [] [] 1000 1000 ?_ ?_
   ·simp only[go_sem,seval]
    exact⟨0,by omega,by simp⟩
   ·intro i hi
    by_cases hlt:i<luts.length
    ·have hlv2:=hlv _ (qak hlt:luts.getD i lu0∈luts)
     have hts:(luts.take (i+1)).map (fun l=>dCe (qbn l))=(luts.take i).map (fun l=>dCe (qbn l)) ++ [dCe (qbn (luts.getD i lu0))]:=qaV lu0 hlt
     have hql:(q++(luts.take i).map fun l=>dCe (qbn l)).length=c.next.length+i:=by simp[hrl];omega
     have hqa:q++(luts.take (i+1)).map (fun l=>dCe (qbn l))=(q++(luts.take i).map fun l=>dCe (qbn l)) ++ [dCe (qbn (luts.getD i lu0))]:=by rw[hts,List.append_assoc]
     generalize hd9:luts.getD i lu0=x at *
     generalize (q++(luts.take i).map fun l=>dCe (qbn l))=q2 at *
     simp only[go_sem,seval,Tryz.results39]
     repeat' first|assumption|(simp (disch:=first|assumption|omega|(simp;done)|(simp;omega)) only[qaa,qac,List.take_of_length_le,qab,qae,qaf,qag,qah];try simp only[go_sem,seval,Tryz.results39,hd9,hql])|(with_reducible refine And.intro ?_ ?_)|(with_reducible intro _)|((try rw[qad]);omega)
     refine qdd (E:=Tryz.env 0) Tryz.tok Tryz.follows 1000 1000 [] (.fst 0 (.fst 1 (.fst 2 (.fst 3 (.fst 4 (.fst 7 (.fst 8 (.fst 9 (.fst 10 (.fst 13 (.fst 14 (.fst 15 (.fst 16 (.fst 5 (.fst 11 (.fst 17 (.one 6 (.one 12 (.fst 18 (.one 19 (.one 20 (.fst 21 (.done))))))))))))))))))))))) (by kernel_rfl) ?_
     simp only[go_sem,seval,Tryz.results39,hd9,hql]
     repeat' first|assumption|(simp (disch:=first|assumption|omega|(simp;done)|(simp;omega)) only[qaa,qac,List.take_of_length_le,qab,qae,qaf,qag,qah];try simp only[go_sem,seval,Tryz.results39,hd9,hql])|(with_reducible refine And.intro ?_ ?_)|(with_reducible intro _)|((try rw[qad]);omega)
     refine⟨i+1,by omega,by omega,⟨by omega,rfl⟩,by omega,?_⟩
     rw[hqa,←hql]
     exact qlC
    ·simp only[go_sem,seval,Tryz.results39]
     repeat' first|assumption|(simp (disch:=first|assumption|omega|(simp;done)|(simp;omega)) only[qaa,qac,List.take_of_length_le,qab,qae,qaf,qag,qah];try simp only[go_sem,seval,Tryz.results39])|(with_reducible refine And.intro ?_ ?_)|(with_reducible intro _)|((try rw[qad]);omega)
theorem Tryz.c_l6Sinks (cells:List Cel) (net:Int) (hl:cells.length≤100) (hi : ∀ x∈cells,x.inputs.length≤100):Pure Tryz.prog 93 [dCes cells,dI net] (dIs (qcU cells net)):=by
 refine qam (E:=Tryz.env 0) Tryz.tok rfl 1000 Tryz.func93 rfl rfl Tryz.ntmps93 (by simp) fun ok=>?_
 simp only[go_sem,seval] at ok
 simp only[go_sem,seval,Tryz.results93]
 repeat' first|assumption|(simp (disch:=first|assumption|omega|(simp;done)|(simp;omega)) only[qaa,qac,List.take_of_length_le,qab,qae,qaf,qag,qah];try simp only[go_sem,seval,Tryz.results93])|(with_reducible refine And.intro ?_ ?_)|(with_reducible intro _)|((try rw[qad]);omega)
 refine qaq (E:=Tryz.env 0) Tryz.tok (σ:=Nat) (fun i=>[(0,.d (dCes cells)),(1,.d (dI net)),(5,.sl 0 (qaZ cells net i).length 1 0 (qaZ cells net i).length),(6,.d (dI i))]) (fun i=>[.row (qaZ cells net i).length 1 true ((qaZ cells net i).map (D.int .i64))]) (fun i=>i≤cells.length∧(qaZ cells net i).length≤100*i) (fun i=>cells.length-i) [] [] 1000 1000 ?_ ?_
 ·simp only[go_sem,seval]
  exact⟨0,⟨by omega,by simp[qaZ]⟩,by simp[qaZ]⟩
 ·rintro i ⟨hii,hsl⟩
  by_cases hlt:i<cells.length
  ·have hin:=hi _ (qak hlt:cells.getD i ce0∈cells)
   have hsn:qaZ cells net (i+1)=qaZ cells net i++qeG (cells.getD i ce0) net i:=rfl
   have hus:qeG (cells.getD i ce0) net i=((cells.getD i ce0).inputs.filter fun z=>decide (z=net)).map fun _=>(i:Int):=rfl
   generalize hd9:cells.getD i ce0=x at *
   generalize qaZ cells net i=q at *
   simp only[go_sem,seval,Tryz.results93]
   repeat' first|assumption|(simp (disch:=first|assumption|omega|(simp;done)|(simp;omega)) only[qaa,qac,List.take_of_length_le,qab,qae,qaf,qag,qah];try simp only[go_sem,seval,Tryz.results93])|(with_reducible refine And.intro ?_ ?_)|(with_reducible intro _)|((try rw[qad]);omega)
   refine qaq (E:=Tryz.env 0) Tryz.tok (σ:=Nat×List Int) (fun s=>[(0,.d (dCes cells)),(1,.d (dI net)),(5,.sl 0 s.2.length 1 0 s.2.length),(6,.d (dI i)),(7,.d (dI s.1))]) (fun s=>[.row s.2.length 1 true (s.2.map (D.int .i64))])
    (fun s=>s.1≤x.inputs.length∧s.2.length≤100*i+s.1∧s.2=q++((x.inputs.take s.1).filter fun z=>decide (z=net)).map fun _=>(i:Int)) (fun s=>x.inputs.length-s.1) [] [] 1000 1000 ?_ ?_
   ·simp only[go_sem,seval]
    exact⟨(0,q),⟨by simp,by simp only;omega,by simp⟩,by simp⟩
   ·rintro⟨k,o⟩ ⟨hk,hol,ho⟩
    simp only at hk hol ho
    by_cases hkt:k<x.inputs.length
    ·have hts:(x.inputs.take (k+1)).filter (fun z=>decide (z=net))=(x.inputs.take k).filter (fun z=>decide (z=net))++(if x.inputs.getD k 0=net then [x.inputs.getD k 0] else []):=by
      rw[List.take_succ_eq_append_getElem hkt,List.filter_append]
      congr 1
      have e:x.inputs.getD k 0=x.inputs[k]:=by simp[List.getD,hkt]
      rw[e]
      by_cases h:x.inputs[k]=net <;> simp[h]
     simp only[go_sem,seval,Tryz.results93]
     repeat' first|assumption|(simp (disch:=first|assumption|omega|(simp;done)|(simp;omega)) only[qaa,qac,List.take_of_length_le,qab,qae,qaf,qag,qah];try simp only[go_sem,seval,Tryz.results93,hd9])|(with_reducible refine And.intro ?_ ?_)|(with_reducible intro _)|((try rw[qad]);omega)
     ·rename_i h9
      refine⟨(k+1,o ++ [(i:Int)]),⟨by simp only;omega,by simp only[List.length_append,List.length_singleton];omega,?_⟩,by simp only;omega,by simp,by simp⟩
      show o ++ [(i:Int)]=q++((x.inputs.take (k+1)).filter _).map _
      rw[hts,if_pos h9,List.map_append,←List.append_assoc,←ho]
      rfl
     ·rename_i h9
      refine⟨(k+1,o),⟨by simp only;omega,by simp only;omega,?_⟩,by simp only;omega,⟨rfl,rfl⟩,rfl,rfl⟩
      show o=q++((x.inputs.take (k+1)).filter _).map _
      rw[hts,if_neg h9,List.append_nil]
      exact ho
    ·have e:o=qaZ cells net (i+1):=by rw[hsn,hus,ho,List.take_of_length_le (by omega)]
     simp only[go_sem,seval,Tryz.results93]
     repeat' first|assumption|(simp (disch:=first|assumption|omega|(simp;done)|(simp;omega)) only[qaa,qac,List.take_of_length_le,qab,qae,qaf,qag,qah];try simp only[go_sem,seval,Tryz.results93,hd9])|(with_reducible refine And.intro ?_ ?_)|(with_reducible intro _)|((try rw[qad]);omega)
     refine⟨i+1,⟨by omega,by rw[←e];omega⟩,by omega,?_⟩
     rw[←e]
     exact⟨⟨rfl,rfl⟩,rfl,rfl⟩
  ·simp only[go_sem,seval,Tryz.results93]
   repeat' first|assumption|(simp (disch:=first|assumption|omega|(simp;done)|(simp;omega)) only[qaa,qac,List.take_of_length_le,qab,qae,qaf,qag,qah];try simp only[go_sem,seval,Tryz.results93])|(with_reducible refine And.intro ?_ ?_)|(with_reducible intro _)|((try rw[qad]);omega)
   rw[qcU,show i=cells.length by omega]
theorem Tryz.c_l7Has (l:List Int) (n:Int):Pure Tryz.prog 71 [dIs l,dI n] (.bool (decide (n∈l))):=by
 refine qam (E:=Tryz.env 0) Tryz.tok rfl 1000 Tryz.func71 rfl rfl Tryz.ntmps71 (by simp) fun ok=>?_
 simp only[go_sem,seval] at ok
 simp only[go_sem,seval,Tryz.results71]
 repeat' first|assumption|(simp (disch:=first|assumption|omega|(simp;done)|(simp;omega)) only[qaa,qac,List.take_of_length_le,qab,qae,qaf,qag,qah];try simp only[go_sem,seval,Tryz.results71])|(with_reducible refine And.intro ?_ ?_)|(with_reducible intro _)|((try rw[qad]);omega)
 refine qaB (E:=Tryz.env 0) Tryz.tok (σ:=Nat) (fun i=>[(0,.d (dIs l)),(1,.d (dI n)),(4,.d (dB false)),(5,.d (dI i))]) (fun _=>[]) (fun i=>i≤l.length∧∀ j,j<i→l.getD j 0≠n) (fun i=>l.length-i) [] 1000 1000 ?_ ?_ ?_
 ·simp only[go_sem,seval]
 ·simp only[go_sem,seval]
  exact⟨0,⟨by omega,by omega⟩,rfl⟩
 ·rintro i ⟨hi,hinv⟩
  by_cases hlt:i<l.length
  ·simp only[go_sem,seval,Tryz.results71]
   repeat' first|assumption|(simp (disch:=first|assumption|omega|(simp;done)|(simp;omega)) only[qaa,qac,List.take_of_length_le,qab,qae,qaf,qag,qah];try simp only[go_sem,seval,Tryz.results71])|(with_reducible refine And.intro ?_ ?_)|(with_reducible intro _)|((try rw[qad]);omega)
   ·rename_i h9
    rw[←h9,decide_eq_true (qak hlt)]
   ·rename_i h9
    refine⟨i+1,⟨by omega,fun j hj=>?_⟩,by omega,rfl⟩
    by_cases hji:j=i
    ·subst hji;exact h9
    ·exact hinv j (by omega)
  ·simp only[go_sem,seval,Tryz.results71]
   repeat' first|assumption|(simp (disch:=first|assumption|omega|(simp;done)|(simp;omega)) only[qaa,qac,List.take_of_length_le,qab,qae,qaf,qag,qah];try simp only[go_sem,seval,Tryz.results71])|(with_reducible refine And.intro ?_ ?_)|(with_reducible intro _)|((try rw[qad]);omega)
   simp only[false_eq_decide_iff]
   intro hm
   obtain⟨j,hj,he⟩:=qbC 0 hm
   exact hinv j (by omega) he
def qdg (c:Circ) (cells:List Cel) (place:List Int) (net:Int) (i:Nat):List Int:=qgV c net++qa4 cells place net i
theorem qiL {c:Circ}{cells:List Cel}{place:List Int}{net:Int}{i:Nat}:qdg c cells place net (i+1)=qdg c cells place net i++(if(cells.getD i ce0).net=net then [place.getD i 0] else []):=by
 rw[qdg,qdg,List.append_assoc];rfl
theorem Tryz.c_l7Pins (c:Circ) (hc:c.Valid) (cells:List Cel) (hcl:cells.length≤25) (hci : ∀ x∈cells,x.inputs.length≤3) (place:List Int) (hp:PlaceOk cells.length place) (net:Int) (hn : -100≤net∧net≤100) :
  Pure Tryz.prog 72 [dC c,dCes cells,dIs place,dI net] (dIs (qdk c cells place net)):=by
 have hlo:=hc.lo
 have hi0:=hc.i0
 have hi1:=hc.i1
 have hsk:=Tryz.c_l6Sinks cells net (by omega) (fun x hx=>by have:=hci x hx;omega)
 have hpl:=hp.len
 refine qam (E:=Tryz.env 0) Tryz.tok rfl 1000 Tryz.func72 rfl rfl Tryz.ntmps72 (by simp) fun ok=>?_
 simp only[go_sem,seval] at ok
 simp only[go_sem,seval,Tryz.results72]
 repeat' first|assumption|(simp (disch:=first|assumption|omega|(simp;done)|(simp;omega)) only[qaa,qac,List.take_of_length_le,qab,qae,qaf,qag,qah];try simp only[go_sem,seval,Tryz.results72])|(with_reducible refine And.intro ?_ ?_)|(with_reducible intro _)|(refine qai hsk ?_;simp only[go_sem,seval,Tryz.results72])|((try rw[qad]);omega)
 have hbox:[I.d (dI c.inputs),I.d (dIs c.next),I.d (dPs c.gates),I.d (dIs c.outs)]=[I.d (dI c.inputs),I.d (dIs c.next),I.d (dPs c.gates),I.d (dIs c.outs)]:=rfl
 have hsm : ∀ z∈qcU cells net,0≤z∧z<cells.length:=fun z hz=>by
  obtain⟨m,hm,-,rfl⟩:=qdP.1 hz
  omega
 have hsl:(qcU cells net).length≤3*cells.length:=by
  have key : ∀ n,n≤cells.length→(qaZ cells net n).length≤3*n:=by
   intro n
   induction n with
   | zero=>intro _;simp[qaZ]
   | succ n ih=>
    intro h
    have h1:=ih (by omega)
    have h2:=hci _ (qak (by omega):cells.getD n ce0∈cells)
    have h3:(qeG (cells.getD n ce0) net n).length≤(cells.getD n ce0).inputs.length:=by
     simp only[qeG,List.length_map];exact List.length_filter_le _ _
    rw[qaZ,List.length_append];omega
  exact key _ (Nat.le_refl _)
 have hstd:qaL c cells place net=(qcU cells net).map (qbz place)++qaW c net c.outs.length:=rfl
 have hpn:qdk c cells place net=if qaL c cells place net=[] then [] else(qaL c cells place net).foldl addU (qgV c net++qa4 cells place net cells.length):=rfl
 generalize qcU cells net=list at *
 refine qaq (E:=Tryz.env 0) Tryz.tok (σ:=Nat) (fun i=>[(0,.d (dC c)),(1,.d (dCes cells)),(2,.d (dIs place)),(3,.d (dI net)),(4,.ptr 0 0),(9,.sl 1 i 1 0 i),(10,.d (dIs list)),(11,.d (dI i))]) (fun i=>[.box [.d (dI c.inputs),.d (dIs c.next),.d (dPs c.gates),.d (dIs c.outs)],.row i 1 true (((list.take i).map (qbz place)).map (D.int .i64))])
  (fun i=>i≤list.length) (fun i=>list.length-i) [] [] 1000 1000 ?_ ?_
 ·simp only[go_sem,seval]
  exact⟨0,by omega,by simp⟩
 ·intro i hi
  have hql:((list.take i).map (qbz place)).length=i:=by simp;omega
  by_cases hlt:i<list.length
  ·have hz:=hsm _ (qak hlt:list.getD i 0∈list)
   have hts:(list.take (i+1)).map (qbz place)=(list.take i).map (qbz place) ++ [place.getD (list.getD i 0).toNat 0]:=qaV 0 hlt
   generalize (list.take i).map (qbz place)=q at *
   simp only[go_sem,seval,Tryz.results72]
   repeat' first|assumption|(simp (disch:=first|assumption|omega|(simp;done)|(simp;omega)) only[qaa,qac,List.take_of_length_le,qab,qae,qaf,qag,qah];try simp only[go_sem,seval,Tryz.results72,hql])|(with_reducible refine And.intro ?_ ?_)|(with_reducible intro _)|((try rw[qad]);omega)
   refine⟨i+1,by omega,by omega,?_⟩
   repeat' apply And.intro
   all_goals first|rfl|(rw[hts])
  ·rw[show list.take i=list from List.take_of_length_le (by omega)]
   rw[show list.take i=list from List.take_of_length_le (by omega)] at hql
   obtain rfl:i=list.length:=by omega
   generalize hq9:list.map (qbz place)=q at *
   simp only[go_sem,seval,Tryz.results72]
   repeat' first|assumption|(simp (disch:=first|assumption|omega|(simp;done)|(simp;omega)) only[qaa,qac,List.take_of_length_le,qab,qae,qaf,qag,qah];try simp only[go_sem,seval,Tryz.results72,hql])|(with_reducible refine And.intro ?_ ?_)|(with_reducible intro _)|((try rw[qad]);omega)
   refine qaq (E:=Tryz.env 0) Tryz.tok (σ:=Nat) (fun o=>[(0,.d (dC c)),(1,.d (dCes cells)),(2,.d (dIs place)),(3,.d (dI net)),(4,.ptr 0 0),(9,.sl 1 (q++qaW c net o).length 1 0 (q++qaW c net o).length),(12,.d (dI o))]) (fun o=>[.box [.d (dI c.inputs),.d (dIs c.next),.d (dPs c.gates),.d (dIs c.outs)],.row (q++qaW c net o).length 1 true ((q++qaW c net o).map (D.int .i64))])
    (fun o=>o≤c.outs.length∧(qaW c net o).length≤o) (fun o=>c.outs.length-o) [] [] 1000 1000 ?_ ?_
   ·simp only[go_sem,seval]
    refine⟨0,⟨by omega,by simp[qaW]⟩,?_⟩
    simp[qaW]
    omega
   ·rintro o ⟨ho,hpo⟩
    have hps:qaW c net (o+1)=qaW c net o++(if c.outs.getD o 0/2=net then [(o:Int)*5+4] else []):=rfl
    have hq2:(q++qaW c net o).length=list.length+(qaW c net o).length:=by simp;omega
    by_cases hot:o<c.outs.length
    ·generalize qaW c net o=p at *
     have hqa : ∀ l:List Int,q++(p++l)=(q++p)++l:=fun l=>(List.append_assoc _ _ _).symm
     generalize hqq:q++p=q2 at *
     have hout:=hc.o _ (qak hot:c.outs.getD o 0∈c.outs)
     have hout0:0≤c.outs.getD o 0:=hout.1
     simp only[go_sem,seval,Tryz.results72]
     repeat' first|assumption|(simp (disch:=first|assumption|omega|(simp;done)|(simp;omega)) only[qaa,qac,List.take_of_length_le,qab,qae,qaf,qag,qah];try simp only[go_sem,seval,Tryz.results72])|(with_reducible refine And.intro ?_ ?_)|(with_reducible intro _)|((try rw[qad]);omega)
     ·rename_i h9
      rw[if_pos h9] at hps
      refine⟨o+1,⟨by omega,by rw[hps,List.length_append,List.length_singleton];omega⟩,by omega,?_⟩
      rw[hps,hqa,show(o:Int)*5+5-1=(o:Int)*5+4 by omega]
      have e3:q2.length+1=list.length+(p ++ [(o:Int)*5+4]).length:=by simp;omega
      repeat' apply And.intro
      all_goals first|rfl|omega|(simp;omega)
     ·rename_i h9
      rw[if_neg h9,List.append_nil] at hps
      refine⟨o+1,⟨by omega,by rw[hps];omega⟩,by omega,?_⟩
      rw[hps]
      repeat' apply And.intro
      all_goals first|rfl|omega|exact hqq.symm|(rw[hqq];done)|(simp;omega)
    ·obtain rfl:o=c.outs.length:=by omega
     rw[←hstd]
     rw[←hstd] at hq2
     rw[hpn,show qgV c net++qa4 cells place net cells.length=qdg c cells place net cells.length from rfl]
     generalize hst9:qaL c cells place net=sk at *
     by_cases hsk0:sk=[]
     ·rw[if_pos hsk0]
      subst hsk0
      simp only[go_sem,seval,Tryz.results72]
      repeat' first|assumption|(simp (disch:=first|assumption|omega|(simp;done)|(simp;omega)) only[qaa,qac,List.take_of_length_le,qab,qae,qaf,qag,qah];try simp only[go_sem,seval,Tryz.results72])|(with_reducible refine And.intro ?_ ?_)|(with_reducible intro _)|((try rw[qad]);omega)
     rw[if_neg hsk0]
     have hskp:0<sk.length:=List.length_pos_iff.2 hsk0
     by_cases hsn:1≤net∧net≤c.inputs
     ·have hsi:qgV c net=[(net-1)*5]:=if_pos hsn
      simp only[go_sem,seval,Tryz.results72]
      repeat' first|assumption|(simp (disch:=first|assumption|omega|(simp;done)|(simp;omega)) only[qaa,qac,List.take_of_length_le,qab,qae,qaf,qag,qah];try simp only[go_sem,seval,Tryz.results72])|(with_reducible refine And.intro ?_ ?_)|(with_reducible intro _)|((try rw[qad]);omega)
      have hskl:sk.length≤100:=by omega
      refine qaq (E:=Tryz.env 0) Tryz.tok (σ:=Nat) (fun i=>[(0,.d (dC c)),(1,.d (dCes cells)),(2,.d (dIs place)),(3,.d (dI net)),(4,.ptr 0 0),(9,.sl 1 sk.length 1 0 sk.length),(13,.sl 2 (qdg c cells place net i).length 1 0 (qdg c cells place net i).length),(14,.d (dI i))]) (fun i=>[.box [.d (dI c.inputs),.d (dIs c.next),.d (dPs c.gates),.d (dIs c.outs)],.row sk.length 1 true (sk.map (D.int .i64)),.row (qdg c cells place net i).length 1 true ((qdg c cells place net i).map (D.int .i64))])
       (fun i=>i≤cells.length∧(qdg c cells place net i).length≤1+i) (fun i=>cells.length-i) [] [] 1000 1000 ?_ ?_
      ·simp only[go_sem,seval]
       refine⟨0,⟨by omega,by simp[qdg,hsi,qa4]⟩,?_⟩
       simp[qdg,hsi,qa4]
      ·rintro i ⟨hi,hil⟩
       have hss:=qiL (c:=c) (cells:=cells) (place:=place) (net:=net) (i:=i)
       by_cases hit:i<cells.length
       ·generalize hx9:cells.getD i ce0=x at *
        generalize qdg c cells place net i=out at *
        simp only[go_sem,seval,Tryz.results72]
        repeat' first|assumption|(simp (disch:=first|assumption|omega|(simp;done)|(simp;omega)) only[qaa,qac,List.take_of_length_le,qab,qae,qaf,qag,qah];try simp only[go_sem,seval,Tryz.results72,hx9])|(with_reducible refine And.intro ?_ ?_)|(with_reducible intro _)|((try rw[qad]);omega)
        ·rename_i h9
         rw[if_pos h9] at hss
         refine⟨i+1,?_⟩
         rw[hss]
         refine⟨⟨by omega,by simp;omega⟩,by omega,?_⟩
         repeat' apply And.intro
         all_goals first|rfl|(simp;done)|(simp;omega)
        ·rename_i h9
         rw[if_neg h9,List.append_nil] at hss
         refine⟨i+1,?_⟩
         rw[hss]
         refine⟨⟨by omega,by omega⟩,by omega,?_⟩
         repeat' apply And.intro
         all_goals rfl
       ·obtain rfl:i=cells.length:=by omega
        generalize qdg c cells place net cells.length=src at *
        simp only[go_sem,seval,Tryz.results72]
        repeat' first|assumption|(simp (disch:=first|assumption|omega|(simp;done)|(simp;omega)) only[qaa,qac,List.take_of_length_le,qab,qae,qaf,qag,qah];try simp only[go_sem,seval,Tryz.results72])|(with_reducible refine And.intro ?_ ?_)|(with_reducible intro _)|((try rw[qad]);omega)
        refine qaq (E:=Tryz.env 0) Tryz.tok (σ:=Nat) (fun j=>[(9,.sl 1 sk.length 1 0 sk.length),(13,.sl 2 ((sk.take j).foldl addU src).length 1 0 ((sk.take j).foldl addU src).length),(15,.d (dI j))]) (fun j=>[.dead 0,.row sk.length 1 true (sk.map (D.int .i64)),.row ((sk.take j).foldl addU src).length 1 true (((sk.take j).foldl addU src).map (D.int .i64))])
         (fun j=>j≤sk.length∧((sk.take j).foldl addU src).length≤100+j) (fun j=>sk.length-j) [] [] 1000 1000 ?_ ?_
        ·simp only[go_sem,seval]
         refine⟨0,⟨by omega,by simp;omega⟩,?_⟩
         simp
        ·rintro j ⟨hj,hjl⟩
         by_cases hjt:j<sk.length
         ·have hfs:=qaH (f:=addU) (b:=src) (0:Int) hjt
          have hha:=Tryz.c_l7Has ((sk.take j).foldl addU src) (sk.getD j 0)
          generalize (sk.take j).foldl addU src=o2 at *
          simp only[go_sem,seval,Tryz.results72]
          repeat' first|assumption|(simp (disch:=first|assumption|omega|(simp;done)|(simp;omega)) only[qaa,qac,List.take_of_length_le,qab,qae,qaf,qag,qah];try simp only[go_sem,seval,Tryz.results72])|(with_reducible refine And.intro ?_ ?_)|(with_reducible intro _)|(refine qai hha ?_;simp only[go_sem,seval,Tryz.results72])|((try rw[qad]);omega)
          ·rename_i h9
           have e:(sk.take (j+1)).foldl addU src=o2 ++ [sk.getD j 0]:=by rw[hfs,addU,if_neg h9]
           refine⟨j+1,?_⟩
           rw[e]
           refine⟨⟨by omega,by simp;omega⟩,by omega,?_⟩
           repeat' apply And.intro
           all_goals first|rfl|(simp;done)
          ·rename_i h9
           have e:(sk.take (j+1)).foldl addU src=o2:=by rw[hfs,addU,if_pos h9]
           refine⟨j+1,?_⟩
           rw[e]
           refine⟨⟨by omega,by omega⟩,by omega,?_⟩
           repeat' apply And.intro
           all_goals rfl
         ·have e:sk.take j=sk:=List.take_of_length_le (by omega)
          rw[e]
          simp only[go_sem,seval,Tryz.results72]
          repeat' first|assumption|(simp (disch:=first|assumption|omega|(simp;done)|(simp;omega)) only[qaa,qac,List.take_of_length_le,qab,qae,qaf,qag,qah];try simp only[go_sem,seval,Tryz.results72])|(with_reducible refine And.intro ?_ ?_)|(with_reducible intro _)|((try rw[qad]);omega)
     ·have hsi:qgV c net=[]:=if_neg hsn
      simp only[go_sem,seval,Tryz.results72]
      repeat' first|assumption|(simp (disch:=first|assumption|omega|(simp;done)|(simp;omega)) only[qaa,qac,List.take_of_length_le,qab,qae,qaf,qag,qah];try simp only[go_sem,seval,Tryz.results72])|(with_reducible refine And.intro ?_ ?_)|(with_reducible intro _)|((try rw[qad]);omega)
      have hskl:sk.length≤100:=by omega
      refine qaq (E:=Tryz.env 0) Tryz.tok (σ:=Nat) (fun i=>[(0,.d (dC c)),(1,.d (dCes cells)),(2,.d (dIs place)),(3,.d (dI net)),(4,.ptr 0 0),(9,.sl 1 sk.length 1 0 sk.length),(13,.sl 2 (qdg c cells place net i).length 1 0 (qdg c cells place net i).length),(14,.d (dI i))]) (fun i=>[.box [.d (dI c.inputs),.d (dIs c.next),.d (dPs c.gates),.d (dIs c.outs)],.row sk.length 1 true (sk.map (D.int .i64)),.row (qdg c cells place net i).length 1 true ((qdg c cells place net i).map (D.int .i64))])
       (fun i=>i≤cells.length∧(qdg c cells place net i).length≤1+i) (fun i=>cells.length-i) [] [] 1000 1000 ?_ ?_
      ·simp only[go_sem,seval]
       refine⟨0,⟨by omega,by simp[qdg,hsi,qa4]⟩,?_⟩
       simp[qdg,hsi,qa4]
      ·rintro i ⟨hi,hil⟩
       have hss:=qiL (c:=c) (cells:=cells) (place:=place) (net:=net) (i:=i)
       by_cases hit:i<cells.length
       ·generalize hx9:cells.getD i ce0=x at *
        generalize qdg c cells place net i=out at *
        simp only[go_sem,seval,Tryz.results72]
        repeat' first|assumption|(simp (disch:=first|assumption|omega|(simp;done)|(simp;omega)) only[qaa,qac,List.take_of_length_le,qab,qae,qaf,qag,qah];try simp only[go_sem,seval,Tryz.results72,hx9])|(with_reducible refine And.intro ?_ ?_)|(with_reducible intro _)|((try rw[qad]);omega)
        ·rename_i h9
         rw[if_pos h9] at hss
         refine⟨i+1,?_⟩
         rw[hss]
         refine⟨⟨by omega,by simp;omega⟩,by omega,?_⟩
         repeat' apply And.intro
         all_goals first|rfl|(simp;done)|(simp;omega)
        ·rename_i h9
         rw[if_neg h9,List.append_nil] at hss
         refine⟨i+1,?_⟩
         rw[hss]
         refine⟨⟨by omega,by omega⟩,by omega,?_⟩
         repeat' apply And.intro
         all_goals rfl
       ·obtain rfl:i=cells.length:=by omega
        generalize qdg c cells place net cells.length=src at *
        simp only[go_sem,seval,Tryz.results72]
        repeat' first|assumption|(simp (disch:=first|assumption|omega|(simp;done)|(simp;omega)) only[qaa,qac,List.take_of_length_le,qab,qae,qaf,qag,qah];try simp only[go_sem,seval,Tryz.results72])|(with_reducible refine And.intro ?_ ?_)|(with_reducible intro _)|((try rw[qad]);omega)
        refine qaq (E:=Tryz.env 0) Tryz.tok (σ:=Nat) (fun j=>[(9,.sl 1 sk.length 1 0 sk.length),(13,.sl 2 ((sk.take j).foldl addU src).length 1 0 ((sk.take j).foldl addU src).length),(15,.d (dI j))]) (fun j=>[.dead 0,.row sk.length 1 true (sk.map (D.int .i64)),.row ((sk.take j).foldl addU src).length 1 true (((sk.take j).foldl addU src).map (D.int .i64))])
         (fun j=>j≤sk.length∧((sk.take j).foldl addU src).length≤100+j) (fun j=>sk.length-j) [] [] 1000 1000 ?_ ?_
        ·simp only[go_sem,seval]
         refine⟨0,⟨by omega,by simp;omega⟩,?_⟩
         simp
        ·rintro j ⟨hj,hjl⟩
         by_cases hjt:j<sk.length
         ·have hfs:=qaH (f:=addU) (b:=src) (0:Int) hjt
          have hha:=Tryz.c_l7Has ((sk.take j).foldl addU src) (sk.getD j 0)
          generalize (sk.take j).foldl addU src=o2 at *
          simp only[go_sem,seval,Tryz.results72]
          repeat' first|assumption|(simp (disch:=first|assumption|omega|(simp;done)|(simp;omega)) only[qaa,qac,List.take_of_length_le,qab,qae,qaf,qag,qah];try simp only[go_sem,seval,Tryz.results72])|(with_reducible refine And.intro ?_ ?_)|(with_reducible intro _)|(refine qai hha ?_;simp only[go_sem,seval,Tryz.results72])|((try rw[qad]);omega)
          ·rename_i h9
           have e:(sk.take (j+1)).foldl addU src=o2 ++ [sk.getD j 0]:=by rw[hfs,addU,if_neg h9]
           refine⟨j+1,?_⟩
           rw[e]
           refine⟨⟨by omega,by simp;omega⟩,by omega,?_⟩
           repeat' apply And.intro
           all_goals first|rfl|(simp;done)
          ·rename_i h9
           have e:(sk.take (j+1)).foldl addU src=o2:=by rw[hfs,addU,if_pos h9]
           refine⟨j+1,?_⟩
           rw[e]
           refine⟨⟨by omega,by omega⟩,by omega,?_⟩
           repeat' apply And.intro
           all_goals rfl
         ·have e:sk.take j=sk:=List.take_of_length_le (by omega)
          rw[e]
          simp only[go_sem,seval,Tryz.results72]
          repeat' first|assumption|(simp (disch:=first|assumption|omega|(simp;done)|(simp;omega)) only[qaa,qac,List.take_of_length_le,qab,qae,qaf,qag,qah];try simp only[go_sem,seval,Tryz.results72])|(with_reducible refine And.intro ?_ ?_)|(with_reducible intro _)|((try rw[qad]);omega)
end Go.Proofs
