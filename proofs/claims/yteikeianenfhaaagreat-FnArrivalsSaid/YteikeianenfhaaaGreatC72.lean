/- Contracts: the reference's cells, sinks and pins. Conditions: none; lemmas. -/
import Derived.Test.YteikeianenfhaaaGreatC98
import Derived.Test.YteikeianenfhaaaGreatC62
set_option maxRecDepth 20000
set_option linter.unusedVariables false
set_option linter.unusedSimpArgs false
set_option maxHeartbeats 2000000
namespace Go.Proofs
open Go Go.VL Tryz
abbrev dCe (x:Cel):D:=.agg [dI x.net,dIs x.inputs,dI x.table,dB x.reg]
abbrev dCes (l:List Cel):D:=.lst 4 (l.map fun x=>dCe x)
theorem qah {l:List Cel}{i:Nat}{z:D}(h:i<l.length):(l.map fun x=>dCe x).getD i z=dCe (l.getD i ce0):=getD_lt _ _ _ _ _ h
def dLat (c:Circ) (i:Nat):D:=if(c.next.getD i 0)/2 > 0 then dCe (qa4 c i) else .agg [dI (c.inputs+1+(i:Int)),.nil,dI ((c.next.getD i 0)%2),dB true]
theorem dLat_wk (c:Circ) (i:Nat):WK (dLat c i) (dCe (qa4 c i)):=by
 unfold dLat;split
 ·exact .refl _
 ·rename_i h;have e:qa4 c i=⟨c.inputs+1+i,[],(c.next.getD i 0)%2,true⟩:=if_neg h;rw[e];exact .aggs ⟨.refl _,.nil (by omega),.refl _,.refl _,trivial⟩
theorem qlO (c:Circ):WK (.lst 4 ((List.range c.next.length).map (dLat c)++(qcw c).map fun l=>dCe (qaW l))) (dCes (qac c)):=by
 have e:(qac c).map (fun x=>dCe x)=(List.range c.next.length).map (fun i=>dCe (qa4 c i))++(qcw c).map fun l=>dCe (qaW l):=by
  rw[qac,yaI,List.map_map,List.map_map];rfl
 show WK _ (.lst 4 ((qac c).map fun x=>dCe x))
 rw[e];refine .lst (by simp) fun j hj=>?_
 by_cases h:j<c.next.length
 ·rw[qar (by simpa using h),qar (by simpa using h)];simp only[List.getD_eq_getElem?_getD,List.getElem?_map,List.getElem?_range h,yax,yap];exact dLat_wk c j
 ·rw[List.getD_eq_getElem?_getD,List.getD_eq_getElem?_getD,List.getElem?_append_right (by simpa using h),List.getElem?_append_right (by simpa using h)];simp only[yay,List.length_range];exact .refl _
theorem Tryz.c_l6Cells (c:Circ) (hc:c.Valid):Pure prog 74 [dC c] (dCes (qac c)):=by
 have hmp:=c_l5Map c hc;have hln:=hc.ln;have hll:=qhI hc;have hlg:=hc.lg;have hlk:=qcz hc;have hi0:=hc.i0;have hi1:=hc.i1;refine Pure.res ?_ (qlO c);refine qaA func74 rfl ntmps74 fun ok=>?_
 simp only[go_sem,seval] at ok⊢
 repeat' first|assumption|(simp (disch:=first|assumption|omega|(simp;done)|(simp;omega)) only[yaa,qae,qaB,qah];try simp only[go_sem,seval])|(with_reducible first|apply And.intro|intro _)|((try rw[qaa]);omega)
 refine qai (E:=env 0) tok (σ:=Nat) (fun i=>[(0,.d (dC c)),(1,.ptr 0 0),(3,.sl 1 i 4 0 i),(4,.d (dI i))]) (fun i=>[.box [.d (dI c.inputs),.d (dIs c.next),.d (dPs c.gates),.d (dIs c.outs)],.row i 4 true ((List.range i).map (dLat c))]) (fun i=>i<=c.next.length) (fun i=>c.next.length-i) [] [] 1000 1000 ?_ ?_
 ·simp only[go_sem,seval];exact⟨0,by omega,by simp⟩
 ·intro i hi;have hrl:((List.range i).map (dLat c)).length=i:=by simp
  have hrs:(List.range (i+1)).map (dLat c)=(List.range i).map (dLat c) ++ [dLat c i]:=by rw[List.range_succ,yaI];rfl
  by_cases hlt:i<c.next.length
  ·have hno:=hc.n _ (qab hlt:c.next.getD i 0∈c.next);unfold qa6 at hno;have hld:dLat c i=if(c.next.getD i 0)/2 > 0 then dCe (qa4 c i) else .agg [dI (c.inputs+1+(i:Int)),.nil,dI ((c.next.getD i 0)%2),dB true]:=rfl;have hlc:qa4 c i=if(c.next.getD i 0)/2 > 0 then⟨c.inputs+1+i,[(c.next.getD i 0)/2],2-(c.next.getD i 0)%2,true⟩ else⟨c.inputs+1+i,[],(c.next.getD i 0)%2,true⟩:=rfl;generalize (List.range i).map (dLat c)=q at *
   have hr:=qae (y:=2) hno.1;simp only[go_sem,seval]
   repeat' first|assumption|(simp (disch:=first|assumption|omega|(simp;done)|(simp;omega)) only[yaa,qae,qaB,qah];try simp only[go_sem,seval,hr,hrl])|(with_reducible first|apply And.intro|intro _)|((try rw[qaa]);omega)
   ·rename_i h9;refine⟨i+1,by omega,by omega,rfl,rfl,?_⟩;rw[hrs,hld,if_pos (by omega),hlc,if_pos (by omega)];rfl
   ·rename_i h9;refine⟨i+1,by omega,by omega,rfl,rfl,?_⟩;rw[hrs,hld,if_neg (by omega)]
  ·obtain rfl:i=c.next.length:=by omega
   simp only[go_sem,seval]
   repeat' first|assumption|(simp (disch:=first|assumption|omega|(simp;done)|(simp;omega)) only[yaa,qae,qaB,qah];try simp only[go_sem,seval])|(with_reducible first|apply And.intro|intro _)|(refine qbU hmp ?_;simp only[go_sem,seval])|((try rw[qaa]);omega)
   generalize (List.range c.next.length).map (dLat c)=q at *
   have hlv : ∀ l∈qcw c,l.leaves.length<=3:=fun l hl=>by
    obtain⟨m,hm,rfl⟩:=hlk.each l hl;exact(qcy hc hm).2.1
   generalize qcw c=luts at *
   refine qai (E:=env 0) tok (σ:=Nat) (fun i=>[(3,.sl 1 (c.next.length+i) 4 0 (c.next.length+i)),(7,.d (dLus luts)),(8,.d (dI i))]) (fun i=>[.dead 0,.row (c.next.length+i) 4 true (q++(luts.take i).map fun l=>dCe (qaW l))]) (fun i=>i<=luts.length) (fun i=>luts.length-i) [] [] 1000 1000 ?_ ?_
   ·simp only[go_sem,seval];exact⟨0,by omega,by simp⟩
   ·intro i hi;by_cases hlt:i<luts.length
    ·have hlv2:=hlv _ (qab hlt:luts.getD i lu0∈luts);have hts:(luts.take (i+1)).map (fun l=>dCe (qaW l))=(luts.take i).map (fun l=>dCe (qaW l)) ++ [dCe (qaW (luts.getD i lu0))]:=qaN lu0 hlt;have hql:(q++(luts.take i).map fun l=>dCe (qaW l)).length=c.next.length+i:=by simp[hrl];omega
     have hqa:q++(luts.take (i+1)).map (fun l=>dCe (qaW l))=(q++(luts.take i).map fun l=>dCe (qaW l)) ++ [dCe (qaW (luts.getD i lu0))]:=by rw[hts,yal]
     generalize hd9:luts.getD i lu0=x at *
     generalize (q++(luts.take i).map fun l=>dCe (qaW l))=q2 at *
     simp only[go_sem,seval]
     repeat' first|assumption|(simp (disch:=first|assumption|omega|(simp;done)|(simp;omega)) only[yaa,qae,qaB,qah];try simp only[go_sem,seval,hd9,hql])|(with_reducible first|apply And.intro|intro _)|((try rw[qaa]);omega)
     refine qda (E:=env 0) tok Tryz.follows 1000 1000 [] (.fst 0 (.fst 1 (.fst 2 (.fst 3 (.fst 4 (.fst 7 (.fst 8 (.fst 9 (.fst 10 (.fst 13 (.fst 14 (.fst 15 (.fst 16 (.fst 5 (.fst 11 (.fst 17 (.one 6 (.one 12 (.fst 18 (.one 19 (.one 20 (.fst 21 (.done))))))))))))))))))))))) (by kernel_rfl) ?_;simp only[go_sem,seval,hd9,hql]
     repeat' first|assumption|(simp (disch:=first|assumption|omega|(simp;done)|(simp;omega)) only[yaa,qae,qaB,qah];try simp only[go_sem,seval,hd9,hql])|(with_reducible first|apply And.intro|intro _)|((try rw[qaa]);omega)
     refine⟨i+1,by omega,by omega,⟨by omega,rfl⟩,by omega,?_⟩;rw[hqa,<-hql];exact qlH
    ·simp only[go_sem,seval]
     repeat' first|assumption|(simp (disch:=first|assumption|omega|(simp;done)|(simp;omega)) only[yaa,qae,qaB,qah];try simp only[go_sem,seval])|(with_reducible first|apply And.intro|intro _)|((try rw[qaa]);omega)
theorem Tryz.c_l6Sinks (cells:List Cel) (net:Int) (hl:cells.length<=100) (hi : ∀ x∈cells,x.inputs.length<=100):Pure prog 193 [dCes cells,dI net] (dIs (qcJ cells net)):=by
 refine qaA func193 rfl ntmps193 fun ok=>?_
 simp only[go_sem,seval] at ok⊢
 repeat' first|assumption|(simp (disch:=first|assumption|omega|(simp;done)|(simp;omega)) only[yaa,qae,qaB,qah];try simp only[go_sem,seval])|(with_reducible first|apply And.intro|intro _)|((try rw[qaa]);omega)
 refine qai (E:=env 0) tok (σ:=Nat) (fun i=>[(0,.d (dCes cells)),(1,.d (dI net)),(5,.sl 0 (qaU cells net i).length 1 0 (qaU cells net i).length),(6,.d (dI i))]) (fun i=>[.row (qaU cells net i).length 1 true ((qaU cells net i).map (D.int .i64))]) (fun i=>i<=cells.length/\(qaU cells net i).length<=100*i) (fun i=>cells.length-i) [] [] 1000 1000 ?_ ?_
 ·simp only[go_sem,seval];exact⟨0,⟨by omega,by simp[qaU]⟩,by simp[qaU]⟩
 ·rintro i ⟨hii,hsl⟩;by_cases hlt:i<cells.length
  ·have hin:=hi _ (qab hlt:cells.getD i ce0∈cells);have hsn:qaU cells net (i+1)=qaU cells net i++qeA (cells.getD i ce0) net i:=rfl;have hus:qeA (cells.getD i ce0) net i=((cells.getD i ce0).inputs.filter fun z=>decide (z=net)).map fun _=>(i:Int):=rfl
   generalize hd9:cells.getD i ce0=x at *
   generalize qaU cells net i=q at *
   simp only[go_sem,seval]
   repeat' first|assumption|(simp (disch:=first|assumption|omega|(simp;done)|(simp;omega)) only[yaa,qae,qaB,qah];try simp only[go_sem,seval])|(with_reducible first|apply And.intro|intro _)|((try rw[qaa]);omega)
   refine qai (E:=env 0) tok (σ:=Nat×List Int) (fun s=>[(0,.d (dCes cells)),(1,.d (dI net)),(5,.sl 0 s.2.length 1 0 s.2.length),(6,.d (dI i)),(7,.d (dI s.1))]) (fun s=>[.row s.2.length 1 true (s.2.map (D.int .i64))])
    (fun s=>s.1<=x.inputs.length/\s.2.length<=100*i+s.1/\s.2=q++((x.inputs.take s.1).filter fun z=>decide (z=net)).map fun _=>(i:Int)) (fun s=>x.inputs.length-s.1) [] [] 1000 1000 ?_ ?_
   ·simp only[go_sem,seval];exact⟨(0,q),⟨by simp,by simp only;omega,by simp⟩,by simp⟩
   ·rintro⟨k,o⟩ ⟨hk,hol,ho⟩;simp only at hk hol ho;by_cases hkt:k<x.inputs.length
    ·have hts:(x.inputs.take (k+1)).filter (fun z=>decide (z=net))=(x.inputs.take k).filter (fun z=>decide (z=net))++(if x.inputs.getD k 0=net then [x.inputs.getD k 0] else []):=by
      rw[yaE hkt,List.filter_append];congr 1;have e:x.inputs.getD k 0=x.inputs[k]:=by simp[List.getD,hkt]
      rw[e];by_cases h:x.inputs[k]=net <;> simp[h]
     simp only[go_sem,seval]
     repeat' first|assumption|(simp (disch:=first|assumption|omega|(simp;done)|(simp;omega)) only[yaa,qae,qaB,qah];try simp only[go_sem,seval,hd9])|(with_reducible first|apply And.intro|intro _)|((try rw[qaa]);omega)
     ·rename_i h9;refine⟨(k+1,o ++ [(i:Int)]),⟨by simp only;omega,by simp only[yae,yaO];omega,?_⟩,by simp only;omega,by simp,by simp⟩;show o ++ [(i:Int)]=q++((x.inputs.take (k+1)).filter _).map _
      rw[hts,if_pos h9,yaI,<-yal,<-ho];rfl
     ·rename_i h9;refine⟨(k+1,o),⟨by simp only;omega,by simp only;omega,?_⟩,by simp only;omega,⟨rfl,rfl⟩,rfl,rfl⟩;show o=q++((x.inputs.take (k+1)).filter _).map _
      rw[hts,if_neg h9,yaA];exact ho
    ·have e:o=qaU cells net (i+1):=by rw[hsn,hus,ho,yaa (by omega)]
     simp only[go_sem,seval]
     repeat' first|assumption|(simp (disch:=first|assumption|omega|(simp;done)|(simp;omega)) only[yaa,qae,qaB,qah];try simp only[go_sem,seval,hd9])|(with_reducible first|apply And.intro|intro _)|((try rw[qaa]);omega)
     refine⟨i+1,⟨by omega,by rw[<-e];omega⟩,by omega,?_⟩;rw[<-e];exact⟨⟨rfl,rfl⟩,rfl,rfl⟩
  ·simp only[go_sem,seval]
   repeat' first|assumption|(simp (disch:=first|assumption|omega|(simp;done)|(simp;omega)) only[yaa,qae,qaB,qah];try simp only[go_sem,seval])|(with_reducible first|apply And.intro|intro _)|((try rw[qaa]);omega)
   rw[qcJ,show i=cells.length by omega]
theorem Tryz.c_l7Has (l:List Int) (n:Int):Pure prog 194 [dIs l,dI n] (.bool (decide (n∈l))):=by
 refine qaA func194 rfl ntmps194 fun ok=>?_
 simp only[go_sem,seval] at ok⊢
 repeat' first|assumption|(simp (disch:=first|assumption|omega|(simp;done)|(simp;omega)) only[yaa,qae,qaB,qah];try simp only[go_sem,seval])|(with_reducible first|apply And.intro|intro _)|((try rw[qaa]);omega)
 refine qaI (E:=env 0) tok (σ:=Nat) (fun i=>[(0,.d (dIs l)),(1,.d (dI n)),(4,.d (dB false)),(5,.d (dI i))]) (fun _=>[]) (fun i=>i<=l.length/\∀ j,j<i->l.getD j 0≠n) (fun i=>l.length-i) [] 1000 1000 ?_ ?_ ?_
 ·simp only[go_sem,seval]
 ·simp only[go_sem,seval];exact⟨0,⟨by omega,by omega⟩,rfl⟩
 ·rintro i ⟨hi,hinv⟩;by_cases hlt:i<l.length
  ·simp only[go_sem,seval]
   repeat' first|assumption|(simp (disch:=first|assumption|omega|(simp;done)|(simp;omega)) only[yaa,qae,qaB,qah];try simp only[go_sem,seval])|(with_reducible first|apply And.intro|intro _)|((try rw[qaa]);omega)
   ·rename_i h9;rw[<-h9,decide_eq_true (qab hlt)]
   ·rename_i h9;refine⟨i+1,⟨by omega,fun j hj=>?_⟩,by omega,rfl⟩;by_cases hji:j=i
    ·subst hji;exact h9
    ·exact hinv j (by omega)
  ·simp only[go_sem,seval]
   repeat' first|assumption|(simp (disch:=first|assumption|omega|(simp;done)|(simp;omega)) only[yaa,qae,qaB,qah];try simp only[go_sem,seval])|(with_reducible first|apply And.intro|intro _)|((try rw[qaa]);omega)
   simp only[false_eq_decide_iff];intro hm;obtain⟨j,hj,he⟩:=qbg 0 hm;exact hinv j (by omega) he
def qdc (c:Circ) (cells:List Cel) (place:List Int) (net:Int) (i:Nat):List Int:=qgL c net++qaY cells place net i
theorem qiD {c:Circ}{cells:List Cel}{place:List Int}{net:Int}{i:Nat}:qdc c cells place net (i+1)=qdc c cells place net i++(if(cells.getD i ce0).net=net then [place.getD i 0] else []):=by
 rw[qdc,qdc,yal];rfl
theorem Tryz.c_l7Pins (c:Circ) (hc:c.Valid) (cells:List Cel) (hcl:cells.length<=25) (hci : ∀ x∈cells,x.inputs.length<=3) (place:List Int) (hp:PlaceOk cells.length place) (net:Int) (hn : -100<=net/\net<=100) :
  Pure prog 140 [dC c,dCes cells,dIs place,dI net] (dIs (qds c cells place net)):=by
 have hlo:=hc.lo;have hi0:=hc.i0;have hi1:=hc.i1;have hsk:=c_l6Sinks cells net (by omega) (fun x hx=>by have:=hci x hx;omega);have hpl:=hp.len;refine qaA func140 rfl ntmps140 fun ok=>?_
 simp only[go_sem,seval] at ok⊢
 repeat' first|assumption|(simp (disch:=first|assumption|omega|(simp;done)|(simp;omega)) only[yaa,qae,qaB,qah];try simp only[go_sem,seval])|(with_reducible first|apply And.intro|intro _)|(refine qad hsk ?_;simp only[go_sem,seval])|((try rw[qaa]);omega)
 have hbox:[I.d (dI c.inputs),I.d (dIs c.next),I.d (dPs c.gates),I.d (dIs c.outs)]=[I.d (dI c.inputs),I.d (dIs c.next),I.d (dPs c.gates),I.d (dIs c.outs)]:=rfl;have hsm : ∀ z∈qcJ cells net,0<=z/\z<cells.length:=fun z hz=>by
  obtain⟨m,hm,-,rfl⟩:=qdL.1 hz;omega
 have hsl:(qcJ cells net).length<=3*cells.length:=by
  have key : ∀ n,n<=cells.length->(qaU cells net n).length<=3*n:=by
   intro n;induction n with
   | zero=>intro _;simp[qaU]
   | succ n ih=>
    intro h;have h1:=ih (by omega);have h2:=hci _ (qab (by omega):cells.getD n ce0∈cells);have h3:(qeA (cells.getD n ce0) net n).length<=(cells.getD n ce0).inputs.length:=by
     simp only[qeA,yay];exact List.length_filter_le _ _
    rw[qaU,yae];omega
  exact key _ (yad _)
 have hstd:qaE c cells place net=(qcJ cells net).map (qbp place)++qaR c net c.outs.length:=rfl;have hpn:qds c cells place net=if qaE c cells place net=[] then [] else(qaE c cells place net).foldl addU (qgL c net++qaY cells place net cells.length):=rfl
 generalize qcJ cells net=list at *
 refine qai (E:=env 0) tok (σ:=Nat) (fun i=>[(0,.d (dC c)),(1,.d (dCes cells)),(2,.d (dIs place)),(3,.d (dI net)),(4,.ptr 0 0),(9,.sl 1 i 1 0 i),(10,.d (dIs list)),(11,.d (dI i))]) (fun i=>[.box [.d (dI c.inputs),.d (dIs c.next),.d (dPs c.gates),.d (dIs c.outs)],.row i 1 true (((list.take i).map (qbp place)).map (D.int .i64))])
  (fun i=>i<=list.length) (fun i=>list.length-i) [] [] 1000 1000 ?_ ?_
 ·simp only[go_sem,seval];exact⟨0,by omega,by simp⟩
 ·intro i hi;have hql:((list.take i).map (qbp place)).length=i:=by simp;omega
  by_cases hlt:i<list.length
  ·have hz:=hsm _ (qab hlt:list.getD i 0∈list);have hts:(list.take (i+1)).map (qbp place)=(list.take i).map (qbp place) ++ [place.getD (list.getD i 0).toNat 0]:=qaN 0 hlt;generalize (list.take i).map (qbp place)=q at *
   simp only[go_sem,seval]
   repeat' first|assumption|(simp (disch:=first|assumption|omega|(simp;done)|(simp;omega)) only[yaa,qae,qaB,qah];try simp only[go_sem,seval,hql])|(with_reducible first|apply And.intro|intro _)|((try rw[qaa]);omega)
   refine⟨i+1,by omega,by omega,?_⟩
   repeat' apply And.intro
   all_goals first|rfl|(rw[hts])
  ·rw[show list.take i=list from yaa (by omega)];rw[show list.take i=list from yaa (by omega)] at hql;obtain rfl:i=list.length:=by omega
   generalize hq9:list.map (qbp place)=q at *
   simp only[go_sem,seval]
   repeat' first|assumption|(simp (disch:=first|assumption|omega|(simp;done)|(simp;omega)) only[yaa,qae,qaB,qah];try simp only[go_sem,seval,hql])|(with_reducible first|apply And.intro|intro _)|((try rw[qaa]);omega)
   refine qai (E:=env 0) tok (σ:=Nat) (fun o=>[(0,.d (dC c)),(1,.d (dCes cells)),(2,.d (dIs place)),(3,.d (dI net)),(4,.ptr 0 0),(9,.sl 1 (q++qaR c net o).length 1 0 (q++qaR c net o).length),(12,.d (dI o))]) (fun o=>[.box [.d (dI c.inputs),.d (dIs c.next),.d (dPs c.gates),.d (dIs c.outs)],.row (q++qaR c net o).length 1 true ((q++qaR c net o).map (D.int .i64))])
    (fun o=>o<=c.outs.length/\(qaR c net o).length<=o) (fun o=>c.outs.length-o) [] [] 1000 1000 ?_ ?_
   ·simp only[go_sem,seval];refine⟨0,⟨by omega,by simp[qaR]⟩,?_⟩;simp[qaR];omega
   ·rintro o ⟨ho,hpo⟩;have hps:qaR c net (o+1)=qaR c net o++(if c.outs.getD o 0/2=net then [(o:Int)*5+4] else []):=rfl;have hq2:(q++qaR c net o).length=list.length+(qaR c net o).length:=by simp;omega
    by_cases hot:o<c.outs.length
    ·generalize qaR c net o=p at *
     have hqa : ∀ l:List Int,q++(p++l)=(q++p)++l:=fun l=>(yal _ _ _).symm
     generalize hqq:q++p=q2 at *
     have hout:=hc.o _ (qab hot:c.outs.getD o 0∈c.outs);have hout0:0<=c.outs.getD o 0:=hout.1;simp only[go_sem,seval]
     repeat' first|assumption|(simp (disch:=first|assumption|omega|(simp;done)|(simp;omega)) only[yaa,qae,qaB,qah];try simp only[go_sem,seval])|(with_reducible first|apply And.intro|intro _)|((try rw[qaa]);omega)
     ·rename_i h9;rw[if_pos h9] at hps;refine⟨o+1,⟨by omega,by rw[hps,yae,yaO];omega⟩,by omega,?_⟩;rw[hps,hqa,show(o:Int)*5+5-1=(o:Int)*5+4 by omega];have e3:q2.length+1=list.length+(p ++ [(o:Int)*5+4]).length:=by simp;omega
      repeat' apply And.intro
      all_goals first|rfl|omega|(simp;omega)
     ·rename_i h9;rw[if_neg h9,yaA] at hps;refine⟨o+1,⟨by omega,by rw[hps];omega⟩,by omega,?_⟩;rw[hps]
      repeat' apply And.intro
      all_goals first|rfl|omega|exact hqq.symm|(rw[hqq];done)|(simp;omega)
    ·obtain rfl:o=c.outs.length:=by omega
     rw[<-hstd];rw[<-hstd] at hq2;rw[hpn,show qgL c net++qaY cells place net cells.length=qdc c cells place net cells.length from rfl];generalize hst9:qaE c cells place net=sk at *
     by_cases hsk0:sk=[]
     ·rw[if_pos hsk0];subst hsk0;simp only[go_sem,seval]
      repeat' first|assumption|(simp (disch:=first|assumption|omega|(simp;done)|(simp;omega)) only[yaa,qae,qaB,qah];try simp only[go_sem,seval])|(with_reducible first|apply And.intro|intro _)|((try rw[qaa]);omega)
     rw[if_neg hsk0];have hskp:0<sk.length:=List.length_pos_iff.2 hsk0;by_cases hsn:1<=net/\net<=c.inputs
     ·have hsi:qgL c net=[(net-1)*5]:=if_pos hsn;simp only[go_sem,seval]
      repeat' first|assumption|(simp (disch:=first|assumption|omega|(simp;done)|(simp;omega)) only[yaa,qae,qaB,qah];try simp only[go_sem,seval])|(with_reducible first|apply And.intro|intro _)|((try rw[qaa]);omega)
      have hskl:sk.length<=100:=by omega
      refine qai (E:=env 0) tok (σ:=Nat) (fun i=>[(0,.d (dC c)),(1,.d (dCes cells)),(2,.d (dIs place)),(3,.d (dI net)),(4,.ptr 0 0),(9,.sl 1 sk.length 1 0 sk.length),(13,.sl 2 (qdc c cells place net i).length 1 0 (qdc c cells place net i).length),(14,.d (dI i))]) (fun i=>[.box [.d (dI c.inputs),.d (dIs c.next),.d (dPs c.gates),.d (dIs c.outs)],.row sk.length 1 true (sk.map (D.int .i64)),.row (qdc c cells place net i).length 1 true ((qdc c cells place net i).map (D.int .i64))])
       (fun i=>i<=cells.length/\(qdc c cells place net i).length<=1+i) (fun i=>cells.length-i) [] [] 1000 1000 ?_ ?_
      ·simp only[go_sem,seval];refine⟨0,⟨by omega,by simp[qdc,hsi,qaY]⟩,?_⟩;simp[qdc,hsi,qaY]
      ·rintro i ⟨hi,hil⟩;have hss:=qiD (c:=c) (cells:=cells) (place:=place) (net:=net) (i:=i);by_cases hit:i<cells.length
       ·generalize hx9:cells.getD i ce0=x at *
        generalize qdc c cells place net i=out at *
        simp only[go_sem,seval]
        repeat' first|assumption|(simp (disch:=first|assumption|omega|(simp;done)|(simp;omega)) only[yaa,qae,qaB,qah];try simp only[go_sem,seval,hx9])|(with_reducible first|apply And.intro|intro _)|((try rw[qaa]);omega)
        ·rename_i h9;rw[if_pos h9] at hss;refine⟨i+1,?_⟩;rw[hss];refine⟨⟨by omega,by simp;omega⟩,by omega,?_⟩
         repeat' apply And.intro
         all_goals first|rfl|(simp;done)|(simp;omega)
        ·rename_i h9;rw[if_neg h9,yaA] at hss;refine⟨i+1,?_⟩;rw[hss];refine⟨⟨by omega,by omega⟩,by omega,?_⟩
         repeat' apply And.intro
         all_goals rfl
       ·obtain rfl:i=cells.length:=by omega
        generalize qdc c cells place net cells.length=src at *
        simp only[go_sem,seval]
        repeat' first|assumption|(simp (disch:=first|assumption|omega|(simp;done)|(simp;omega)) only[yaa,qae,qaB,qah];try simp only[go_sem,seval])|(with_reducible first|apply And.intro|intro _)|((try rw[qaa]);omega)
        refine qai (E:=env 0) tok (σ:=Nat) (fun j=>[(9,.sl 1 sk.length 1 0 sk.length),(13,.sl 2 ((sk.take j).foldl addU src).length 1 0 ((sk.take j).foldl addU src).length),(15,.d (dI j))]) (fun j=>[.dead 0,.row sk.length 1 true (sk.map (D.int .i64)),.row ((sk.take j).foldl addU src).length 1 true (((sk.take j).foldl addU src).map (D.int .i64))])
         (fun j=>j<=sk.length/\((sk.take j).foldl addU src).length<=100+j) (fun j=>sk.length-j) [] [] 1000 1000 ?_ ?_
        ·simp only[go_sem,seval];refine⟨0,⟨by omega,by simp;omega⟩,?_⟩;simp
        ·rintro j ⟨hj,hjl⟩;by_cases hjt:j<sk.length
         ·have hfs:=qaw (f:=addU) (b:=src) (0:Int) hjt;have hha:=c_l7Has ((sk.take j).foldl addU src) (sk.getD j 0);generalize (sk.take j).foldl addU src=o2 at *
          simp only[go_sem,seval]
          repeat' first|assumption|(simp (disch:=first|assumption|omega|(simp;done)|(simp;omega)) only[yaa,qae,qaB,qah];try simp only[go_sem,seval])|(with_reducible first|apply And.intro|intro _)|(refine qad hha ?_;simp only[go_sem,seval])|((try rw[qaa]);omega)
          ·rename_i h9;have e:(sk.take (j+1)).foldl addU src=o2 ++ [sk.getD j 0]:=by rw[hfs,addU,if_neg h9]
           refine⟨j+1,?_⟩;rw[e];refine⟨⟨by omega,by simp;omega⟩,by omega,?_⟩
           repeat' apply And.intro
           all_goals first|rfl|(simp;done)
          ·rename_i h9;have e:(sk.take (j+1)).foldl addU src=o2:=by rw[hfs,addU,if_pos h9]
           refine⟨j+1,?_⟩;rw[e];refine⟨⟨by omega,by omega⟩,by omega,?_⟩
           repeat' apply And.intro
           all_goals rfl
         ·have e:sk.take j=sk:=yaa (by omega);rw[e];simp only[go_sem,seval]
          repeat' first|assumption|(simp (disch:=first|assumption|omega|(simp;done)|(simp;omega)) only[yaa,qae,qaB,qah];try simp only[go_sem,seval])|(with_reducible first|apply And.intro|intro _)|((try rw[qaa]);omega)
     ·have hsi:qgL c net=[]:=if_neg hsn;simp only[go_sem,seval]
      repeat' first|assumption|(simp (disch:=first|assumption|omega|(simp;done)|(simp;omega)) only[yaa,qae,qaB,qah];try simp only[go_sem,seval])|(with_reducible first|apply And.intro|intro _)|((try rw[qaa]);omega)
      have hskl:sk.length<=100:=by omega
      refine qai (E:=env 0) tok (σ:=Nat) (fun i=>[(0,.d (dC c)),(1,.d (dCes cells)),(2,.d (dIs place)),(3,.d (dI net)),(4,.ptr 0 0),(9,.sl 1 sk.length 1 0 sk.length),(13,.sl 2 (qdc c cells place net i).length 1 0 (qdc c cells place net i).length),(14,.d (dI i))]) (fun i=>[.box [.d (dI c.inputs),.d (dIs c.next),.d (dPs c.gates),.d (dIs c.outs)],.row sk.length 1 true (sk.map (D.int .i64)),.row (qdc c cells place net i).length 1 true ((qdc c cells place net i).map (D.int .i64))])
       (fun i=>i<=cells.length/\(qdc c cells place net i).length<=1+i) (fun i=>cells.length-i) [] [] 1000 1000 ?_ ?_
      ·simp only[go_sem,seval];refine⟨0,⟨by omega,by simp[qdc,hsi,qaY]⟩,?_⟩;simp[qdc,hsi,qaY]
      ·rintro i ⟨hi,hil⟩;have hss:=qiD (c:=c) (cells:=cells) (place:=place) (net:=net) (i:=i);by_cases hit:i<cells.length
       ·generalize hx9:cells.getD i ce0=x at *
        generalize qdc c cells place net i=out at *
        simp only[go_sem,seval]
        repeat' first|assumption|(simp (disch:=first|assumption|omega|(simp;done)|(simp;omega)) only[yaa,qae,qaB,qah];try simp only[go_sem,seval,hx9])|(with_reducible first|apply And.intro|intro _)|((try rw[qaa]);omega)
        ·rename_i h9;rw[if_pos h9] at hss;refine⟨i+1,?_⟩;rw[hss];refine⟨⟨by omega,by simp;omega⟩,by omega,?_⟩
         repeat' apply And.intro
         all_goals first|rfl|(simp;done)|(simp;omega)
        ·rename_i h9;rw[if_neg h9,yaA] at hss;refine⟨i+1,?_⟩;rw[hss];refine⟨⟨by omega,by omega⟩,by omega,?_⟩
         repeat' apply And.intro
         all_goals rfl
       ·obtain rfl:i=cells.length:=by omega
        generalize qdc c cells place net cells.length=src at *
        simp only[go_sem,seval]
        repeat' first|assumption|(simp (disch:=first|assumption|omega|(simp;done)|(simp;omega)) only[yaa,qae,qaB,qah];try simp only[go_sem,seval])|(with_reducible first|apply And.intro|intro _)|((try rw[qaa]);omega)
        refine qai (E:=env 0) tok (σ:=Nat) (fun j=>[(9,.sl 1 sk.length 1 0 sk.length),(13,.sl 2 ((sk.take j).foldl addU src).length 1 0 ((sk.take j).foldl addU src).length),(15,.d (dI j))]) (fun j=>[.dead 0,.row sk.length 1 true (sk.map (D.int .i64)),.row ((sk.take j).foldl addU src).length 1 true (((sk.take j).foldl addU src).map (D.int .i64))])
         (fun j=>j<=sk.length/\((sk.take j).foldl addU src).length<=100+j) (fun j=>sk.length-j) [] [] 1000 1000 ?_ ?_
        ·simp only[go_sem,seval];refine⟨0,⟨by omega,by simp;omega⟩,?_⟩;simp
        ·rintro j ⟨hj,hjl⟩;by_cases hjt:j<sk.length
         ·have hfs:=qaw (f:=addU) (b:=src) (0:Int) hjt;have hha:=c_l7Has ((sk.take j).foldl addU src) (sk.getD j 0);generalize (sk.take j).foldl addU src=o2 at *
          simp only[go_sem,seval]
          repeat' first|assumption|(simp (disch:=first|assumption|omega|(simp;done)|(simp;omega)) only[yaa,qae,qaB,qah];try simp only[go_sem,seval])|(with_reducible first|apply And.intro|intro _)|(refine qad hha ?_;simp only[go_sem,seval])|((try rw[qaa]);omega)
          ·rename_i h9;have e:(sk.take (j+1)).foldl addU src=o2 ++ [sk.getD j 0]:=by rw[hfs,addU,if_neg h9]
           refine⟨j+1,?_⟩;rw[e];refine⟨⟨by omega,by simp;omega⟩,by omega,?_⟩
           repeat' apply And.intro
           all_goals first|rfl|(simp;done)
          ·rename_i h9;have e:(sk.take (j+1)).foldl addU src=o2:=by rw[hfs,addU,if_pos h9]
           refine⟨j+1,?_⟩;rw[e];refine⟨⟨by omega,by omega⟩,by omega,?_⟩
           repeat' apply And.intro
           all_goals rfl
         ·have e:sk.take j=sk:=yaa (by omega);rw[e];simp only[go_sem,seval]
          repeat' first|assumption|(simp (disch:=first|assumption|omega|(simp;done)|(simp;omega)) only[yaa,qae,qaB,qah];try simp only[go_sem,seval])|(with_reducible first|apply And.intro|intro _)|((try rw[qaa]);omega)
end Go.Proofs
