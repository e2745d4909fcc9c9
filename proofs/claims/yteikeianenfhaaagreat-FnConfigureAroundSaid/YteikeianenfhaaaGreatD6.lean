/- Contracts: the nets of a circuit, and whether a placement is valid. Conditions: none; lemmas. -/
import Derived.Test.YteikeianenfhaaaGreatD1
import Derived.Test.YteikeianenfhaaaGreatF3
set_option maxRecDepth 20000
set_option linter.unusedVariables false
set_option linter.unusedSimpArgs false
set_option maxHeartbeats 2000000
namespace Go.Proofs
set_option linter.defProp false
open Go Go.VL Tryz
def qlZ {x:Cel}(h:x.inputs.Nodup) (net:Int) (i:Nat):qfl x net i=if net∈x.inputs then [(i:Int)] else []:=by
 unfold qfl;have key : ∀ l:List Int,l.Nodup->(l.filter fun z=>decide (z=net)).length=if net∈l then 1 else 0:=by
  intro l;induction l with
  | nil=>exact fun _=>rfl
  | cons z l ih=>
   intro h;rw[List.nodup_cons] at h;have:=ih h.2;by_cases e:z=net
   ·subst e;rw[if_neg h.1] at this;simp only[List.filter_cons,decide_true,if_true,yaf,this,yaE,true_or]
   ·rw[List.filter_cons,if_neg (by simpa using e),this];have:net∈z::l↔net∈l:=by simp[Ne.symm e]
    simp only[this]
 have hk:=key _ h;generalize hl:(x.inputs.filter fun z=>decide (z=net))=l at *
 split
 ·rename_i hm;rw[if_pos hm] at hk;obtain⟨z,rfl⟩:=List.length_eq_one_iff.1 hk;rfl
 ·rename_i hm;rw[if_neg hm] at hk;rw[List.length_eq_zero_iff.1 hk];rfl
def qd4 {cells:List Cel}(h : ∀ x∈cells,x.inputs.Nodup) (net:Int) : ∀ i,i<=cells.length->(qba cells net i).length<=i
 | 0,_=>by simp[qba]
 | i+1,hi=>by
  have ih:=qd4 h net i (by omega);rw[qba,qlZ (h _ (qad (by omega):cells.getD i ce0∈cells)),yae];split <;> simp <;> omega
abbrev dNi (n:Nin):D:=.agg [dI n.net,dI n.cell,dI n.tile,dIs n.sinks,dIs n.pads]
abbrev dNis (l:List Nin):D:=.lst 5 (l.map fun x=>dNi x)
def qaU {l:List Nin}{i:Nat}{z:D}(h:i<l.length):(l.map fun x=>dNi x).getD i z=dNi (l.getD i nin0):=getD_lt _ _ _ _ _ h
def Tryz.c_padTile (o:Int) (h:0<=o/\o<=100):Pure prog 148 [dI o] (dI (o*5+4)):=by
 refine qax func148 rfl ntmps148 fun ok=>?_
 simp only[go_sem,seval] at ok
 repeat' first|assumption|(simp (disch:=first|assumption|omega|(simp;done)|(simp;omega)) only[go_sem,seval,yaa,qah])|(with_reducible first|apply And.intro|intro _)|((try rw[qaa]);omega)
def Tryz.c_NetSinks (c:Circ) (hc:c.Valid) (net:Int):Pure prog 186 [dC c,dI net] (dIs (qdm (qae c) net)):=by
 have hce:=c_Cells c hc;have hcl:=qby hc;have hin:=qdk hc;refine qax func186 rfl ntmps186 fun ok=>?_
 simp only[go_sem,seval] at ok
 repeat' first|assumption|(simp (disch:=first|assumption|omega|(simp;done)|(simp;omega)) only[go_sem,seval,yaa,qah])|(with_reducible first|apply And.intro|intro _)|(refine qbJ hce ?_)|((try rw[qaa]);omega)
 have hsd:qdm (qae c) net=qba (qae c) net (qae c).length:=rfl;rw[hsd];generalize qae c=cells at *
 refine qaf (E:=env 0) tok (σ:=Nat) (fun i=>[(1,.d (dI net)),(5,.sl 1 (qba cells net i).length 1 0 (qba cells net i).length),(9,.d (dCes cells)),(10,.d (dI cells.length)),(11,.d (dI i))]) (fun i=>[.dead 0,.row (qba cells net i).length 1 true ((qba cells net i).map (D.int .i64))]) (fun i=>i<=cells.length) (fun i=>cells.length-i) [] [(5,1,true)] 1000 1000 ?_ ?_
 ·simp only[go_sem,seval];exact⟨0,by omega,by simp[qba]⟩
 ·intro i hi;by_cases hlt:i<cells.length
  ·have hx:=hin _ (qad hlt:cells.getD i ce0∈cells);have hsn:qba cells net (i+1)=qba cells net i++qfl (cells.getD i ce0) net i:=rfl;rw[qlZ hx.2.1] at hsn;have hql:=qd4 (fun x hx=>(hin x hx).2.1) net i (by omega);have hct:=c_ContainsJ (cells.getD i ce0).inputs net (by omega);generalize hx9:cells.getD i ce0=x at *
   generalize qba cells net i=q at *
   repeat' first|assumption|(simp (disch:=first|assumption|omega|(simp;done)|(simp;omega)) only[go_sem,seval,hx9,yaa,qah])|(with_reducible first|apply And.intro|intro _)|(refine qac hct ?_)|((try rw[qaa]);omega)
   ·rename_i h1;rw[if_pos h1] at hsn;refine⟨i+1,by omega,by omega,⟨?_,rfl⟩,?_,?_⟩ <;> rw[hsn] <;> simp
   ·rename_i h1;rw[if_neg h1,yaG] at hsn;refine⟨i+1,by omega,by omega,⟨?_,rfl⟩,?_,?_⟩ <;> rw[hsn]
  ·obtain rfl:i=cells.length:=by omega
   repeat' first|assumption|(simp (disch:=first|assumption|omega|(simp;done)|(simp;omega)) only[go_sem,seval,yaa,qah])|(with_reducible first|apply And.intro|intro _)|((try rw[qaa]);omega)
def Tryz.c_tiles (n:Nin) (place:List Int) (hs : ∀ i∈n.sinks,0<=i/\i<place.length) (hk:n.cell<place.length) (hl:n.sinks.length<=1000) (hl2:n.pads.length<=1000) (hp:place.length<=1000):Pure prog 187 [dNi n,dIs place] (dIs (qa7 n place)):=by
 refine qax func187 rfl ntmps187 fun ok=>?_
 simp only[go_sem,seval] at ok⊢;have hT:qa7 n place=srcT n place::(n.sinks.map (qbH place)++n.pads):=rfl;rw[hT]
 repeat' first|assumption|(simp (disch:=first|assumption|omega|(simp;done)|(simp;omega)) only[go_sem,seval,yaa,qah])|(with_reducible first|apply And.intro|intro _)|((try rw[qaa]);omega)
 ·rename_i h9;rw[show srcT n place=place.getD n.cell.toNat 0 from if_pos h9];generalize place.getD n.cell.toNat 0=s at *
  refine qaf (E:=env 0) tok (σ:=Nat) (fun i=>[(1,.d (dIs place)),(2,.ptr 0 0),(5,.sl 1 i 1 0 (i+1)),(22,.d (dIs n.sinks)),(23,.d (dI n.sinks.length)),(24,.d (dI i))]) (fun i=>[.box [.d (dI n.net),.d (dI n.cell),.d (dI n.tile),.d (dIs n.sinks),.d (dIs n.pads)],.row i 1 true ((s::(n.sinks.take i).map (qbH place)).map (D.int .i64))]) (fun i=>i<=n.sinks.length) (fun i=>n.sinks.length-i) [] [] 1000 1000 ?_ ?_
  ·simp only[go_sem,seval];exact⟨0,by omega,by simp⟩
  ·intro i hi;by_cases hlt:i<n.sinks.length
   ·have hts:(n.sinks.take (i+1)).map (qbH place)=(n.sinks.take i).map (qbH place) ++ [qbH place (n.sinks.getD i 0)]:=qaT 0 hlt;have hb:=hs _ (qad hlt:n.sinks.getD i 0∈n.sinks);have hql:(s::(n.sinks.take i).map (qbH place)).length=i+1:=by simp;omega
    have htd:qbH place (n.sinks.getD i 0)=place.getD (n.sinks.getD i 0).toNat 0:=rfl;generalize hx9:n.sinks.getD i 0=x at *
    have hq2:s::(n.sinks.take (i+1)).map (qbH place)=(s::(n.sinks.take i).map (qbH place)) ++ [place.getD x.toNat 0]:=by rw[hts,htd];rfl
    generalize (s::(n.sinks.take i).map (qbH place))=q at *
    repeat' first|assumption|(simp (disch:=first|assumption|omega|(simp;done)|(simp;omega)) only[go_sem,seval,hx9,hql,yaa,qah])|(with_reducible first|apply And.intro|intro _)|((try rw[qaa]);omega)
    refine⟨i+1,by omega,by omega,rfl,rfl,?_⟩;rw[<-hq2];rfl
   ·obtain rfl:i=n.sinks.length:=by omega
    rw[yaA]
    repeat' first|assumption|(simp (disch:=first|assumption|omega|(simp;done)|(simp;omega)) only[go_sem,seval,yaa,qah])|(with_reducible first|apply And.intro|intro _)|((try rw[qaa]);omega)
 ·rename_i h9;rw[show srcT n place=n.tile from if_neg h9];generalize n.tile=s at *
  refine qaf (E:=env 0) tok (σ:=Nat) (fun i=>[(1,.d (dIs place)),(2,.ptr 0 0),(5,.sl 1 i 1 0 (i+1)),(22,.d (dIs n.sinks)),(23,.d (dI n.sinks.length)),(24,.d (dI i))]) (fun i=>[.box [.d (dI n.net),.d (dI n.cell),.d (dI s),.d (dIs n.sinks),.d (dIs n.pads)],.row i 1 true ((s::(n.sinks.take i).map (qbH place)).map (D.int .i64))]) (fun i=>i<=n.sinks.length) (fun i=>n.sinks.length-i) [] [] 1000 1000 ?_ ?_
  ·simp only[go_sem,seval];exact⟨0,by omega,by simp⟩
  ·intro i hi;by_cases hlt:i<n.sinks.length
   ·have hts:(n.sinks.take (i+1)).map (qbH place)=(n.sinks.take i).map (qbH place) ++ [qbH place (n.sinks.getD i 0)]:=qaT 0 hlt;have hb:=hs _ (qad hlt:n.sinks.getD i 0∈n.sinks);have hql:(s::(n.sinks.take i).map (qbH place)).length=i+1:=by simp;omega
    have htd:qbH place (n.sinks.getD i 0)=place.getD (n.sinks.getD i 0).toNat 0:=rfl;generalize hx9:n.sinks.getD i 0=x at *
    have hq2:s::(n.sinks.take (i+1)).map (qbH place)=(s::(n.sinks.take i).map (qbH place)) ++ [place.getD x.toNat 0]:=by rw[hts,htd];rfl
    generalize (s::(n.sinks.take i).map (qbH place))=q at *
    repeat' first|assumption|(simp (disch:=first|assumption|omega|(simp;done)|(simp;omega)) only[go_sem,seval,hx9,hql,yaa,qah])|(with_reducible first|apply And.intro|intro _)|((try rw[qaa]);omega)
    refine⟨i+1,by omega,by omega,rfl,rfl,?_⟩;rw[<-hq2];rfl
   ·obtain rfl:i=n.sinks.length:=by omega
    rw[yaA]
    repeat' first|assumption|(simp (disch:=first|assumption|omega|(simp;done)|(simp;omega)) only[go_sem,seval,yaa,qah])|(with_reducible first|apply And.intro|intro _)|((try rw[qaa]);omega)
end Go.Proofs
