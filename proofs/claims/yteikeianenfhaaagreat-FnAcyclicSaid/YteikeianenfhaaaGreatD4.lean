/- Contracts, plain definitions and lemmas. Conditions: none; lemmas. -/
import Derived.Test.YteikeianenfhaaaGreatD1
import Derived.Test.YteikeianenfhaaaGreatD3
set_option maxRecDepth 20000
set_option linter.unusedVariables false
set_option linter.unusedSimpArgs false
set_option maxHeartbeats 2000000
namespace Go.Proofs
set_option linter.defProp false
open Go Go.VL Tryz
def qlH {x:Cel}(h:x.inputs.Nodup) (net:Int) (i:Nat):qfa x net i=if net∈x.inputs then [(i:Int)] else []:=by
 unfold qfa;have key : ∀ l:List Int,l.Nodup->(l.filter fun z=>decide (z=net)).length=if net∈l then 1 else 0:=by
  intro l;induction l with
  | nil=>exact fun _=>rfl
  | cons z l ih=>
   intro h;rw[List.nodup_cons] at h;have:=ih h.2;by_cases e:z=net
   ·subst e;rw[if_neg h.1] at this;simp only[List.filter_cons,decide_true,if_true,yag,this,yaz,true_or]
   ·rw[List.filter_cons,if_neg (by simpa using e),this];have:net∈z::l↔net∈l:=by simp[Ne.symm e]
    simp only[this]
 have hk:=key _ h;generalize hl:(x.inputs.filter fun z=>decide (z=net))=l at *
 split
 ·rename_i hm;rw[if_pos hm] at hk;obtain⟨z,rfl⟩:=List.length_eq_one_iff.1 hk;rfl
 ·rename_i hm;rw[if_neg hm] at hk;rw[List.length_eq_zero_iff.1 hk];rfl
def qd0 {cells:List Cel}(h : ∀ x∈cells,x.inputs.Nodup) (net:Int) : ∀ i,i<=cells.length->(qbf cells net i).length<=i
 | 0,_=>by simp[qbf]
 | i+1,hi=>by
  have ih:=qd0 h net i (by omega);rw[qbf,qlH (h _ (qae (by omega):cells.getD i ce0∈cells)),yaf];split <;> simp <;> omega
abbrev dNi (n:Nin):D:=.agg [dI n.net,dI n.cell,dI n.tile,dIs n.sinks,dIs n.pads]
abbrev dNis (l:List Nin):D:=.lst 5 (l.map fun x=>dNi x)
def qaY {l:List Nin}{i:Nat}{z:D}(h:i<l.length):(l.map fun x=>dNi x).getD i z=dNi (l.getD i nin0):=getD_lt _ _ _ _ _ h
def Tryz.c_padTile (o:Int) (h:0<=o/\o<=100):Pure prog 148 [dI o] (dI (o*5+4)):=by
 refine qaC func148 rfl ntmps148 fun ok=>?_
 simp only[go_sem,seval] at ok
 repeat' first|assumption|(simp (disch:=first|assumption|omega|(simp;done)|(simp;omega)) only[go_sem,seval,yaa,qai])|(with_reducible first|apply And.intro|intro _)|((try rw[qaa]);omega)
def Tryz.c_NetSinks (c:Circ) (hc:c.Valid) (net:Int):Pure prog 186 [dC c,dI net] (dIs (qdj (qaf c) net)):=by
 have hce:=c_Cells c hc;have hcl:=qbA hc;have hin:=qdg hc;refine qaC func186 rfl ntmps186 fun ok=>?_
 simp only[go_sem,seval] at ok
 repeat' first|assumption|(simp (disch:=first|assumption|omega|(simp;done)|(simp;omega)) only[go_sem,seval,yaa,qai])|(with_reducible first|apply And.intro|intro _)|(refine qbK hce ?_)|((try rw[qaa]);omega)
 have hsd:qdj (qaf c) net=qbf (qaf c) net (qaf c).length:=rfl;rw[hsd];generalize qaf c=cells at *
 refine qah (E:=env 0) tok (σ:=Nat) (fun i=>[(1,.d (dI net)),(5,.sl 1 (qbf cells net i).length 1 0 (qbf cells net i).length),(9,.d (dCes cells)),(10,.d (dI cells.length)),(11,.d (dI i))]) (fun i=>[.dead 0,.row (qbf cells net i).length 1 true ((qbf cells net i).map (D.int .i64))]) (fun i=>i<=cells.length) (fun i=>cells.length-i) [] [(5,1,true)] 1000 1000 ?_ ?_
 ·simp only[go_sem,seval];exact⟨0,by omega,by simp[qbf]⟩
 ·intro i hi;by_cases hlt:i<cells.length
  ·have hx:=hin _ (qae hlt:cells.getD i ce0∈cells);have hsn:qbf cells net (i+1)=qbf cells net i++qfa (cells.getD i ce0) net i:=rfl;rw[qlH hx.2.1] at hsn;have hql:=qd0 (fun x hx=>(hin x hx).2.1) net i (by omega);have hct:=c_ContainsJ (cells.getD i ce0).inputs net (by omega);generalize hx9:cells.getD i ce0=x at *
   generalize qbf cells net i=q at *
   repeat' first|assumption|(simp (disch:=first|assumption|omega|(simp;done)|(simp;omega)) only[go_sem,seval,hx9,yaa,qai])|(with_reducible first|apply And.intro|intro _)|(refine qad hct ?_)|((try rw[qaa]);omega)
   ·rename_i h1;rw[if_pos h1] at hsn;refine⟨i+1,by omega,by omega,⟨?_,rfl⟩,?_,?_⟩ <;> rw[hsn] <;> simp
   ·rename_i h1;rw[if_neg h1,yaD] at hsn;refine⟨i+1,by omega,by omega,⟨?_,rfl⟩,?_,?_⟩ <;> rw[hsn]
  ·obtain rfl:i=cells.length:=by omega
   repeat' first|assumption|(simp (disch:=first|assumption|omega|(simp;done)|(simp;omega)) only[go_sem,seval,yaa,qai])|(with_reducible first|apply And.intro|intro _)|((try rw[qaa]);omega)
def Tryz.c_tiles (n:Nin) (place:List Int) (hs : ∀ i∈n.sinks,0<=i/\i<place.length) (hk:n.cell<place.length) (hl:n.sinks.length<=1000) (hl2:n.pads.length<=1000) (hp:place.length<=1000):Pure prog 187 [dNi n,dIs place] (dIs (qbb n place)):=by
 refine qaC func187 rfl ntmps187 fun ok=>?_
 simp only[go_sem,seval] at ok⊢;have hT:qbb n place=srcT n place::(n.sinks.map (qbJ place)++n.pads):=rfl;rw[hT]
 repeat' first|assumption|(simp (disch:=first|assumption|omega|(simp;done)|(simp;omega)) only[go_sem,seval,yaa,qai])|(with_reducible first|apply And.intro|intro _)|((try rw[qaa]);omega)
 ·rename_i h9;rw[show srcT n place=place.getD n.cell.toNat 0 from if_pos h9];generalize place.getD n.cell.toNat 0=s at *
  refine qah (E:=env 0) tok (σ:=Nat) (fun i=>[(1,.d (dIs place)),(2,.ptr 0 0),(5,.sl 1 i 1 0 (i+1)),(22,.d (dIs n.sinks)),(23,.d (dI n.sinks.length)),(24,.d (dI i))]) (fun i=>[.box [.d (dI n.net),.d (dI n.cell),.d (dI n.tile),.d (dIs n.sinks),.d (dIs n.pads)],.row i 1 true ((s::(n.sinks.take i).map (qbJ place)).map (D.int .i64))]) (fun i=>i<=n.sinks.length) (fun i=>n.sinks.length-i) [] [] 1000 1000 ?_ ?_
  ·simp only[go_sem,seval];exact⟨0,by omega,by simp⟩
  ·intro i hi;by_cases hlt:i<n.sinks.length
   ·have hts:(n.sinks.take (i+1)).map (qbJ place)=(n.sinks.take i).map (qbJ place) ++ [qbJ place (n.sinks.getD i 0)]:=qaX 0 hlt;have hb:=hs _ (qae hlt:n.sinks.getD i 0∈n.sinks);have hql:(s::(n.sinks.take i).map (qbJ place)).length=i+1:=by simp;omega
    have htd:qbJ place (n.sinks.getD i 0)=place.getD (n.sinks.getD i 0).toNat 0:=rfl;generalize hx9:n.sinks.getD i 0=x at *
    have hq2:s::(n.sinks.take (i+1)).map (qbJ place)=(s::(n.sinks.take i).map (qbJ place)) ++ [place.getD x.toNat 0]:=by rw[hts,htd];rfl
    generalize (s::(n.sinks.take i).map (qbJ place))=q at *
    repeat' first|assumption|(simp (disch:=first|assumption|omega|(simp;done)|(simp;omega)) only[go_sem,seval,hx9,hql,yaa,qai])|(with_reducible first|apply And.intro|intro _)|((try rw[qaa]);omega)
    refine⟨i+1,by omega,by omega,rfl,rfl,?_⟩;rw[<-hq2];rfl
   ·obtain rfl:i=n.sinks.length:=by omega
    rw[yax]
    repeat' first|assumption|(simp (disch:=first|assumption|omega|(simp;done)|(simp;omega)) only[go_sem,seval,yaa,qai])|(with_reducible first|apply And.intro|intro _)|((try rw[qaa]);omega)
 ·rename_i h9;rw[show srcT n place=n.tile from if_neg h9];generalize n.tile=s at *
  refine qah (E:=env 0) tok (σ:=Nat) (fun i=>[(1,.d (dIs place)),(2,.ptr 0 0),(5,.sl 1 i 1 0 (i+1)),(22,.d (dIs n.sinks)),(23,.d (dI n.sinks.length)),(24,.d (dI i))]) (fun i=>[.box [.d (dI n.net),.d (dI n.cell),.d (dI s),.d (dIs n.sinks),.d (dIs n.pads)],.row i 1 true ((s::(n.sinks.take i).map (qbJ place)).map (D.int .i64))]) (fun i=>i<=n.sinks.length) (fun i=>n.sinks.length-i) [] [] 1000 1000 ?_ ?_
  ·simp only[go_sem,seval];exact⟨0,by omega,by simp⟩
  ·intro i hi;by_cases hlt:i<n.sinks.length
   ·have hts:(n.sinks.take (i+1)).map (qbJ place)=(n.sinks.take i).map (qbJ place) ++ [qbJ place (n.sinks.getD i 0)]:=qaX 0 hlt;have hb:=hs _ (qae hlt:n.sinks.getD i 0∈n.sinks);have hql:(s::(n.sinks.take i).map (qbJ place)).length=i+1:=by simp;omega
    have htd:qbJ place (n.sinks.getD i 0)=place.getD (n.sinks.getD i 0).toNat 0:=rfl;generalize hx9:n.sinks.getD i 0=x at *
    have hq2:s::(n.sinks.take (i+1)).map (qbJ place)=(s::(n.sinks.take i).map (qbJ place)) ++ [place.getD x.toNat 0]:=by rw[hts,htd];rfl
    generalize (s::(n.sinks.take i).map (qbJ place))=q at *
    repeat' first|assumption|(simp (disch:=first|assumption|omega|(simp;done)|(simp;omega)) only[go_sem,seval,hx9,hql,yaa,qai])|(with_reducible first|apply And.intro|intro _)|((try rw[qaa]);omega)
    refine⟨i+1,by omega,by omega,rfl,rfl,?_⟩;rw[<-hq2];rfl
   ·obtain rfl:i=n.sinks.length:=by omega
    rw[yax]
    repeat' first|assumption|(simp (disch:=first|assumption|omega|(simp;done)|(simp;omega)) only[go_sem,seval,yaa,qai])|(with_reducible first|apply And.intro|intro _)|((try rw[qaa]);omega)
end Go.Proofs

set_option linter.unusedVariables false
set_option linter.unusedSimpArgs false
namespace Go.VL
set_option linter.defProp false
def qpY {hops:List (Int×Int)}(hn:(qan hops).Nodup) {i j:Nat}(hi:i<hops.length) (hj:j<hops.length) (h:(hops.getD i (0,0)).1=(hops.getD j (0,0)).1):i=j:=by
 refine qen.1 hn i j (by simp[qan];omega) (by simp[qan];omega) ?_;have e : ∀ k,k<hops.length->(qan hops).getD k 0=(hops.getD k (0,0)).1:=fun k hk=>by simp[qan,List.getD,hk]
 rw[e i hi,e j hj,h]
def qiY {c:Circ}{cells:List Cel}{place:List Int} : ∀ k:Nat,(qep c cells place k).Nodup/\(∀ n∈qep c cells place k,1<=n/\n<=k)/\(qep c cells place k).length<=k
 | 0=>by simp[qep]
 | k+1=>by
  obtain⟨h1,h2,h3⟩:=qiY (c:=c) (cells:=cells) (place:=place) k;rw[qf3];split
  ·rw[yaD];exact⟨h1,fun n hn=>by have:=h2 n hn;omega,by omega⟩
  ·refine⟨?_,fun n hn=>?_,by simp;omega⟩
   ·rw[ybl];refine⟨h1,by simp,fun a ha b hb e=>?_⟩;obtain rfl:b=(k:Int)+1:=by simpa using hb
    have:=h2 a ha;omega
   ·rcases List.mem_append.1 hn with h|h
    ·have:=h2 n h;omega
    ·obtain rfl:n=(k:Int)+1:=by simpa using h
     omega
structure RtsOk (routes:List Rt):Prop where
 nd:(routes.map (·.net)).Nodup
 net : ∀ r∈routes,1<=r.net
 tree : ∀ r∈routes,∃ busy,TreeOk busy r.hops
 len:routes.length<=100
def RtsOk.hops {routes:List Rt}(h:RtsOk routes) : ∀ r∈routes,r.hops.length<=25:=fun r hr=>by
 obtain⟨b,hb⟩:=h.tree r hr;exact qcZ hb
end Go.VL
