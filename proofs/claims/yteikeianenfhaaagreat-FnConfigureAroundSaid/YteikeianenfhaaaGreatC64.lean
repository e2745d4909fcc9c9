/- Contracts, plain definitions and lemmas. Conditions: none; lemmas. -/
import Derived.Test.YteikeianenfhaaaGreatC72
import Derived.Test.YteikeianenfhaaaGreatC63
set_option maxRecDepth 20000
set_option linter.unusedVariables false
set_option linter.unusedSimpArgs false
set_option maxHeartbeats 2000000
namespace Go.Proofs
set_option linter.defProp false
open Go Go.VL Tryz
def qlE {c:Circ}(hc:c.Valid) : ∀ x∈qae c,x.inputs.length<=3:=by
 intro x hx;rcases List.mem_append.1 hx with h|h
 ·obtain⟨i,hi,rfl⟩:=List.mem_map.1 h;unfold qaM;split <;> simp
 ·obtain⟨l,hl,rfl⟩:=List.mem_map.1 h;obtain⟨m,hm,rfl⟩:=(qdb hc).each l hl;exact(qcI hc hm).2.1
def Tryz.c_l7Cost (c:Circ) (hc:c.Valid) (cells:List Cel) (hcl:cells.length<=25) (hci : ∀ x∈cells,x.inputs.length<=3) (place:List Int) (hp:PlaceOk cells.length place) :
  Pure prog 138 [dC c,dCes cells,dIs place] (dI (qdy c cells place)):=by
 have hf:=hc.first_bd;have hv:=hc.vars_bd;have hi0:=hc.i0;have hi1:=hc.i1;have hvv:c.vars=c.first+(c.gates.length:Int):=rfl
 have hfst:=c_l1First c (by omega);have k3:scal (dI c.first):=by show InK .i64 _;rw[qaa];omega
 have hcb:=qns hc hp;have hpb:=fun net=>qgz hc hp (net:=net)
 refine qax func138 rfl ntmps138 fun ok=>?_
 simp only[go_sem,seval] at ok
 repeat' first|assumption|(simp (disch:=first|assumption|omega|(simp;done)|(simp;omega)) only[go_sem,seval,yaa])|(with_reducible first|apply And.intro|intro _)|exact lexT|((try rw[qaa]);omega)
 refine qaw (E:=env 0) tok (σ:=Nat) (fun k=>[(0,.d (dC c)),(1,.d (dCes cells)),(2,.d (dIs place)),(3,.ptr 0 0),(7,.d (dI (qhg c cells place k))),(8,.d (dI ((k:Int)+1)))]) (fun _=>[.box [.d (dI c.inputs),.d (dIs c.next),.d (dPs c.gates),.d (dIs c.outs)]]) (fun k=>(k:Int)<=c.vars-1) (fun k=>c.vars.toNat-k) [] 1000 1000 ?_ ?_ ?_
 ·simp only[go_sem,seval]
 ·simp only[go_sem,seval];exact⟨0,by omega,rfl,rfl⟩
 ·intro k hk;have hck:=hcb k;have ek:(k:Int)+1=((k+1:Nat):Int):=by omega
  have hcs:qhg c cells place (k+1)=qhg c cells place k+qeP (qdx c cells place ((k+1:Nat):Int)):=by rw[<-ek];rfl
  have hdb:=qkD (hpb ((k+1:Nat):Int));by_cases hlt:(k:Int)<c.vars-1
  ·have h1:=c_l7Pins c hc cells hcl hci place hp ((k+1:Nat):Int) (by omega);have h2:=c_l7Dist _ (hpb ((k+1:Nat):Int))
   repeat' first|assumption|(simp (disch:=first|assumption|omega|(simp;done)|(simp;omega)) only[go_sem,seval,yaa])|(with_reducible first|apply And.intro|intro _)|(refine qcD (fun _=>⟨hfst,k3⟩) ?_)|(refine qac h1 ?_)|(refine qac h2 ?_)|exact lexT|((try rw[qaa]);omega)
   exact⟨k+1,by omega,by omega,hcs.symm,rfl⟩
  ·repeat' first|assumption|(simp (disch:=first|assumption|omega|(simp;done)|(simp;omega)) only[go_sem,seval,yaa])|(with_reducible first|apply And.intro|intro _)|(refine qcD (fun _=>⟨hfst,k3⟩) ?_)|exact lexT|((try rw[qaa]);omega)
   rw[qdy,show k=c.vars.toNat-1 by omega]
def Tryz.c_l7Try (place:List Int) (i:Nat) (tile:Int) (hi:i<place.length) (hl:place.length<=25):Pure prog 139 [dIs place,dI i,dI tile] (dIs (tryP place i tile)):=by
 refine qax func139 rfl ntmps139 fun ok=>?_
 simp only[go_sem,seval] at ok
 repeat' first|assumption|(simp (disch:=first|assumption|omega|(simp;done)|(simp;omega)) only[go_sem,seval,yaa])|(with_reducible first|apply And.intro|intro _)|exact lexT|((try rw[qaa]);omega)
 refine qaw (E:=env 0) tok (σ:=Nat×List Int) (fun s=>[(0,.d (dIs place)),(1,.d (dI i)),(2,.d (dI tile)),(7,.sl 0 1 1 0 place.length),(8,.d (dI s.1))]) (fun s=>[.row 1 1 true (s.2.map (D.int .i64))])
  (fun s=>s.1<=place.length/\s.2.length=place.length/\∀ j,j<place.length->s.2.getD j 0=if j<s.1/\place.getD j 0=tile then place.getD i 0 else place.getD j 0) (fun s=>place.length-s.1) [] 1000 1000 ?_ ?_ ?_
 ·simp only[go_sem,seval]
 ·simp only[go_sem,seval];exact⟨(0,place),⟨by simp,rfl,fun j hj=>by simp⟩,rfl,rfl⟩
 ·rintro⟨k,q⟩ ⟨hk,hql,hq⟩;simp only at hk hql hq;by_cases hkt:k<place.length
  ·have hqk:=hq k hkt;rw[if_neg (by omega)] at hqk
   repeat' first|assumption|(simp (disch:=first|assumption|omega|(simp;done)|(simp;omega)) only[go_sem,seval,yaa])|(with_reducible first|apply And.intro|intro _)|exact lexT|((try rw[qaa]);omega)
   ·rename_i h9;rw[hqk] at h9;refine⟨(k+1,q.set k (place.getD i 0)),⟨by simp only;omega,by simp only[yas];exact hql,fun j hj=>?_⟩,by simp only;omega,rfl,rfl⟩;simp only;rw[qcp (by omega),hq j hj];by_cases hjk:k=j
    ·subst hjk;rw[if_pos rfl,if_pos ⟨by omega,h9⟩]
    ·rw[if_neg hjk];by_cases h2:j<k/\place.getD j 0=tile
     ·rw[if_pos h2,if_pos ⟨by omega,h2.2⟩]
     ·rw[if_neg h2,if_neg (fun h=>h2 ⟨by omega,h.2⟩)]
   ·rename_i h9;rw[hqk] at h9;refine⟨(k+1,q),⟨by simp only;omega,hql,fun j hj=>?_⟩,by simp only;omega,rfl,rfl⟩;simp only;rw[hq j hj];by_cases h2:j<k/\place.getD j 0=tile
    ·rw[if_pos h2,if_pos ⟨by omega,h2.2⟩]
    ·rw[if_neg h2,if_neg (fun h=>by
      by_cases hjk:j=k
      ·subst hjk;exact h9 h.2
      ·exact h2 ⟨by omega,h.2⟩)]
  ·have e:q.set i tile=tryP place i tile:=by
    refine qda 0 (by rw[yas,qgA,hql]) fun j hj=>?_
    rw[yas,hql] at hj;rw[qgB hj,qcp (by omega),hq j hj];by_cases hji:j=i
    ·rw[if_pos hji.symm,if_pos hji]
    ·rw[if_neg (Ne.symm hji),if_neg hji];by_cases h2:place.getD j 0=tile
     ·rw[if_pos ⟨by omega,h2⟩,if_pos h2]
     ·rw[if_neg (fun h=>h2 h.2),if_neg h2]
   repeat' first|assumption|(simp (disch:=first|assumption|omega|(simp;done)|(simp;omega)) only[go_sem,seval,yaa])|(with_reducible first|apply And.intro|intro _)|exact lexT|((try rw[qaa]);omega)
def Tryz.c_l7Place (c:Circ) (hc:c.Valid) (cells:List Cel) (hcl:cells.length<=25) (hci : ∀ x∈cells,x.inputs.length<=3):PureF prog 75 [dC c,dCes cells] (dIs (qb4 c cells)):=by
 refine qcE (E:=env 0) tok rfl 1000 func75 rfl rfl ntmps75 (by simp) fun ok=>?_
 simp only[go_sem,seval] at ok
 repeat' first|assumption|(simp (disch:=first|assumption|omega|(simp;done)|(simp;omega)) only[go_sem,seval,yaa])|(with_reducible first|apply And.intro|intro _)|exact lexT|((try rw[qaa]);omega)
 refine qaf (E:=env 0) tok (σ:=Nat) (fun i=>[(0,.d (dC c)),(1,.d (dCes cells)),(2,.ptr 0 0),(5,.sl 1 i 1 0 i),(6,.d (dI i))]) (fun i=>[.box [.d (dI c.inputs),.d (dIs c.next),.d (dPs c.gates),.d (dIs c.outs)],.row i 1 true ((qcK i).map (D.int .i64))]) (fun i=>i<=cells.length) (fun i=>cells.length-i) [] [] 1000 1000 ?_ ?_
 ·simp only[go_sem,seval];exact⟨0,by omega,by simp[qcK]⟩
 ·intro i hi;have hil:(qcK i).length=i:=by simp[qcK]
  have his:qcK (i+1)=qcK i ++ [(i:Int)]:=by rw[qcK,yaH,yaz];rfl
  by_cases hlt:i<cells.length
  ·generalize qcK i=q at *
   simp only[go_sem,seval]
   repeat' first|assumption|(simp (disch:=first|assumption|omega|(simp;done)|(simp;omega)) only[go_sem,seval,hil,yaa])|(with_reducible first|apply And.intro|intro _)|exact lexT|((try rw[qaa]);omega)
   refine⟨i+1,by omega,by omega,?_⟩;rw[his]
   repeat' apply And.intro
   all_goals rfl
  ·obtain rfl:i=cells.length:=by omega
   have hpo:=qkF (n:=cells.length) (by omega);have hcost:=fun p (h:PlaceOk cells.length p)=>c_l7Cost c hc cells hcl hci p h
   have hpd:qb4 c cells=((List.range 3).foldl (qcS c cells) (qcK cells.length,qdy c cells (qcK cells.length))).1:=rfl;have hsw:=qgD (c:=c) (cells:=cells) hcl;generalize qcK cells.length=P0 at *
   simp only[go_sem,seval]
   repeat' first|assumption|(simp (disch:=first|assumption|omega|(simp;done)|(simp;omega)) only[go_sem,seval,hil,yaa])|(with_reducible first|apply And.intro|intro _)|(refine qac (hcost _ hpo) ?_)|exact lexT|((try rw[qaa]);omega)
   refine qaf (E:=env 0) tok (σ:=Nat) (fun s=>[(0,.d (dC c)),(1,.d (dCes cells)),(2,.ptr 0 0),(5,.d (dIs ((List.range s).foldl (qcS c cells) (P0,qdy c cells P0)).1)),(7,.d (dI ((List.range s).foldl (qcS c cells) (P0,qdy c cells P0)).2)),(8,.d (dI s))]) (fun s=>[.box [.d (dI c.inputs),.d (dIs c.next),.d (dPs c.gates),.d (dIs c.outs)]]) (fun s=>s<=3) (fun s=>3-s) [] [] 1000 1000 ?_ ?_
   ·simp only[go_sem,seval];refine⟨0,by omega,?_⟩;simp[hil];exact yaa (by omega)
   ·intro s hs;have hS:=hsw s;have hS1:(List.range (s+1)).foldl (qcS c cells) (P0,qdy c cells P0)=qcS c cells ((List.range s).foldl (qcS c cells) (P0,qdy c cells P0)) s:=qaW;generalize hS9:(List.range s).foldl (qcS c cells) (P0,qdy c cells P0)=S at *
    have hmid:=qgC (c:=c) hS;have hSd:qcS c cells S s=(List.range cells.length).foldl (rowP c cells) S:=rfl;by_cases hst:s<3
    ·repeat' first|assumption|(simp (disch:=first|assumption|omega|(simp;done)|(simp;omega)) only[go_sem,seval,yaa])|(with_reducible first|apply And.intro|intro _)|exact lexT|((try rw[qaa]);omega)
     refine qaf (E:=env 0) tok (σ:=Nat) (fun i=>[(0,.d (dC c)),(1,.d (dCes cells)),(2,.ptr 0 0),(5,.d (dIs ((List.range i).foldl (rowP c cells) S).1)),(7,.d (dI ((List.range i).foldl (rowP c cells) S).2)),(8,.d (dI s)),(9,.d (dI i))]) (fun i=>[.box [.d (dI c.inputs),.d (dIs c.next),.d (dPs c.gates),.d (dIs c.outs)]]) (fun i=>i<=cells.length) (fun i=>cells.length-i) [] [] 1000 1000 ?_ ?_
     ·simp only[go_sem,seval];exact⟨0,by omega,by simp⟩
     ·intro i hi;have hI:=hmid i hi;have hI1:(List.range (i+1)).foldl (rowP c cells) S=rowP c cells ((List.range i).foldl (rowP c cells) S) i:=qaW;by_cases hit:i<cells.length
      ·generalize (List.range i).foldl (rowP c cells) S=M at *
       have hin:=qkE (c:=c) hit hI;have hId:rowP c cells M i=(List.range 25).foldl (qew c cells i) M:=rfl
       repeat' first|assumption|(simp (disch:=first|assumption|omega|(simp;done)|(simp;omega)) only[go_sem,seval,yaa])|(with_reducible first|apply And.intro|intro _)|exact lexT|((try rw[qaa]);omega)
       refine qaf (E:=env 0) tok (σ:=Nat) (fun t=>[(0,.d (dC c)),(1,.d (dCes cells)),(2,.ptr 0 0),(5,.d (dIs ((List.range t).foldl (qew c cells i) M).1)),(7,.d (dI ((List.range t).foldl (qew c cells i) M).2)),(8,.d (dI s)),(9,.d (dI i)),(10,.d (dI t))]) (fun t=>[.box [.d (dI c.inputs),.d (dIs c.next),.d (dPs c.gates),.d (dIs c.outs)]]) (fun t=>t<=25) (fun t=>25-t) [] [] 1000 1000 ?_ ?_
       ·simp only[go_sem,seval];exact⟨0,by omega,by simp⟩
       ·intro t ht;have hT:=hin t ht;have hT1:(List.range (t+1)).foldl (qew c cells i) M=qew c cells i ((List.range t).foldl (qew c cells i) M) t:=qaW;by_cases htt:t<25
        ·generalize (List.range t).foldl (qew c cells i) M=N at *
         obtain⟨p,k⟩:=N;simp only at hT;have hpl:=hT.len;have htr:=c_l7Try p i (t:Int) (by omega) (by omega);have hok:=hT.try_ hit (tile:=(t:Int)) (by omega);have hco:=hcost _ hok;have hsd:qew c cells i (p,k) t=if qdy c cells (tryP p i (t:Int))<k then(tryP p i (t:Int),qdy c cells (tryP p i (t:Int))) else(p,k):=rfl
         generalize tryP p i (t:Int)=nx at *
         repeat' first|assumption|(simp (disch:=first|assumption|omega|(simp;done)|(simp;omega)) only[go_sem,seval,yaa])|(with_reducible first|apply And.intro|intro _)|(refine qac htr ?_)|(refine qac hco ?_)|exact lexT|((try rw[qaa]);omega)
         ·rename_i h9;refine⟨t+1,by omega,by omega,?_⟩;rw[hT1,hsd,if_pos h9];exact⟨rfl,rfl,rfl⟩
         ·rename_i h9;refine⟨t+1,by omega,by omega,?_⟩;rw[hT1,hsd,if_neg h9];exact⟨rfl,rfl,rfl⟩
        ·obtain rfl:t=25:=by omega
         rw[<-hId,<-hI1]
         repeat' first|assumption|(simp (disch:=first|assumption|omega|(simp;done)|(simp;omega)) only[go_sem,seval,yaa])|(with_reducible first|apply And.intro|intro _)|exact lexT|((try rw[qaa]);omega)
         refine⟨i+1,by omega,by omega,?_⟩;rw[yaH];exact⟨rfl,rfl,rfl⟩
      ·obtain rfl:i=cells.length:=by omega
       rw[<-hSd,<-hS1]
       repeat' first|assumption|(simp (disch:=first|assumption|omega|(simp;done)|(simp;omega)) only[go_sem,seval,yaa])|(with_reducible first|apply And.intro|intro _)|exact lexT|((try rw[qaa]);omega)
       refine⟨s+1,by omega,by omega,?_⟩;rw[yaH];exact⟨rfl,rfl,rfl⟩
    ·obtain rfl:s=3:=by omega
     repeat' first|assumption|(simp (disch:=first|assumption|omega|(simp;done)|(simp;omega)) only[go_sem,seval,yaa])|(with_reducible first|apply And.intro|intro _)|exact lexT|((try rw[qaa]);omega)
     all_goals rw[hpd,<-hS9]
end Go.Proofs

set_option linter.unusedVariables false
set_option linter.unusedSimpArgs false
namespace Go.VL
set_option linter.defProp false
variable {busy:List (List Bool)}{t k:Nat}{hops:List (Int×Int)}{c:Circ}{cells:List Cel}{place:List Int}
structure BusyOk (busy:List (List Bool)):Prop where
 len:busy.length=8
 row : ∀ t,t<8->(busy.getD t []).length=25
def free0_ok:BusyOk qiV:=⟨by simp[qiV],fun t ht=>by rw[qiV,qpV ht];simp⟩
def qlF : ∀ (hops:List (Int×Int)) (b:List Bool),(qgF b hops).length=b.length
 | [],b=>rfl
 | h::hs,b=>by
  show(qgF (b.set h.1.toNat true) hs).length=_
  rw[qlF hs,yas]
def qlG : ∀ (hops:List (Int×Int)) (b:List Bool),b.length=25->(∀ h∈hops,0<=h.1/\h.1<=24)->∀ x:Int,0<=x->x<=24->(qgF b hops).getD x.toNat false=(b.getD x.toNat false || decide (x∈qao hops))
 | [],b,_,_,x,_,_=>by simp[qgF,qao]
 | h::hs,b,hb,hr,x,h0,h1=>by
  have hh:=hr h (by simp);show(qgF (b.set h.1.toNat true) hs).getD x.toNat false=_
  rw[qlG hs _ (by simp[hb]) (fun z hz=>hr z (by simp[hz])) x h0 h1];have hm:x∈qao (h::hs)↔x=h.1∨x∈qao hs:=by simp[qao]
  by_cases e:x=h.1
  ·subst e;have e1:(b.set h.1.toNat true).getD h.1.toNat false=true:=by simp[List.getD,show h.1.toNat<b.length by omega]
   rw[e1,decide_eq_true (hm.2 (.inl rfl))];simp
  ·have e1:(b.set h.1.toNat true).getD x.toNat false=b.getD x.toNat false:=by
    simp[List.getD,List.getElem?_set,show ¬ h.1.toNat=x.toNat by omega]
   rw[e1];congr 1;exact decide_eq_decide.2 (by rw[hm];simp[e])
def qpW (hb:BusyOk busy) (ht:t<8) (hr : ∀ h∈hops,0<=h.1/\h.1<=24) {u:Nat}(hu:u<8) {x:Int}(h0:0<=x) (h1:x<=24) :
  ((takeB busy t hops).getD u []).getD x.toNat false=((busy.getD u []).getD x.toNat false || decide (u=t/\x∈qao hops)):=by
 have hl:=hb.len;unfold takeB;by_cases e:t=u
 ·subst e;have e1:(busy.set t (qgF (busy.getD t []) hops)).getD t []=qgF (busy.getD t []) hops:=by simp[List.getD,show t<busy.length by omega]
  rw[e1,qlG hops _ (hb.row t ht) hr x h0 h1];simp
 ·have e1:(busy.set t (qgF (busy.getD t []) hops)).getD u []=busy.getD u []:=by simp[List.getD,List.getElem?_set,e]
  rw[e1];simp[Ne.symm e]
def qh1 (hb:BusyOk busy) (ht:t<8):BusyOk (takeB busy t hops):=by
 have hl:=hb.len;refine⟨by simp[takeB,hl],fun u hu=>?_⟩;unfold takeB;by_cases e:t=u
 ·subst e;have e1:(busy.set t (qgF (busy.getD t []) hops)).getD t []=qgF (busy.getD t []) hops:=by simp[List.getD,show t<busy.length by omega]
  rw[e1,qlF];exact hb.row t ht
 ·have e1:(busy.set t (qgF (busy.getD t []) hops)).getD u []=busy.getD u []:=by simp[List.getD,List.getElem?_set,e]
  rw[e1];exact hb.row u hu
structure RtOk (c:Circ) (cells:List Cel) (place:List Int) (busy0:List (List Bool)) (k:Nat) (r:Rt):Prop where
 net:1<=r.net/\r.net<=k
 track:0<=r.track/\r.track<8
 tree:TreeOk (busy0.getD r.track.toNat []) r.hops
 pins : ∀ t∈qdx c cells place r.net,t∈qao r.hops
 src : ∃ q,r.hops=((qdx c cells place r.net).getD 0 0,-1)::q
def qpX (out:List Rt) (t:Nat) (x:Int):Prop:=∃ r∈out,r.track=(t:Int)/\x∈qao r.hops
def qpY (a b:Rt):Prop:=a.track=b.track->∀ x∈qao a.hops,x∉qao b.hops
def qex (c:Circ) (cells:List Cel) (place:List Int) (k:Nat):List Int:=((List.range k).map fun(j:Nat)=>(j:Int)+1).filter fun n=>decide (qdx c cells place n≠[])
def qga:qex c cells place (k+1)=qex c cells place k++(if qdx c cells place ((k:Int)+1)=[] then [] else [(k:Int)+1]):=by
 rw[qex,yaH,yaz,List.filter_append];congr 1;by_cases h:qdx c cells place ((k:Int)+1)=[]
 ·simp[h]
 ·simp[h]
structure RoutesOk (c:Circ) (cells:List Cel) (place:List Int) (busy0:List (List Bool)) (k:Nat) (busy:List (List Bool)) (out:List Rt):Prop where
 bok:BusyOk busy
 used : ∀ t,t<8->∀ x:Int,0<=x->x<=24->((busy.getD t []).getD x.toNat false=true↔(busy0.getD t []).getD x.toNat false=true∨qpX out t x)
 each : ∀ r∈out,RtOk c cells place busy0 k r
 apart:out.Pairwise qpY
 nets:out.map (·.net)=qex c cells place k
def qgI {c:Circ}{cells:List Cel}{place:List Int}{busy0:List (List Bool)}(hc:c.Valid) (hp:PlaceOk cells.length place) (hb0:BusyOk busy0) : ∀ (k:Nat) {busy:List (List Bool)}{out:List Rt},qcL c cells place busy0 k=some (busy,out)->RoutesOk c cells place busy0 k busy out
 | 0,busy,out,h=>by
  simp only[qcL,yab,yac] at h;obtain⟨rfl,rfl⟩:=h;exact⟨hb0,fun t ht x h0 h1=>by simp[qpX],by simp,by simp,by simp[qex]⟩
 | k+1,busy,out,h=>by
  simp only[qcL] at h;split at h
  ·cases h
  ·rename_i busy1 out1 h1;have ih:=qgI hc hp hb0 k h1;have weak : ∀ {r:Rt},RtOk c cells place busy0 k r->RtOk c cells place busy0 (k+1) r:=fun {r} q=>⟨by have:=q.net;omega,q.track,q.tree,q.pins,q.src⟩
   split at h
   ·rename_i hpn;simp only[yab,yac] at h;obtain⟨rfl,rfl⟩:=h;exact⟨ih.bok,ih.used,fun r hr=>weak (ih.each r hr),ih.apart,by rw[qga,if_pos hpn,yaG];exact ih.nets⟩
   ·rename_i hpn;split at h
    ·cases h
    ·rename_i t hs h2;simp only[yab,yac] at h;obtain⟨rfl,rfl⟩:=h;obtain⟨-,ht8,ht,-⟩:=qkG 8 0 h2;have ht8:t<8:=by omega
     obtain⟨b1,b2,b3⟩:=qh0 (qgz hc hp) hpn ht;have hfree : ∀ h∈hs,(busy0.getD t []).getD h.1.toNat false=false/\¬ qpX out1 t h.1:=fun h hh=>by
      have hr:=b1.rng h hh;have:=(not_congr (ih.used t ht8 h.1 hr.1 hr.2)).1 (by rw[b1.free h hh];simp);exact⟨by simpa using fun e=>this (.inl e),fun e=>this (.inr e)⟩
     refine⟨qh1 ih.bok ht8,fun u hu x h0 h1=>?_,fun r hr=>?_,?_,?_⟩
     ·rw[qpW ih.bok ht8 b1.rng hu h0 h1,ybe,ih.used u hu x h0 h1,decide_eq_true_eq,or_assoc];refine or_congr_right ?_;constructor
      ·rintro(⟨r,hr,e1,e2⟩|⟨rfl,e2⟩)
       ·exact⟨r,yaI _ hr,e1,e2⟩
       ·exact⟨⟨(k:Int)+1,(u:Int),hs⟩,List.mem_append_right _ (by simp),rfl,e2⟩
      ·rintro⟨r,hr,e1,e2⟩;rcases List.mem_append.1 hr with h3|h3
       ·exact .inl ⟨r,h3,e1,e2⟩
       ·obtain rfl:r=⟨(k:Int)+1,(t:Int),hs⟩:=by simpa using h3
        exact .inr ⟨by simp only at e1;omega,e2⟩
     ·rcases List.mem_append.1 hr with h3|h3
      ·exact weak (ih.each r h3)
      ·obtain rfl:r=⟨(k:Int)+1,(t:Int),hs⟩:=by simpa using h3
       refine⟨by simp only;omega,by simp only;omega,?_,b2,b3⟩;have e:((t:Int)).toNat=t:=by omega
       simp only[e];exact⟨b1.rng,b1.nd,fun h hh=>(hfree h hh).1,b1.pos,b1.root⟩
     ·rw[List.pairwise_append];refine⟨ih.apart,by simp,fun a ha b hb e x hx hx2=>?_⟩;obtain rfl:b=⟨(k:Int)+1,(t:Int),hs⟩:=by simpa using hb
      obtain⟨h,hh,rfl⟩:=List.mem_map.1 hx2;exact(hfree h hh).2 ⟨a,ha,e,hx⟩
     ·rw[qga,if_neg hpn,yaz,ih.nets];rfl
def RtOk.len {busy0:List (List Bool)}{r:Rt}(h:RtOk c cells place busy0 k r):r.hops.length<=25:=qdz h.tree
end Go.VL
