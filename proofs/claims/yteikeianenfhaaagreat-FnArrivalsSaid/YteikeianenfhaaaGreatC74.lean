/- Contracts, plain definitions and lemmas. Conditions: none; lemmas. -/
import Derived.Test.YteikeianenfhaaaGreatD6
import Derived.Test.YteikeianenfhaaaGreatC72
import Derived.Test.YteikeianenfhaaaGreatC63
import Derived.Test.YteikeianenfhaaaGreatD2
set_option linter.unusedVariables false
set_option linter.unusedSimpArgs false
set_option maxHeartbeats 2000000
namespace Go.VL
def qb7 (hops:List (Int×Int)):Nat->Int->Int
 | 0,_=>0
 | k+1,t=>if(hops.getD k (0,0)).1=t/\0<=(hops.getD k (0,0)).2 then 1+qb7 hops k (hops.getD k (0,0)).2 else qb7 hops k t
theorem qfR (hops:List (Int×Int)) : ∀ k t,0<=qb7 hops k t/\qb7 hops k t<=k
 | 0,t=>by simp[qb7]
 | k+1,t=>by
  rw[qb7];split
  ·have:=qfR hops k (hops.getD k (0,0)).2;omega
  ·have:=qfR hops k t;omega
theorem qdQ {hops:List (Int×Int)}{t:Int}{k:Nat} : ∀ m,k<=m->(∀ j,k<=j->j<m->(hops.getD j (0,0)).1≠t)->qb7 hops m t=qb7 hops k t
 | 0,h,_=>by
         obtain rfl:k=0:=by omega
         rfl
 | m+1,h,hj=>by
  by_cases e:k=m+1
  ·subst e;rfl
  ·rw[qb7,if_neg (fun hc=>hj m (by omega) (by omega) hc.1),qdQ m (by omega) fun j h1 h2=>hj j h1 (by omega)]
theorem qeC {hops:List (Int×Int)}(hn:(qak hops).Nodup) {i j:Nat}(hi:i<hops.length) (hj:j<hops.length) (h:(hops.getD i (0,0)).1=(hops.getD j (0,0)).1):i=j:=by
 refine qiC.1 hn i j (by simp[qak];omega) (by simp[qak];omega) ?_;have e : ∀ k,k<hops.length->(qak hops).getD k 0=(hops.getD k (0,0)).1:=fun k hk=>by simp[qak,List.getD,hk]
 rw[e i hi,e j hj,h]
theorem qpO {busy:List Bool}{hops:List (Int×Int)}(h:TreeOk busy hops) {j:Nat}(hj:j<hops.length) :
  qb7 hops hops.length (hops.getD j (0,0)).1=if 0<=(hops.getD j (0,0)).2 then qb7 hops hops.length (hops.getD j (0,0)).2+1 else 0:=by
 have e1:qb7 hops hops.length (hops.getD j (0,0)).1=qb7 hops (j+1) (hops.getD j (0,0)).1:=qdQ _ (by omega) fun i h1 h2 he=>by
  have:=qeC h.nd h2 hj he;omega
 rw[e1,qb7];have e2:qb7 hops j (hops.getD j (0,0)).1=0:=qdQ (k:=0) j (by omega) fun i h1 h2 he=>by
  have:=qeC h.nd (by omega) hj he;omega
 rw[e2];by_cases hf:0<=(hops.getD j (0,0)).2
 ·rw[if_pos ⟨rfl,hf⟩,if_pos hf];rcases h.root j hj with⟨-,h1⟩|⟨-,m,h1,h2,-⟩
  ·omega
  ·rw[<-h2];have e3:qb7 hops hops.length (hops.getD m (0,0)).1=qb7 hops (m+1) (hops.getD m (0,0)).1:=qdQ _ (by omega) fun i h1 h2 he=>by
    have:=qeC h.nd h2 (by omega:m<hops.length) he;omega
   have e4:qb7 hops j (hops.getD m (0,0)).1=qb7 hops (m+1) (hops.getD m (0,0)).1:=qdQ _ (by omega) fun i h1 h2 he=>by
    have:=qeC h.nd (by omega:i<hops.length) (by omega:m<hops.length) he;omega
   rw[e3,e4];omega
 ·rw[if_neg (fun hc=>hf hc.2),if_neg hf]
theorem qpP {hops:List (Int×Int)}{t:Int}(h:t∉qak hops):qb7 hops hops.length t=0:=
 qdQ (k:=0) _ (by omega) fun i _ hi he=>h (by rw[<-he];exact List.mem_map.2 ⟨_,qab hi,rfl⟩)
def qa9 (routes:List Rt) (net tile:Int):Int:=routes.foldl (fun n r=>n+if r.net=net then qb7 r.hops r.hops.length tile else 0) 0
theorem qhP (net tile:Int) : ∀ (l:List Rt) (n:Int),l.foldl (fun n r=>n+if r.net=net then qb7 r.hops r.hops.length tile else 0) n=n+qa9 l net tile
 | [],n=>by simp[qa9]
 | r::l,n=>by
  rw[qa9,yan,yan,qhP net tile l,qhP net tile l];omega
theorem qeN (r:Rt) (l:List Rt) (net tile:Int):qa9 (r::l) net tile=(if r.net=net then qb7 r.hops r.hops.length tile else 0)+qa9 l net tile:=by
 rw[qa9,yan,qhP];omega
theorem qgl {net tile:Int} : ∀ {l:List Rt},(∀ r∈l,r.net≠net)->qa9 l net tile=0
 | [],_=>rfl
 | r::l,h=>by rw[qeN,if_neg (h r (by simp)),qgl fun q hq=>h q (by simp[hq])];rfl
theorem qkl {net tile:Int} : ∀ {l:List Rt},(∀ r∈l,r.net=net->tile∉qak r.hops)->qa9 l net tile=0
 | [],_=>rfl
 | r::l,h=>by
  rw[qeN,qkl fun q hq=>h q (by simp[hq])];split
  ·rename_i e;rw[qpP (h r (by simp) e)];rfl
  ·rfl
theorem qfS {tile:Int} : ∀ {l:List Rt},(l.map (·.net)).Nodup->∀ r∈l,qa9 l r.net tile=qb7 r.hops r.hops.length tile
 | [],_,r,h=>by simp at h
 | q::l,hn,r,h=>by
  rw[yaL,List.nodup_cons] at hn;rw[qeN];rcases List.mem_cons.1 h with rfl|h
  ·rw[if_pos rfl,qgl fun x hx e=>hn.1 (by rw[<-e];exact List.mem_map.2 ⟨x,hx,rfl⟩)];omega
  ·rw[if_neg (fun e=>hn.1 (by rw[e];exact List.mem_map.2 ⟨r,h,rfl⟩)),qfS hn.2 r h];omega
theorem qec {net tile:Int} : ∀ {l:List Rt},(∀ r∈l,r.hops.length<=25)->0<=qa9 l net tile/\qa9 l net tile<=25*l.length
 | [],_=>by simp[qa9]
 | r::l,h=>by
  have ih:=qec (net:=net) (tile:=tile) (l:=l) fun q hq=>h q (by simp[hq])
  have:=qfR r.hops r.hops.length tile;have:=h r (by simp);rw[qeN,yah];split <;> omega
theorem qkm {c:Circ}{cells:List Cel}{place:List Int} : ∀ k:Nat,(qe2 c cells place k).Nodup/\(∀ n∈qe2 c cells place k,1<=n/\n<=k)/\(qe2 c cells place k).length<=k
 | 0=>by simp[qe2]
 | k+1=>by
  obtain⟨h1,h2,h3⟩:=qkm (c:=c) (cells:=cells) (place:=place) k;rw[qfk];split
  ·rw[yaA];exact⟨h1,fun n hn=>by have:=h2 n hn;omega,by omega⟩
  ·refine⟨?_,fun n hn=>?_,by simp;omega⟩
   ·rw[yaY];refine⟨h1,by simp,fun a ha b hb e=>?_⟩;obtain rfl:b=(k:Int)+1:=by simpa using hb
    have:=h2 a ha;omega
   ·rcases List.mem_append.1 hn with h|h
    ·have:=h2 n h;omega
    ·obtain rfl:n=(k:Int)+1:=by simpa using h
     omega
structure RtsOk (routes:List Rt):Prop where
 nd:(routes.map (·.net)).Nodup
 net : ∀ r∈routes,1<=r.net
 tree : ∀ r∈routes,∃ busy,TreeOk busy r.hops
 len:routes.length<=100
theorem RtsOk.hops {routes:List Rt}(h:RtsOk routes) : ∀ r∈routes,r.hops.length<=25:=fun r hr=>by
 obtain⟨b,hb⟩:=h.tree r hr;exact qcP hb
theorem qkn {c:Circ}(hc:c.Valid) {cells:List Cel}{place:List Int}(hp:PlaceOk cells.length place) {busy0:List (List Bool)}(hb:BusyOk busy0) {routes:List Rt}(h:qdO c cells place busy0=some routes) :
  ∃ busy,RoutesOk c cells place busy0 (c.vars.toNat-1) busy routes:=by
 rw[qdO] at h;cases e:qcq c cells place busy0 (c.vars.toNat-1) with
 | none=>rw[e] at h;cases h
 | some s=>
  obtain⟨busy,out⟩:=s;rw[e] at h;simp only[yax,yab] at h;subst h;exact⟨busy,qhM hc hp hb _ e⟩
theorem qmv {c:Circ}(hc:c.Valid) {cells:List Cel}{place:List Int}(hp:PlaceOk cells.length place) {busy0:List (List Bool)}(hb:BusyOk busy0) {routes:List Rt}(h:qdO c cells place busy0=some routes):RtsOk routes:=by
 obtain⟨busy,hR⟩:=qkn hc hp hb h;obtain⟨n1,n2,n3⟩:=qkm (c:=c) (cells:=cells) (place:=place) (c.vars.toNat-1);have hv:=hc.vars_bd;have e:routes.length=(qe2 c cells place (c.vars.toNat-1)).length:=by rw[<-hR.nets,yay]
 exact⟨by rw[hR.nets];exact n1,fun r hr=>(hR.each r hr).net.1,fun r hr=>⟨_,(hR.each r hr).tree⟩,by omega⟩
def latT (arr:List Int) (routes:List Rt) (nets:List Int) (tile:Int):Int:=nets.foldl (fun t n=>max t (arr.getD n.toNat 0+qa9 routes n tile)) 0
def arrT (cells:List Cel) (place:List Int) (routes:List Rt) (N:Nat):Nat->List Int
 | 0=>List.replicate N 0
 | i+1=>if(cells.getD i ce0).reg then arrT cells place routes N i else(arrT cells place routes N i).set (cells.getD i ce0).net.toNat (latT (arrT cells place routes N i) routes (cells.getD i ce0).inputs (place.getD i 0)+3)
def qbK (c:Circ) (cells:List Cel) (place:List Int) (routes:List Rt):List Int:=arrT cells place routes c.vars.toNat cells.length
theorem qhQ {arr:List Int}{routes:List Rt}{m:Int}(ha : ∀ v,0<=arr.getD v 0/\arr.getD v 0<=m) (hr:RtsOk routes) (tile:Int) (nets:List Int):0<=latT arr routes nets tile/\latT arr routes nets tile<=m+2500:=by
 have hm:=ha 0;have key : ∀ (l:List Int) (t:Int),0<=t/\t<=m+2500->0<=l.foldl (fun t n=>max t (arr.getD n.toNat 0+qa9 routes n tile)) t/\l.foldl (fun t n=>max t (arr.getD n.toNat 0+qa9 routes n tile)) t<=m+2500:=by
  intro l;induction l with
  | nil=>exact fun t h=>h
  | cons n l ih=>
   intro t h;have h1:=ha n.toNat;have h2:=qec (net:=n) (tile:=tile) hr.hops;have h3:=hr.len;exact ih (max t (arr.getD n.toNat 0+qa9 routes n tile)) (by omega)
 exact key nets 0 (by omega)
theorem qeO {cells:List Cel}{place:List Int}{routes:List Rt}{N:Nat} : ∀ i,(arrT cells place routes N i).length=N
 | 0=>by simp[arrT]
 | i+1=>by
  rw[arrT];split
  ·exact qeO i
  ·rw[yaz];exact qeO i
theorem qjk {cells:List Cel}{place:List Int}{routes:List Rt}(hr:RtsOk routes) {N:Nat} : ∀ (i v:Nat),0<=(arrT cells place routes N i).getD v 0/\(arrT cells place routes N i).getD v 0<=2503*i
 | 0,v=>by
  have:(List.replicate N (0:Int)).getD v 0=0:=by
   rw[List.getD_eq_getElem?_getD,List.getElem?_replicate];split <;> rfl
  rw[arrT,this];omega
 | i+1,v=>by
  have ih:=qjk (cells:=cells) (place:=place) hr (N:=N) i;have iv:=ih v;rw[arrT];split
  ·omega
  ·have hl:=qhQ ih hr (place.getD i 0) (cells.getD i ce0).inputs;generalize hz9:latT (arrT cells place routes N i) routes (cells.getD i ce0).inputs (place.getD i 0)=y at *
   generalize (cells.getD i ce0).net.toNat=u at *
   by_cases hu:u<(arrT cells place routes N i).length
   ·rw[qdd hu];split <;> omega
   ·rw[List.set_eq_of_length_le (by omega)];omega
def qlR (routes:List Rt) (net tile:Int):Int:=if ∃ r∈routes,r.net=net/\tile∈qak r.hops then qa9 routes net tile else -1
end Go.VL

set_option maxRecDepth 20000
set_option linter.unusedVariables false
set_option linter.unusedSimpArgs false
namespace Go.Proofs
open Go Go.VL Tryz
abbrev dRt (x:Rt):D:=.agg [dI x.net,dI x.track,dPs x.hops]
abbrev dRts (l:List Rt):D:=.lst 3 (l.map fun x=>dRt x)
theorem qav {l:List Rt}{i:Nat}{z:D}(h:i<l.length):(l.map fun x=>dRt x).getD i z=dRt (l.getD i rt0):=getD_lt _ _ _ _ _ h
theorem Tryz.c_l8Next (t:Int) (h:0<=t/\t<=24):Pure prog 225 [dI t] (dIs (nbC t)):=by
 have hr:=qae (y:=5) h.1;refine qaA func225 rfl ntmps225 fun ok=>?_
 simp only[go_sem,seval] at ok⊢
 repeat' first|assumption|(simp (disch:=first|assumption|omega|(simp;done)|(simp;omega)) only[go_sem,seval,hr,yaa,qae])|(with_reducible first|apply And.intro|intro _)|((try rw[qaa]);omega)
 all_goals (unfold nbC;repeat' split)
 all_goals first|rfl|(exfalso;omega)
theorem Tryz.c_l8On (hops:List (Int×Int)) (t:Int):Pure prog 224 [dPs hops,dI t] (.bool (decide (t∈qak hops))):=by
 refine qaA func224 rfl ntmps224 fun ok=>?_
 simp only[go_sem,seval] at ok
 repeat' first|assumption|(simp (disch:=first|assumption|omega|(simp;done)|(simp;omega)) only[go_sem,seval,yaa,qae])|(with_reducible first|apply And.intro|intro _)|((try rw[qaa]);omega)
 refine qaI (E:=env 0) tok (σ:=Nat) (fun i=>[(0,.d (dPs hops)),(1,.d (dI t)),(4,.d (dB false)),(5,.d (dI i))]) (fun _=>[]) (fun i=>i<=hops.length/\∀ j,j<i->(hops.getD j (0,0)).1≠t) (fun i=>hops.length-i) [] 1000 1000 ?_ ?_ ?_
 ·simp only[go_sem,seval]
 ·simp only[go_sem,seval];exact⟨0,⟨by omega,by omega⟩,rfl⟩
 ·rintro i ⟨hi,hinv⟩;by_cases hlt:i<hops.length
  ·repeat' first|assumption|(simp (disch:=first|assumption|omega|(simp;done)|(simp;omega)) only[go_sem,seval,yaa,qae])|(with_reducible first|apply And.intro|intro _)|((try rw[qaa]);omega)
   ·rename_i h9;rw[decide_eq_true];exact List.mem_map.2 ⟨_,qab hlt,h9⟩
   ·rename_i h9;refine⟨i+1,⟨by omega,fun j hj=>?_⟩,by omega,rfl⟩;by_cases hji:j=i
    ·subst hji;exact h9
    ·exact hinv j (by omega)
  ·repeat' first|assumption|(simp (disch:=first|assumption|omega|(simp;done)|(simp;omega)) only[go_sem,seval,yaa,qae])|(with_reducible first|apply And.intro|intro _)|((try rw[qaa]);omega)
   simp only[false_eq_decide_iff];intro hm;obtain⟨x,hx,he⟩:=List.mem_map.1 hm;obtain⟨j,hj,rfl⟩:=qbg (0,0) hx;exact hinv j (by omega) he
theorem Tryz.c_l8Path (g:Nat) (hops:List (Int×Int)) (sink:Int) (busy:List Bool) (hb:busy.length=25) (ht:TreeOk busy hops) (hs:0<=sink/\sink<=24) :
  ICall prog 216 [.d (dPs hops),.d (dI sink),.sl 0 g 1 0 25] [.row g 1 true (busy.map D.bool)] (fun r H'=>r=.d (.tup [dPs ((qaD busy hops sink).getD hops),dB (qaD busy hops sink).isSome])/\H'=[.row g 1 true (busy.map D.bool)]):=by
 have hon:=c_l8On hops sink;refine qaz (E:=env 1) tok rfl 1000 func216 rfl rfl ntmps216 (by simp) ?_
 repeat' first|assumption|(simp (disch:=first|assumption|omega|(simp;done)|(simp;omega)) only[go_sem,seval,yaa,qae])|(with_reducible first|apply And.intro|intro _)|(refine qad hon ?_)|((try rw[qaa]);omega)
 ·rename_i h9;rw[qaD,if_pos h9];refine qcl (by simp) (by simp only[go_sem,seval]) ?_;simp only[go_sem,seval]
 rename_i h9;have hex:qaD busy hops sink=if(bfsC hops sink busy).1.getD sink.toNat 0 = -2 then none else some (hops++qbJ (bfsC hops sink busy).1 25 sink []):=if_neg h9;have hhl:=qcP ht;refine qai (E:=env 1) tok (σ:=Nat) (fun i=>[(0,.d (dPs hops)),(1,.d (dI sink)),(2,.sl 0 g 1 0 25),(8,.sl 1 0 1 0 25),(9,.d (dI i))]) (fun i=>[.row g 1 true (busy.map D.bool),.row 0 1 true ((List.replicate i (-2:Int)++List.replicate (25-i) 0).map (D.int .i64))])
  (fun i=>i<=25) (fun i=>25-i) [] [] 1000 1000 ?_ ?_
 ·simp only[go_sem,seval];exact⟨0,by omega,by simp⟩
 ·intro i hi;by_cases hit:i<25
  ·have hst:(List.replicate i (-2:Int)++List.replicate (25-i) 0).set i (-2)=List.replicate (i+1) (-2)++List.replicate (25-(i+1)) 0:=by
    rw[qgc (by simp) (by omega),List.replicate_succ',Nat.sub_sub]
   have hql:(List.replicate i (-2:Int)++List.replicate (25-i) 0).length=25:=by simp;omega
   generalize List.replicate i (-2:Int)++List.replicate (25-i) 0=q at *
   simp only[go_sem,seval]
   repeat' first|assumption|(simp (disch:=first|assumption|omega|(simp;done)|(simp;omega)) only[go_sem,seval,hql,yaa,qae])|(with_reducible first|apply And.intro|intro _)|((try rw[qaa]);omega)
   refine⟨i+1,by omega,by omega,rfl,?_⟩;rw[hst]
  ·obtain rfl:i=25:=by omega
   rw[show List.replicate 25 (-2:Int)++List.replicate (25-25) 0=List.replicate 25 (-2) by simp];have hq25:(List.replicate 25 (-2:Int)).length=25:=by simp
   have hf0d:qfj hops=hops.foldl (fun f h=>f.set h.1.toNat (-1)) (List.replicate 25 (-2)):=rfl;generalize List.replicate 25 (-2:Int)=q0 at *
   simp only[go_sem,seval]
   repeat' first|assumption|(simp (disch:=first|assumption|omega|(simp;done)|(simp;omega)) only[go_sem,seval,hq25,yaa,qae])|(with_reducible first|apply And.intro|intro _)|((try rw[qaa]);omega)
   refine qai (E:=env 1) tok (σ:=Nat) (fun i=>[(0,.d (dPs hops)),(1,.d (dI sink)),(2,.sl 0 g 1 0 25),(8,.sl 1 0 1 0 25),(10,.sl 2 i 1 0 i),(11,.d (dI i))]) (fun i=>[.row g 1 true (busy.map D.bool),.row 0 1 true (((hops.take i).foldl (fun f h=>f.set h.1.toNat (-1)) q0).map (D.int .i64)),.row i 1 true ((qak (hops.take i)).map (D.int .i64))])
    (fun i=>i<=hops.length) (fun i=>hops.length-i) [] [] 1000 1000 ?_ ?_
   ·simp only[go_sem,seval];exact⟨0,by omega,by simp[qak]⟩
   ·intro i hi;have hfl:((hops.take i).foldl (fun f h=>f.set h.1.toNat (-1)) q0).length=25:=by
     have key : ∀ (l:List (Int×Int)) (f:List Int),(l.foldl (fun f h=>f.set h.1.toNat (-1)) f).length=f.length:=by
      intro l;induction l with
      | nil=>exact fun f=>rfl
      | cons x l ih=>intro f;rw[yan,ih,yaz]
     rw[key,hq25]
    have htl:(qak (hops.take i)).length=i:=by simp[qak];omega
    by_cases hit:i<hops.length
    ·have hfs:=qaw (f:=fun(f:List Int) (h:Int×Int)=>f.set h.1.toNat (-1)) (b:=q0) ((0,0):Int×Int) hit;have hts:qak (hops.take (i+1))=qak (hops.take i) ++ [(hops.getD i (0,0)).1]:=qaN (0,0) hit;have hr:=ht.rng _ (qab hit:hops.getD i (0,0)∈hops);generalize (hops.take i).foldl (fun f h=>f.set h.1.toNat (-1)) q0=fr at *
     generalize qak (hops.take i)=tl at *
     simp only[go_sem,seval]
     repeat' first|assumption|(simp (disch:=first|assumption|omega|(simp;done)|(simp;omega)) only[go_sem,seval,hfl,htl,yaa,qae])|(with_reducible first|apply And.intro|intro _)|((try rw[qaa]);omega)
     refine⟨i+1,by omega,by omega,?_⟩;rw[hfs,hts]
     repeat' apply And.intro
     all_goals first|rfl|(simp;done)
    ·have e:hops.take i=hops:=yaa (by omega);rw[e,<-hf0d];rw[e] at htl;obtain rfl:i=hops.length:=by omega
     simp only[go_sem,seval]
     repeat' first|assumption|(simp (disch:=first|assumption|omega|(simp;done)|(simp;omega)) only[go_sem,seval,hq25,yaa,qae])|(with_reducible first|apply And.intro|intro _)|((try rw[qaa]);omega)
     have hinv0:=qms (busy:=busy) ht.rng ht.nd;have hbc:bfsC hops sink busy=bfsN busy sink 26 0 (qfj hops,qak hops):=rfl;have hfin:=qlP ht sink;have hl0:=qke (hops:=hops);refine qai (E:=env 1) tok (σ:=Nat×BS) (fun s=>[(0,.d (dPs hops)),(1,.d (dI sink)),(2,.sl 0 g 1 0 25),(8,.sl 1 0 1 0 25),(10,.sl 2 s.2.2.length 1 0 s.2.2.length),(12,.d (dI s.1))]) (fun s=>[.row g 1 true (busy.map D.bool),.row 0 1 true (s.2.1.map (D.int .i64)),.row s.2.2.length 1 true (s.2.2.map (D.int .i64))])
      (fun s=>s.1<=s.2.2.length/\BInv busy (qak hops) s.2/\bfsN busy sink (26-s.1) s.1 s.2=bfsC hops sink busy) (fun s=>26-s.1) [] [] 1000 1000 ?_ ?_
     ·simp only[go_sem,seval];refine⟨(0,(qfj hops,qak hops)),⟨by simp,hinv0,hbc.symm⟩,?_⟩;simp[htl]
     ·rintro⟨k,⟨fr,qu⟩⟩ ⟨hk,hbi,hbn⟩;simp only at hk hbi hbn;have hql:=hbi.qlen;have hfl:=hbi.len;simp only at hql hfl;by_cases hkc:k<qu.length/\fr.getD sink.toNat 0 = -2
      ·have hqm:qu.getD k 0∈qu:=qab hkc.1;have hqr:=hbi.rng _ hqm;have hst:bfsN busy sink (26-(k+1)) (k+1) (visitB busy (fr,qu) (qu.getD k 0))=bfsC hops sink busy:=by
        rw[<-hbn,show 26-k=(26-(k+1))+1 by omega,bfsN,if_pos hkc]
       have hnx:=c_l8Next (qu.getD k 0) hqr;have hvis:visitB busy (fr,qu) (qu.getD k 0)=(nbC (qu.getD k 0)).foldl (qco busy (qu.getD k 0)) (fr,qu):=rfl;have hnb:=qkd hqr;have hk1:=hkc.1;have hk2:=hkc.2;have hqg:=hqr;generalize hq9:qu.getD k 0=q at *
       repeat' first|assumption|(simp (disch:=first|assumption|omega|(simp;done)|(simp;omega)) only[go_sem,seval,hq9,hk2,yaa,qae])|(with_reducible first|apply And.intro|intro _)|(refine qad hnx ?_)|((try rw[qaa]);omega)
       have hvi:=hbi.visit hqm;rw[hvis] at hvi;have hsteps : ∀ i,BInv busy (qak hops) (((nbC q).take i).foldl (qco busy q) (fr,qu)):=fun i=>hbi.steps _ hqm fun n hn=>yam hn
       have hpre : ∀ i,∃ r,(((nbC q).take i).foldl (qco busy q) (fr,qu)).2=qu++r:=by
        intro i;have key : ∀ (l:List Int) (s:BS),∃ r,(l.foldl (qco busy q) s).2=s.2++r:=by
         intro l;induction l with
         | nil=>exact fun s=>⟨[],by simp⟩
         | cons n l ih=>
          intro s;obtain⟨r1,h1⟩:=qhL (busy:=busy) (q:=q) (n:=n) (s:=s);obtain⟨r2,h2⟩:=ih (qco busy q s n);exact⟨r1++r2,by rw[yan,h2,h1,yal]⟩
        exact key _ _
       refine qai (E:=env 1) tok (σ:=Nat) (fun i=>[(0,.d (dPs hops)),(1,.d (dI sink)),(2,.sl 0 g 1 0 25),(8,.sl 1 0 1 0 25),(10,.sl 2 (((nbC q).take i).foldl (qco busy q) (fr,qu)).2.length 1 0 (((nbC q).take i).foldl (qco busy q) (fr,qu)).2.length),(12,.d (dI k)),(13,.d (dIs (nbC q))),(14,.d (dI i))])
        (fun i=>[.row g 1 true (busy.map D.bool),.row 0 1 true ((((nbC q).take i).foldl (qco busy q) (fr,qu)).1.map (D.int .i64)),.row (((nbC q).take i).foldl (qco busy q) (fr,qu)).2.length 1 true ((((nbC q).take i).foldl (qco busy q) (fr,qu)).2.map (D.int .i64))])
        (fun i=>i<=(nbC q).length) (fun i=>(nbC q).length-i) [] [] 1000 1000 ?_ ?_
       ·simp only[go_sem,seval];exact⟨0,by omega,by simp⟩
       ·intro i hi;have hSi:=hsteps i;obtain⟨r,hr⟩:=hpre i;by_cases hit:i<(nbC q).length
        ·have hfs:=qaw (f:=qco busy q) (b:=(fr,qu)) (0:Int) hit;have hn:=hnb _ (qab hit:(nbC q).getD i 0∈nbC q);generalize ((nbC q).take i).foldl (qco busy q) (fr,qu)=S at *
         obtain⟨f2,q2⟩:=S;have hq2l:=hSi.qlen;have hf2l:=hSi.len;simp only at hr hq2l hf2l;have hk3:k<q2.length:=by rw[hr];simp;omega
         have hqk:q2.getD k 0=q:=by rw[hr,qar hk1];exact hq9
         have hsd:qco busy q (f2,q2) ((nbC q).getD i 0)=if f2.getD ((nbC q).getD i 0).toNat 0 = -2/\busy.getD ((nbC q).getD i 0).toNat false=false then(f2.set ((nbC q).getD i 0).toNat q,q2 ++ [(nbC q).getD i 0]) else(f2,q2):=rfl
         generalize hn9:(nbC q).getD i 0=n at *
         have hnl:(nbC q).length<=4:=by unfold nbC;repeat' split <;> simp
         simp only[go_sem,seval,hqk,hn9]
         repeat' first|assumption|(simp (disch:=first|assumption|omega|(simp;done)|(simp;omega)) only[go_sem,seval,hqk,hf2l,hn9,yaa,qae])|(with_reducible first|apply And.intro|intro _)|((try rw[qaa]);omega)
         ·rename_i h7;refine qbN (n:=1) [10] (fsts [0,1,2,3,5,6,7,4,8,9] (.one 10 .done)) ?_;simp only[go_sem,seval,hqk,hn9]
          repeat' first|assumption|(simp (disch:=first|assumption|omega|(simp;done)|(simp;omega)) only[go_sem,seval,hqk,hf2l,hn9,yaa,qae])|(with_reducible first|apply And.intro|intro _)|((try rw[qaa]);omega)
          have e:((nbC q).take (i+1)).foldl (qco busy q) (fr,qu)=(f2.set n.toNat q,q2 ++ [n]):=by rw[hfs,hsd,if_pos (by simpa using h7)]
          refine⟨i+1,by omega,by omega,?_⟩;rw[e]
          repeat' apply And.intro
          all_goals first|rfl|(simp;done)
         ·rename_i h7;have e:((nbC q).take (i+1)).foldl (qco busy q) (fr,qu)=(f2,q2):=by rw[hfs,hsd,if_neg (by
           rintro⟨h1,h2⟩;rcases h7 with h7|h7
           ·exact h7 h1
           ·rw[h2] at h7;exact absurd h7 (by simp))]
          refine⟨i+1,by omega,by omega,?_⟩;rw[e];exact⟨⟨rfl,rfl⟩,rfl,rfl,rfl⟩
        ·have e:(nbC q).take i=nbC q:=yaa (by omega);rw[e,<-hvis];rw[e,<-hvis] at hSi hr;have hgl:k+1<=(visitB busy (fr,qu) q).2.length:=by rw[hr];simp;omega
         generalize visitB busy (fr,qu) q=S at *
         repeat' first|assumption|(simp (disch:=first|assumption|omega|(simp;done)|(simp;omega)) only[go_sem,seval,yaa,qae])|(with_reducible first|apply And.intro|intro _)|((try rw[qaa]);omega)
         exact⟨(k+1,S),⟨hgl,hSi,hst⟩,by simp only;omega,⟨rfl,rfl⟩,rfl,rfl,rfl⟩
      ·have hst:(fr,qu)=bfsC hops sink busy:=by
        rw[<-hbn,show 26-k=(25-k)+1 by omega,bfsN,if_neg hkc]
       rw[<-hst] at hfin hex;have hpd : ¬ fr.getD sink.toNat 0 = -2->qaD busy hops sink=some (hops++qbJ fr 25 sink []):=fun h=>by rw[hex,if_neg h]
       have hpn:fr.getD sink.toNat 0 = -2->qaD busy hops sink=none:=fun h=>by rw[hex,if_pos h]
       repeat' first|assumption|(simp (disch:=first|assumption|omega|(simp;done)|(simp;omega)) only[go_sem,seval,yaa,qae])|(with_reducible first|apply And.intro|intro _)|((try rw[qaa]);omega)
       ·rename_i h8;rw[hpn h8];refine qcl (by simp) (by simp only[go_sem,seval]) ?_;simp only[go_sem,seval]
       rename_i h8;rw[hpd h8];have hsm:=(hfin.seen sink hs.1 hs.2).1 h8;obtain⟨p0,hp0,hpe⟩:=qbg 0 hsm;simp only at hp0 hpe;clear hbn hst hpd hpn hex hkc;refine qai (E:=env 1) tok (σ:=Nat×Nat×List (Int×Int)) (fun s=>[(0,.d (dPs hops)),(8,.sl 1 0 1 0 25),(15,.d (dPs s.2.2)),(16,.d (dI (qu.getD s.2.1 0)))]) (fun s=>[.row g 1 true (busy.map D.bool),.row 0 1 true (fr.map (D.int .i64))])
        (fun s=>s.2.1<s.1/\s.2.1<qu.length/\s.1+s.2.2.length<=25/\qbJ fr s.1 (qu.getD s.2.1 0) s.2.2=qbJ fr 25 sink []) (fun s=>s.1) [] [] 1000 1000 ?_ ?_
       ·simp only[go_sem,seval];refine⟨(25,p0,[]),⟨by simp only;omega,hp0,by simp,by rw[hpe]⟩,?_⟩;simp only[List.map_nil,true_and,and_true];first|exact hpe.symm|exact⟨rfl,hpe.symm⟩|(rw[hpe];simp;done)|(rw[hpe])
       ·rintro⟨f,p,acc⟩ ⟨hpf,hpq,hfa,hch⟩;simp only at hpf hpq hfa hch;have hpm:=hbi.rng _ (qab hpq:qu.getD p 0∈qu);have hroot:=hbi.root p hpq;simp only at hroot;obtain⟨f',rfl⟩ : ∃ f',f=f'+1:=⟨f-1,by omega⟩;have hcs:qbJ fr (f'+1) (qu.getD p 0) acc=if 0<=fr.getD (qu.getD p 0).toNat 0 then qbJ fr f' (fr.getD (qu.getD p 0).toNat 0) ((qu.getD p 0,fr.getD (qu.getD p 0).toNat 0)::acc) else acc:=rfl
        rw[hcs] at hch;by_cases hge:0<=fr.getD (qu.getD p 0).toNat 0
        ·rw[if_pos hge] at hch;obtain⟨m,hm1,hm2⟩ : ∃ m,m<p/\qu.getD m 0=fr.getD (qu.getD p 0).toNat 0:=by
          rcases hroot with⟨h1,-⟩|⟨-,-,-,m,h4,h5,-⟩
          ·omega
          ·exact⟨m,h4,h5⟩
         generalize qu.getD p 0=tt at *
         generalize hv9:fr.getD tt.toNat 0=v at *
         repeat' first|assumption|(simp (disch:=first|assumption|omega|(simp;done)|(simp;omega)) only[go_sem,seval,hv9,yaa,qae])|(with_reducible first|apply And.intro|intro _)|((try rw[qaa]);omega)
         refine⟨(f',m,(tt,v)::acc),⟨by simp only;omega,by simp only;omega,by simp only[yah];omega,by simp only;rw[hm2];exact hch⟩,by simp only;omega,?_⟩;exact⟨rfl,hm2.symm⟩
        ·rw[if_neg hge] at hch;generalize qu.getD p 0=tt at *
         repeat' first|assumption|(simp (disch:=first|assumption|omega|(simp;done)|(simp;omega)) only[go_sem,seval,yaa,qae])|(with_reducible first|apply And.intro|intro _)|((try rw[qaa]);omega)
         refine qcl (by simp) (by simp only[go_sem,seval]) ?_;simp only[go_sem,seval];rw[yaa (by simp),hch]
end Go.Proofs
