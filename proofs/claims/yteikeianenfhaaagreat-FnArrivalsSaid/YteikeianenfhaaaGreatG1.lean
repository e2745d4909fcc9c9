/- Contracts, plain definitions and lemmas. Conditions: none; lemmas. -/
import Derived.Test.YteikeianenfhaaaGreatE2
import Derived.Test.YteikeianenfhaaaGreatD8
import Derived.Test.YteikeianenfhaaaGreatC74
set_option maxRecDepth 20000
set_option linter.unusedVariables false
set_option linter.unusedSimpArgs false
set_option maxHeartbeats 2000000
namespace Go.Proofs
open Go Go.VL Tryz
def qmy (list:List (Int×Int)):Prop:=list.length<=12/\∀ d∈list,(0<=d.1/\d.1<=24)/\0<=d.2/\d.2<=7
def qed (list:List (Int×Int)):List (List Bool):=list.foldl (fun b d=>b.set d.2.toNat ((b.getD d.2.toNat []).set d.1.toNat true)) qd9
def qgn (o:Option (List Rt)):D:=match o with
 | none=>.tup [.nil,dB false]
 | some rs=>.tup [dRts rs,dB true]
noncomputable def qaM (c:Circ) (place:List Int) (list:List (Int×Int)):Option (List Rt):=by
 classical exact if(c.Valid/\PlaceOk (qac c).length place)/\qmy list then qdO c (qac c) place (qed list) else none
theorem Tryz.def_iff (list:List (Int×Int)):defectsValid list=true↔qmy list:=by
 simp only[defectsValid,defectOk,qmy,yaj,decide_eq_true_eq,yav]
theorem qks (list:List (Int×Int)):(qed list).length=8:=by
 have key : ∀ (l:List (Int×Int)) (b:List (List Bool)),(l.foldl (fun b d=>b.set d.2.toNat ((b.getD d.2.toNat []).set d.1.toNat true)) b).length=b.length:=by
  intro l;induction l with
  | nil=>exact fun b=>rfl
  | cons d l ih=>intro b;rw[yan,ih,yaz]
 rw[qed,key];rfl
theorem qkt (list:List (Int×Int)) : ∀ u,u<8->((qed list).getD u []).length=25:=by
 have key : ∀ (l:List (Int×Int)) (b:List (List Bool)),b.length=8->(∀ u,u<8->(b.getD u []).length=25)->∀ u,u<8->((l.foldl (fun b d=>b.set d.2.toNat ((b.getD d.2.toNat []).set d.1.toNat true)) b).getD u []).length=25:=by
  intro l;induction l with
  | nil=>exact fun b _ h=>h
  | cons d l ih=>
   intro b hb h;refine ih _ (by rw[yaz];exact hb) fun u hu=>?_
   by_cases e:d.2.toNat=u
   ·subst e;have:(b.set d.2.toNat ((b.getD d.2.toNat []).set d.1.toNat true)).getD d.2.toNat []=(b.getD d.2.toNat []).set d.1.toNat true:=by simp[List.getD,show d.2.toNat<b.length by omega]
    rw[this,yaz];exact h _ hu
   ·have:(b.set d.2.toNat ((b.getD d.2.toNat []).set d.1.toNat true)).getD u []=b.getD u []:=by simp[List.getD,List.getElem?_set,e]
    rw[this];exact h u hu
 exact key list qd9 rfl free0_ok.row
theorem qjm (list:List (Int×Int)):BusyOk (qed list):=⟨qks list,qkt list⟩
theorem qmz {list:List (Int×Int)}{i:Nat}(hi:i<list.length):qed (list.take (i+1))=(qed (list.take i)).set (list.getD i (0,0)).2.toNat (((qed (list.take i)).getD (list.getD i (0,0)).2.toNat []).set (list.getD i (0,0)).1.toNat true):=
 qaw (f:=fun(b:List (List Bool)) (d:Int×Int)=>b.set d.2.toNat ((b.getD d.2.toNat []).set d.1.toNat true)) (b:=qd9) ((0,0):Int×Int) hi
theorem qn9:qbS qd9=List.replicate 200 false:=by decide +kernel
theorem bx_free:bx (qbS qd9)=List.replicate 200 (I.d (.bool false)):=by rw[bx,qn9,List.map_replicate]
theorem qoa {c:Circ}{place:List Int} : ∀ k:Nat,(k:Int)<c.vars->∀ n∈qdP c (qac c) k,∃ v:Int,1<=v/\v<c.vars/\n=ninC c (qac c) v/\qaE c (qac c) place v≠[]
 | 0,_,n,h=>by simp[qdP] at h
 | k+1,hk,n,h=>by
  rw[qdP] at h;rcases List.mem_append.1 h with h1|h1
  ·exact qoa k (by omega) n h1
  ·split at h1
   ·rename_i h2;refine⟨(k:Int)+1,by omega,by omega,by simpa using h1,fun h3=>qeb.1 h3 h2⟩
   ·simp at h1
theorem qlS {cells:List Cel}{v:Int} : ∀ n:Nat,qdt cells v n<n/\-1<=qdt cells v n
 | 0=>by simp[qdt]
 | n+1=>by
  have:=qlS (cells:=cells) (v:=v) n;rw[qdt];split <;> omega
theorem qob {c:Circ}(hc:c.Valid) {place:List Int}(hp:PlaceOk (qac c).length place) : ∀ n∈qk8 c (qac c),(∀ i∈n.sinks,0<=i/\i<place.length)/\n.cell<place.length/\n.sinks.length<=400/\n.pads.length<=400/\∀ t∈qbW n place,0<=t/\t<=24:=by
 intro n hn;have hf:=hc.first_bd;have hv:=hc.vars_bd;have hcl:=qbD hc;have hlo:=hc.lo;have hpl:=hp.len;obtain⟨v,h1,h2,rfl,h3⟩:=qoa (place:=place) (c.vars.toNat-1) (by omega) n hn;refine⟨fun i hi=>?_,?_,?_,?_,qiJ hc hp h1 h2 h3⟩
 ·obtain⟨j,hj,-,rfl⟩:=qdL.1 (show i∈qaU (qac c) v (qac c).length from hi);omega
 ·have:=(qlS (cells:=qac c) (v:=v) (qac c).length).1;show qdt (qac c) v (qac c).length<_
  omega
 ·have:=qdo (fun x hx=>(qde hc x hx).2.1) v (qac c).length (yad _);show(qaU (qac c) v (qac c).length).length<=400
  omega
 ·have:=qgm (c:=c) (net:=v) c.outs.length;show(qaR c v c.outs.length).length<=400
  omega
theorem Tryz.c_RouteAround (c:Circ) (place:List Int) (list:List (Int×Int)):Pure prog 70 [dC c,dIs place,dPs list] (qgn (qaM c place list)):=by
 have hpv:=c_PlacementValid c place;have hdv:=c_DefectsValid list;by_cases hv:c.Valid/\PlaceOk (qac c).length place
 ·rw[decide_eq_true hv] at hpv;by_cases hd:qmy list
  ·rw[(def_iff list).2 hd] at hdv;have hra:qaM c place list=qdO c (qac c) place (qed list):=by
    classical
    rw[qaM,if_pos ⟨hv,hd⟩]
   have hnn:=qmu hv.1 hv.2 (qed list);rw[hra,hnn];have hno:=c_netsOf c hv.1;refine qaA func70 rfl ntmps70 fun ok=>?_
   simp only[go_sem,seval,-List.reduceReplicate] at ok
   repeat' first|assumption|(simp (disch:=first|assumption|omega|(simp;done)|(simp;omega)) only[go_sem,seval,-List.reduceReplicate,yaa,qcx])|(with_reducible first|apply And.intro|intro _)|(refine qad hpv ?_)|(refine qaO (fun _=>hdv) ?_)|((try rw[qaa]);omega)
   refine qai (E:=env 0) tok (σ:=Nat) (fun i=>[(1,.d (dIs place)),(3,.ptr 0 0),(8,.ptr 1 0),(27,.d (dPs list)),(28,.d (dI list.length)),(29,.d (dI i))])
    (fun i=>[.box [.d (dI c.inputs),.d (dIs c.next),.d (dPs c.gates),.d (dIs c.outs)],.box (bx (qbS (qed (list.take i))))]) (fun i=>i<=list.length) (fun i=>list.length-i) [] [] 1000 1000 ?_ ?_
   ·simp only[go_sem,seval,-List.reduceReplicate];refine⟨0,by omega,?_⟩;rw[show qed (list.take 0)=qd9 from rfl,bx_free];simp only[go_sem,seval]
   ·intro i hi;have hbl:=qks (list.take i);have hbr:=qkt (list.take i);by_cases hit:i<list.length
    ·have hstp:=qmz hit;have hr:=hd.2 _ (qab hit:list.getD i (0,0)∈list);generalize qed (list.take i)=T at *
     generalize hh9:list.getD i (0,0)=hh at *
     have hbr2:=hbr hh.2.toNat (by omega);have hset:=qqN (l:=qbS T) (k:=hh.1.toNat*8+hh.2.toNat) (b:=true);rw[qkj (by omega) (by omega) (by omega) (by omega),<-hstp] at hset
     repeat' first|assumption|(simp (disch:=first|assumption|omega|(simp;done)|(simp;omega)) only[go_sem,seval,-List.reduceReplicate,hh9,yaK,qbe,hset,yaa,qcx])|(with_reducible first|apply And.intro|intro _)|((try rw[qaa]);omega)
     refine qbN (n:=0) [9] (fsts [0,1,3,5,6,2,7,4,8] (.one 9 .done)) ?_
     repeat' first|assumption|(simp (disch:=first|assumption|omega|(simp;done)|(simp;omega)) only[go_sem,seval,-List.reduceReplicate,hh9,yaK,qbe,hset,yaa,qcx])|(with_reducible first|apply And.intro|intro _)|((try rw[qaa]);omega)
     refine⟨i+1,by omega,by omega,rfl,?_⟩;simp only[go_sem,seval,-List.reduceReplicate]
    ·rw[show list.take i=list from yaa (by omega)]
     repeat' first|assumption|(simp (disch:=first|assumption|omega|(simp;done)|(simp;omega)) only[go_sem,seval,-List.reduceReplicate,yaa,qcx])|(with_reducible first|apply And.intro|intro _)|((try rw[qaa]);omega)
     refine qaq hno [0] (by simp only[go_sem,seval,-List.reduceReplicate]) ?_;rintro r0 H1 ⟨rfl,rfl⟩
     repeat' first|assumption|(simp (disch:=first|assumption|omega|(simp;done)|(simp;omega)) only[go_sem,seval,-List.reduceReplicate,yaa,qcx])|(with_reducible first|apply And.intro|intro _)|((try rw[qaa]);omega)
     have hnf:=qob hv.1 hv.2;have hNl:(qk8 c (qac c)).length<=1000:=by
      have:=qhV c (qac c) (c.vars.toNat-1);have:=hv.1.vars_bd;show(qdP c (qac c) (c.vars.toNat-1)).length<=1000
      omega
     have hpl:place.length<=1000:=by rw[hv.2.len];have:=qbD hv.1;omega
     clear hno hnn hra;generalize qk8 c (qac c)=N at *
     refine qai (E:=env 0) tok (σ:=Nat×List (List Bool)×List Rt) (fun s=>[(1,.d (dIs place)),(8,.ptr 1 0),(11,.sl 2 s.2.2.length 3 0 s.2.2.length),(43,.d (dNis N)),(44,.d (dI N.length)),(45,.d (dI s.1))])
      (fun s=>[.dead 0,.box (bx (qbS s.2.1)),.row s.2.2.length 3 true (s.2.2.map fun x=>dRt x)]) (fun s=>s.1<=N.length/\(N.take s.1).foldl (qhN place) (some (qed list,[]))=some (s.2.1,s.2.2)/\BusyOk s.2.1/\s.2.2.length<=s.1/\∀ x∈s.2.2,x.hops.length<=25) (fun s=>N.length-s.1) [] [(11,3,true)] 1000 1000 ?_ ?_
     ·simp only[go_sem,seval,-List.reduceReplicate];refine⟨(0,qed list,[]),⟨by simp,by simp,qjm list,by simp,by simp⟩,?_⟩;simp only[go_sem,seval,-List.reduceReplicate]
     ·rintro⟨k,busy,out⟩ ⟨hk,hfo,hbo,hol,hoh⟩;simp only at hk hfo hbo hol hoh;by_cases hlt:k<N.length
      ·have hfs:=qaw (f:=qhN place) (b:=some (qed list,[])) nin0 hlt;obtain⟨q1,q2,q3,q4,q5⟩:=hnf _ (qab hlt:N.getD k nin0∈N);have hdrop:N.foldl (qhN place) (some (qed list,[]))=(N.drop (k+1)).foldl (qhN place) ((N.take (k+1)).foldl (qhN place) (some (qed list,[]))):=by
        conv=>lhs;rw[<-ybc (k+1) N]
        rw[ybf]
       rw[hfo] at hfs;generalize hx9:N.getD k nin0=n at *
       have hrt:=c_route busy hbo n place q1 q2 q3 q4 hpl q5
       repeat' first|assumption|(simp (disch:=first|assumption|omega|(simp;done)|(simp;omega)) only[go_sem,seval,-List.reduceReplicate,hx9,yaa,qcx])|(with_reducible first|apply And.intro|intro _)|((try rw[qaa]);omega)
       refine qaq hrt [1] (by simp only[go_sem,seval,-List.reduceReplicate]) ?_;rw[qhN,yba] at hfs;simp only at hfs;cases hne:netB (qbW n place) busy 8 0 with
       | none=>
        rw[hne] at hfs;simp only at hfs;rw[hfs,qhO] at hdrop;rw[hdrop];rintro r0 H1 ⟨rfl,rfl⟩
        repeat' first|assumption|(simp (disch:=first|assumption|omega|(simp;done)|(simp;omega)) only[go_sem,seval,-List.reduceReplicate,yaa,qcx])|(with_reducible first|apply And.intro|intro _)|((try rw[qaa]);omega)
        simp only[qgn,yaD,go_sem]
       | some q=>
        obtain⟨t,h⟩:=q;rw[hne] at hfs;simp only at hfs;obtain⟨-,ht8,htr,-⟩:=qji 8 0 hne;obtain⟨hT,-,-⟩:=qgR q5 (by simp[qbW]) htr;have hhl:=qcP hT;rintro r0 H1 ⟨g,rfl,rfl⟩
        repeat' first|assumption|(simp (disch:=first|assumption|omega|(simp;done)|(simp;omega)) only[go_sem,seval,-List.reduceReplicate,yaa,qcx])|(with_reducible first|apply And.intro|intro _)|((try rw[qaa]);omega)
        refine⟨(k+1,takeB busy t h,out ++ [⟨n.net,(t:Int),h⟩]),⟨by simp only;omega,hfs,qgS hbo (by omega),by simp;omega,fun x hx=>?_⟩,by simp only;omega,?_⟩
        ·rcases List.mem_append.1 hx with h1|h1
         ·exact hoh x h1
         ·obtain rfl:x=⟨n.net,(t:Int),h⟩:=by simpa using h1
          exact hhl
        ·simp only[go_sem,seval,-List.reduceReplicate];simp
      ·obtain rfl:k=N.length:=by omega
       rw[yaq] at hfo;rw[hfo]
       repeat' first|assumption|(simp (disch:=first|assumption|omega|(simp;done)|(simp;omega)) only[go_sem,seval,-List.reduceReplicate,yaa,qcx])|(with_reducible first|apply And.intro|intro _)|((try rw[qaa]);omega)
       simp only[qgn,yax,go_sem]
  ·have hra:qaM c place list=none:=by
    classical
    rw[qaM,if_neg (fun h=>hd h.2)]
   rw[hra];rw[show defectsValid list=false from Bool.eq_false_iff.2 (fun h=>hd ((def_iff list).1 h))] at hdv;refine qaA func70 rfl ntmps70 fun ok=>?_
   simp only[go_sem,seval,-List.reduceReplicate] at ok
   repeat' first|assumption|(simp (disch:=first|assumption|omega|(simp;done)|(simp;omega)) only[go_sem,seval,-List.reduceReplicate,yaa,qcx])|(with_reducible first|apply And.intro|intro _)|(refine qad hpv ?_)|(refine qaO (fun _=>hdv) ?_)|((try rw[qaa]);omega)
   simp only[qgn,go_sem]
 ·have hra:qaM c place list=none:=by
   classical
   rw[qaM,if_neg (fun h=>hv h.1)]
  rw[decide_eq_false hv] at hpv;rw[hra];refine qaA func70 rfl ntmps70 fun ok=>?_
  simp only[go_sem,seval,-List.reduceReplicate] at ok
  repeat' first|assumption|(simp (disch:=first|assumption|omega|(simp;done)|(simp;omega)) only[go_sem,seval,-List.reduceReplicate,yaa,qcx])|(with_reducible first|apply And.intro|intro _)|(refine qad hpv ?_)|(refine qaO (fun _=>hdv) ?_)|((try rw[qaa]);omega)
  simp only[qgn,go_sem]
theorem Tryz.c_Route (c:Circ) (place:List Int):Pure prog 39 [dC c,dIs place] (qgn (qaM c place [])):=by
 have h1:=(c_RouteAround c place []).wk (ds':=[dC c,dIs place,.nil]) (by simp only[go_sem];omega);cases hra:qaM c place [] with
 | none=>
  rw[hra] at h1;have h1:Pure prog 70 [dC c,dIs place,.nil] (.tup [.nil,dB false]):=h1;show Pure _ _ _ (.tup [.nil,dB false])
  refine qaA func39 rfl ntmps39 fun ok=>?_
  simp only[go_sem,seval,-List.reduceReplicate] at ok
  repeat' first|assumption|(simp (disch:=first|assumption|omega|(simp;done)|(simp;omega)) only[go_sem,seval,-List.reduceReplicate,yaa,qcx])|(with_reducible first|apply And.intro|intro _)|(refine qc9 h1 ?_)|((try rw[qaa]);omega)
 | some rs=>
  rw[hra] at h1;have h1:Pure prog 70 [dC c,dIs place,.nil] (.tup [dRts rs,dB true]):=h1;show Pure _ _ _ (.tup [dRts rs,dB true])
  refine qaA func39 rfl ntmps39 fun ok=>?_
  simp only[go_sem,seval,-List.reduceReplicate] at ok
  repeat' first|assumption|(simp (disch:=first|assumption|omega|(simp;done)|(simp;omega)) only[go_sem,seval,-List.reduceReplicate,yaa,qcx])|(with_reducible first|apply And.intro|intro _)|(refine qc9 h1 ?_)|((try rw[qaa]);omega)
end Go.Proofs

set_option linter.unusedVariables false
set_option linter.unusedSimpArgs false
namespace Go.VL
open Go
abbrev HMap:=List ((Int×Int)×Int)
def hk (m:HMap) (k:Int×Int):Option Int:=(m.find? fun e=>decide (e.1=k)).map fun e=>e.2
def hkUp:HMap->Int×Int->Int->HMap
 | [],k,b=>[(k,b)]
 | e::r,k,b=>if e.1=k then(k,b)::r else e::hkUp r k b
theorem hk_up (k:Int×Int) (b:Int) (j:Int×Int) : ∀ m,hk (hkUp m k b) j=if j=k then some b else hk m j
 | []=>by by_cases h:j=k <;> simp[hk,hkUp,h,eq_comm]
 | e::r=>by
  have ih:=hk_up k b j r;unfold hkUp;by_cases h:e.1=k
  ·rw[if_pos h];by_cases h2:j=k
   ·simp[hk,h2]
   ·have h3 : ¬ e.1=j:=fun h4=>h2 (by rw[<-h4,h])
    have h4 : ¬ k=j:=fun h5=>h2 h5.symm
    simp[hk,h2,h3,h4]
  ·rw[if_neg h];by_cases h3:e.1=j
   ·have h2 : ¬ j=k:=fun h4=>h (by rw[h3,h4])
    simp[hk,h2,h3]
   ·unfold hk at ih ⊢;simp only[List.find?_cons,decide_eq_false h3,ih]
def hkE (m:HMap):List (D×D):=m.map fun e=>(.agg [.int .i64 e.1.1,.int .i64 e.1.2],.int .i64 e.2)
theorem qjn (k:Int×Int) : ∀ m,qcV (hkE m) (.agg [.int .i64 k.1,.int .i64 k.2])=(hk m k).map (D.int .i64)
 | []=>rfl
 | e::r=>by
  have ih:=qjn k r;show qcV ((.agg [.int .i64 e.1.1,.int .i64 e.1.2],.int .i64 e.2)::hkE r) _=_
  rw[qf7,qjT];by_cases h:e.1=k
  ·subst h;simp[hk]
  ·have h2 : ¬ (k.1=e.1.1/\k.2=e.1.2):=fun h3=>h (Prod.ext h3.1.symm h3.2.symm)
   rw[decide_eq_false h2];simp only[yaf,if_false,ih];simp[hk,h]
theorem qoc (k:Int×Int) (b:Int) : ∀ m,updD (hkE m) (.agg [.int .i64 k.1,.int .i64 k.2]) (.int .i64 b)=hkE (hkUp m k b)
 | []=>rfl
 | e::r=>by
  have ih:=qoc k b r;show updD ((.agg [.int .i64 e.1.1,.int .i64 e.1.2],.int .i64 e.2)::hkE r) _ _=_
  rw[updD,qjT];by_cases h:e.1=k
  ·subst h;simp[hkUp,hkE]
  ·have h2 : ¬ (k.1=e.1.1/\k.2=e.1.2):=fun h3=>h (Prod.ext h3.1.symm h3.2.symm)
   rw[decide_eq_false h2];simp only[yaf,if_false,ih];simp[hkUp,hkE,h]
def covH (routes:List Rt) (i j:Nat) (n t:Int):Prop:=(∃ a,a<i/\a<routes.length/\(routes.getD a rt0).net=n/\t∈qak (routes.getD a rt0).hops)∨(i<routes.length/\(routes.getD i rt0).net=n/\t∈qak ((routes.getD i rt0).hops.take j))
open Classical in
theorem ifc {α : Type}{p q:Prop}{a b : α}(h:p↔q):(if p then a else b)=if q then a else b:=by
 by_cases hp:p
 ·rw[if_pos hp,if_pos (h.1 hp)]
 ·rw[if_neg hp,if_neg (fun hq=>hp (h.2 hq))]
open Classical in
def HMok (routes:List Rt) (i j:Nat) (m:HMap):Prop:=∀ n t,hk m (n,t)=if covH routes i j n t then some (qa9 routes n t) else none
theorem HMok.zero (routes:List Rt):HMok routes 0 0 []:=fun n t=>by
 rw[if_neg]
 ·rfl
 ·rintro(⟨a,h,-⟩|⟨-,-,h⟩)
  ·omega
  ·simp[qak] at h
theorem HMok.next {routes:List Rt}{i:Nat}{m:HMap}(hi:i<routes.length) (h:HMok routes i (routes.getD i rt0).hops.length m):HMok routes (i+1) 0 m:=fun n t=>by
 rw[h n t];have e:covH routes i (routes.getD i rt0).hops.length n t↔covH routes (i+1) 0 n t:=by
  unfold covH;rw[yaq];constructor
  ·rintro(⟨a,h1,h2⟩|⟨h1,h2,h3⟩)
   ·exact .inl ⟨a,by omega,h2⟩
   ·exact .inl ⟨i,by omega,h1,h2,h3⟩
  ·rintro(⟨a,h1,h2⟩|⟨-,-,h3⟩)
   ·by_cases e:a=i
    ·subst e;exact .inr h2
    ·exact .inl ⟨a,by omega,h2⟩
   ·simp[qak] at h3
 exact ifc e
theorem qh7 {hops:List (Int×Int)}{j:Nat}(hj:j<hops.length) {t:Int}:t∈qak (hops.take (j+1))↔t∈qak (hops.take j)∨t=(hops.getD j (0,0)).1:=by
 unfold qak;rw[yaE hj,yaI,yao,List.map_singleton,yar];rw[List.getD_eq_getElem?_getD,List.getElem?_eq_getElem hj];rfl
theorem HMok.step {routes:List Rt}(hr:RtsOk routes) {i j:Nat}{m:HMap}(hi:i<routes.length) (h:HMok routes i j m) (hj:j<(routes.getD i rt0).hops.length) {d:Int}
  (hd:d=qa9 routes (routes.getD i rt0).net ((routes.getD i rt0).hops.getD j (0,0)).1):HMok routes i (j+1) (hkUp m ((routes.getD i rt0).net,((routes.getD i rt0).hops.getD j (0,0)).1) d):=fun n t=>by
 rw[hk_up,h n t];have e:covH routes i (j+1) n t↔covH routes i j n t∨((n,t)=((routes.getD i rt0).net,((routes.getD i rt0).hops.getD j (0,0)).1)):=by
  unfold covH;rw[qh7 hj,yac];constructor
  ·rintro(h1|⟨h1,h2,h3|h3⟩)
   ·exact .inl (.inl h1)
   ·exact .inl (.inr ⟨h1,h2,h3⟩)
   ·exact .inr ⟨h2.symm,h3⟩
  ·rintro((h1|⟨h1,h2,h3⟩)|⟨h2,h3⟩)
   ·exact .inl h1
   ·exact .inr ⟨h1,h2,.inl h3⟩
   ·exact .inr ⟨hi,h2.symm,.inr h3⟩
 by_cases e2:(n,t)=((routes.getD i rt0).net,((routes.getD i rt0).hops.getD j (0,0)).1)
 ·rw[if_pos e2,if_pos (e.2 (.inr e2)),hd];rw[yac] at e2;rw[e2.1,e2.2]
 ·rw[if_neg e2];have e3:covH routes i (j+1) n t↔covH routes i j n t:=e.trans ⟨fun h=>h.resolve_right e2,.inl⟩;exact ifc e3.symm
theorem hops_at {routes:List Rt}(hr:RtsOk routes) {i j:Nat}(hi:i<routes.length) (hj:j<(routes.getD i rt0).hops.length) :
  qa9 routes (routes.getD i rt0).net ((routes.getD i rt0).hops.getD j (0,0)).1=if 0<=((routes.getD i rt0).hops.getD j (0,0)).2 then qa9 routes (routes.getD i rt0).net ((routes.getD i rt0).hops.getD j (0,0)).2+1 else 0:=by
 have hm:routes.getD i rt0∈routes:=qab hi;obtain⟨b,hb⟩:=hr.tree _ hm;rw[qfS hr.nd _ hm,qfS hr.nd _ hm,qpO hb hj]
theorem HMok.from_ {routes:List Rt}(hr:RtsOk routes) {i j:Nat}{m:HMap}(hi:i<routes.length) (h:HMok routes i j m) (hj:j<(routes.getD i rt0).hops.length) (hf:0<=((routes.getD i rt0).hops.getD j (0,0)).2) :
  hk m ((routes.getD i rt0).net,((routes.getD i rt0).hops.getD j (0,0)).2)=some (qa9 routes (routes.getD i rt0).net ((routes.getD i rt0).hops.getD j (0,0)).2):=by
 have hm:routes.getD i rt0∈routes:=qab hi;obtain⟨b,hb⟩:=hr.tree _ hm;rw[h,if_pos];right;refine⟨hi,rfl,?_⟩;rcases hb.root j hj with⟨-,h1⟩|⟨-,a,h1,h2,-⟩
 ·omega
 ·rw[<-h2];refine List.mem_map.2 ⟨(routes.getD i rt0).hops.getD a (0,0),?_,rfl⟩;have e:((routes.getD i rt0).hops.take j).getD a (0,0)=(routes.getD i rt0).hops.getD a (0,0):=by
   simp[List.getD,List.getElem?_take,h1]
  rw[<-e];exact qab (by rw[yaw];omega)
theorem HMok.fin {routes:List Rt}{m:HMap}(h:HMok routes routes.length 0 m) (n t:Int):(hk m (n,t)).getD 0=qa9 routes n t/\(∀ d,hk m (n,t)=some d->d=qa9 routes n t/\qlR routes n t=d)/\(hk m (n,t)=none->qlR routes n t = -1):=by
 have e:covH routes routes.length 0 n t↔∃ r∈routes,r.net=n/\t∈qak r.hops:=by
  unfold covH;constructor
  ·rintro(⟨a,-,h2,h3⟩|⟨h1,-⟩)
   ·exact⟨_,qab h2,h3⟩
   ·omega
  ·rintro⟨r,hr,h2⟩;obtain⟨a,ha,rfl⟩:=qbg rt0 hr;exact .inl ⟨a,ha,ha,h2⟩
 rw[h n t];by_cases hc:covH routes routes.length 0 n t
 ·rw[if_pos hc];refine⟨rfl,fun d hd=>?_,fun h=>by cases h⟩;obtain rfl:qa9 routes n t=d:=by simpa using hd
  exact⟨rfl,by rw[qlR,if_pos (e.1 hc)]⟩
 ·rw[if_neg hc];refine⟨?_,fun d hd=>(by cases hd),fun _=>by rw[qlR,if_neg (fun h=>hc (e.2 h))]⟩;rw[qkl fun r hr h1 h2=>hc (e.2 ⟨r,hr,h1,h2⟩)];rfl
end Go.VL

set_option maxRecDepth 20000
set_option linter.unusedVariables false
set_option linter.unusedSimpArgs false
namespace Go.Proofs
open Go Go.VL
theorem qhW {n t:Nat}(h:n=2) (m:HMap):qbw (.array n t) (hkE m):=by
 rw[qdV];intro e he;obtain⟨x,_,rfl⟩:=List.mem_map.1 he;exact⟨h.symm,⟨rfl,rfl,trivial⟩⟩
theorem hkE_get {routes:List Rt}{m:HMap}(hm:HMok routes routes.length 0 m) (n t:Int):(qcV (hkE m) (.agg [.int .i64 n,.int .i64 t])).getD (.int .i64 0)=.int .i64 (qa9 routes n t):=by
 rw[qjn (n,t),<-(hm.fin n t).1];cases hk m (n,t) <;> rfl
theorem Tryz.c_latest (g:Nat) (cells:List Cel) (m:HMap) (arr:List Int) (routes:List Rt) (hm:HMok routes routes.length 0 m) (hr:RtsOk routes) (b:Int) (hb:0<=b/\b<=1000000) (ha : ∀ v,0<=arr.getD v 0/\arr.getD v 0<=b) (nets:List Int) (hn : ∀ n∈nets,0<=n/\n<arr.length) (hl:nets.length<=1000) (tile:Int) :
  ICall prog 170 [.agg [.d (dCes cells),.map 0,.sl 1 g 1 0 arr.length],.d (dIs nets),.d (dI tile)] [.map (hkE m),.row g 1 true (arr.map (D.int .i64))]
   (fun r H'=>r=.d (dI (latT arr routes nets tile))/\H'=[.map (hkE m),.row g 1 true (arr.map (D.int .i64))]):=by
 refine qaz (E:=env 2) tok rfl 1000 func170 rfl rfl ntmps170 (by simp) ?_
 repeat' first|assumption|(simp (disch:=first|assumption|omega|(simp;done)|(simp;omega)) only[go_sem,seval,-List.reduceReplicate,yaa])|(with_reducible first|apply And.intro|intro _)|exact lexT|((try rw[qaa]);omega)
 refine qai (E:=env 2) tok (σ:=Nat) (fun i=>[(2,.d (dI tile)),(3,.ptr 2 0),(7,.d (dI (latT arr routes (nets.take i) tile))),(10,.d (dIs nets)),(11,.d (dI nets.length)),(12,.d (dI i))])
  (fun i=>[.map (hkE m),.row g 1 true (arr.map (D.int .i64)),.box [.d (dCes cells),.map 0,.sl 1 g 1 0 arr.length]]) (fun i=>i<=nets.length) (fun i=>nets.length-i) [] [] 1000 1000 ?_ ?_
 ·simp only[go_sem,seval,-List.reduceReplicate];exact⟨0,by omega,by simp[latT]⟩
 ·intro i hi;have hlb:=qhQ ha hr tile (nets.take i);by_cases hit:i<nets.length
  ·have hls:latT arr routes (nets.take (i+1)) tile=max (latT arr routes (nets.take i) tile) (arr.getD (nets.getD i 0).toNat 0+qa9 routes (nets.getD i 0) tile):=qaw (f:=fun(t n:Int)=>max t (arr.getD n.toNat 0+qa9 routes n tile)) (b:=0) (0:Int) hit;have hnb:=hn _ (qab hit:nets.getD i 0∈nets);generalize hx9:nets.getD i 0=x at *
   have hax:=ha x.toNat;have hhx:=qec (net:=x) (tile:=tile) hr.hops;have hrl:=hr.len;have ef:=hkE_get hm x tile;generalize latT arr routes (nets.take i) tile=w at *
   repeat' first|assumption|(simp (disch:=first|assumption|omega|(simp;done)|(simp;omega)) only[go_sem,seval,-List.reduceReplicate,hx9,ef,yaa])|(with_reducible first|apply And.intro|intro _)|exact lexT|((try rw[qaa]);omega)
   ·exact qhW rfl m
   ·exact⟨i+1,by omega,by omega,hls.symm,rfl⟩
  ·obtain rfl:i=nets.length:=by omega
   rw[yaq];rw[yaq] at hlb
   repeat' first|assumption|(simp (disch:=first|assumption|omega|(simp;done)|(simp;omega)) only[go_sem,seval,-List.reduceReplicate,yaa])|(with_reducible first|apply And.intro|intro _)|exact lexT|((try rw[qaa]);omega)
   refine qa3 (r0:=.d (dI (latT arr routes nets tile))) (H1:=[.map (hkE m),.row g 1 true (arr.map (D.int .i64))]) ?_ ⟨rfl,rfl⟩;simp only[go_sem,seval,-List.reduceReplicate]
end Go.Proofs
