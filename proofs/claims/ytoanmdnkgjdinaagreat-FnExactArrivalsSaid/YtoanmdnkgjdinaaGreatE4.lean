/- Contracts, plain definitions and lemmas. Conditions: none; lemmas. -/
import Derived.Test.YtoanmdnkgjdinaaGreatE2
import Derived.Test.YtoanmdnkgjdinaaGreatD8
set_option maxRecDepth 20000
set_option linter.unusedVariables false
set_option linter.unusedSimpArgs false
namespace Go.Proofs
open Go Go.VL
def qky (list:List (Int×Int)):Prop:=list.length≤12∧∀ d∈list,(0≤d.1∧d.1≤24)∧0≤d.2∧d.2≤7
def qcS (list:List (Int×Int)):List (List Bool):=list.foldl (fun b d=>b.set d.2.toNat ((b.getD d.2.toNat []).set d.1.toNat true)) qdQ
def qfw (o:Option (List Rt)):D:=match o with
 | none=>.tup [.nil,dB false]
 | some rs=>.tup [dRts rs,dB true]
noncomputable def qaw (c:Circ) (place:List Int) (list:List (Int×Int)):Option (List Rt):=by
 classical exact if(c.Valid∧PlaceOk (qan c).length place)∧qky list then qcB c (qan c) place (qcS list) else none
theorem Tryz.def_iff (list:List (Int×Int)):Tryz.defectsValid list=true↔qky list:=by
 simp only[Tryz.defectsValid,Tryz.defectOk,qky,Bool.and_eq_true,decide_eq_true_eq,List.all_eq_true]
theorem qia (list:List (Int×Int)):(qcS list).length=8:=by
 have key : ∀ (l:List (Int×Int)) (b:List (List Bool)),(l.foldl (fun b d=>b.set d.2.toNat ((b.getD d.2.toNat []).set d.1.toNat true)) b).length=b.length:=by
  intro l
  induction l with
  | nil=>exact fun b=>rfl
  | cons d l ih=>intro b;rw[List.foldl_cons,ih,List.length_set]
 rw[qcS,key];rfl
theorem qib (list:List (Int×Int)) : ∀ u,u<8→((qcS list).getD u []).length=25:=by
 have key : ∀ (l:List (Int×Int)) (b:List (List Bool)),b.length=8→(∀ u,u<8→(b.getD u []).length=25)→∀ u,u<8→((l.foldl (fun b d=>b.set d.2.toNat ((b.getD d.2.toNat []).set d.1.toNat true)) b).getD u []).length=25:=by
  intro l
  induction l with
  | nil=>exact fun b _ h=>h
  | cons d l ih=>
   intro b hb h
   refine ih _ (by rw[List.length_set];exact hb) fun u hu=>?_
   by_cases e:d.2.toNat=u
   ·subst e
    have:(b.set d.2.toNat ((b.getD d.2.toNat []).set d.1.toNat true)).getD d.2.toNat []=(b.getD d.2.toNat []).set d.1.toNat true:=by simp[List.getD,show d.2.toNat<b.length by omega]
    rw[this,List.length_set]
    exact h _ hu
   ·have:(b.set d.2.toNat ((b.getD d.2.toNat []).set d.1.toNat true)).getD u []=b.getD u []:=by simp[List.getD,List.getElem?_set,e]
    rw[this]
    exact h u hu
 exact key list qdQ rfl free0_ok.row
theorem qg3 (list:List (Int×Int)):BusyOk (qcS list):=⟨qia list,qib list⟩
theorem qiW {list:List (Int×Int)}{i:Nat}(hi:i<list.length):qcS (list.take (i+1))=(qcS (list.take i)).set (list.getD i (0,0)).2.toNat (((qcS (list.take i)).getD (list.getD i (0,0)).2.toNat []).set (list.getD i (0,0)).1.toNat true):=
 qaH (f:=fun(b:List (List Bool)) (d:Int×Int)=>b.set d.2.toNat ((b.getD d.2.toNat []).set d.1.toNat true)) (b:=qdQ) ((0,0):Int×Int) hi
theorem qn1:qb7 qdQ=List.replicate 200 false:=by decide +kernel
theorem bx_free:bx (qb7 qdQ)=List.replicate 200 (I.d (.bool false)):=by rw[bx,qn1,List.map_replicate]
theorem qn2 {c:Circ}{place:List Int} : ∀ k:Nat,(k:Int)<c.vars→∀ n∈qdT c (qan c) k,∃ v:Int,1≤v∧v<c.vars∧n=ninC c (qan c) v∧qaL c (qan c) place v≠[]
 | 0,_,n,h=>by simp[qdT] at h
 | k+1,hk,n,h=>by
  rw[qdT] at h
  rcases List.mem_append.1 h with h1|h1
  ·exact qn2 k (by omega) n h1
  ·split at h1
   ·rename_i h2
    refine⟨(k:Int)+1,by omega,by omega,by simpa using h1,fun h3=>qed.1 h3 h2⟩
   ·simp at h1
theorem qlO {cells:List Cel}{v:Int} : ∀ n:Nat,qdv cells v n<n∧-1≤qdv cells v n
 | 0=>by simp[qdv]
 | n+1=>by
  have:=qlO (cells:=cells) (v:=v) n
  rw[qdv]
  split <;> omega
theorem qn3 {c:Circ}(hc:c.Valid) {place:List Int}(hp:PlaceOk (qan c).length place) : ∀ n∈qk7 c (qan c),(∀ i∈n.sinks,0≤i∧i<place.length)∧n.cell<place.length∧n.sinks.length≤400∧n.pads.length≤400∧∀ t∈qce n place,0≤t∧t≤24:=by
 intro n hn
 have hf:=hc.first_bd
 have hv:=hc.vars_bd
 have hcl:=qb4 hc
 have hlo:=hc.lo
 have hpl:=hp.len
 obtain⟨v,h1,h2,rfl,h3⟩:=qn2 (place:=place) (c.vars.toNat-1) (by omega) n hn
 refine⟨fun i hi=>?_,?_,?_,?_,qiT hc hp h1 h2 h3⟩
 ·obtain⟨j,hj,-,rfl⟩:=qdP.1 (show i∈qaZ (qan c) v (qan c).length from hi)
  omega
 ·have:=(qlO (cells:=qan c) (v:=v) (qan c).length).1
  show qdv (qan c) v (qan c).length<_
  omega
 ·have:=qdr (fun x hx=>(qdi hc x hx).2.1) v (qan c).length (Nat.le_refl _)
  show(qaZ (qan c) v (qan c).length).length≤400
  omega
 ·have:=qgw (c:=c) (net:=v) c.outs.length
  show(qaW c v c.outs.length).length≤400
  omega
theorem Tryz.c_RouteAround (c:Circ) (place:List Int) (list:List (Int×Int)):Pure Tryz.prog 33 [dC c,dIs place,dPs list] (qfw (qaw c place list)):=by
 have hpv:=Tryz.c_PlacementValid c place
 have hdv:=Tryz.c_DefectsValid list
 by_cases hv:c.Valid∧PlaceOk (qan c).length place
 ·rw[decide_eq_true hv] at hpv
  by_cases hd:qky list
  ·rw[(Tryz.def_iff list).2 hd] at hdv
   have hra:qaw c place list=qcB c (qan c) place (qcS list):=by
    classical
    rw[qaw,if_pos ⟨hv,hd⟩]
   have hnn:=qmm hv.1 hv.2 (qcS list)
   rw[hra,hnn]
   have hno:=Tryz.c_netsOf c hv.1
   refine qam (E:=Tryz.env 0) Tryz.tok rfl 1000 Tryz.func33 rfl rfl Tryz.ntmps33 (by simp) fun ok=>?_
   simp only[go_sem,seval,-List.reduceReplicate] at ok
   simp only[go_sem,seval,-List.reduceReplicate,Tryz.results33]
   repeat' first|assumption|(simp (disch:=first|assumption|omega|(simp;done)|(simp;omega)) only[qaa,qac,List.take_of_length_le,qab,qaG,qae,qaf,qag,qah,qao,qaj];try simp only[go_sem,seval,-List.reduceReplicate,Tryz.results33])|(with_reducible refine And.intro ?_ ?_)|(with_reducible intro _)|(refine qai hpv ?_;simp only[go_sem,seval,-List.reduceReplicate,Tryz.results33])|(refine qaR (fun _=>hdv) ?_;simp only[go_sem,seval,-List.reduceReplicate,Tryz.results33])|((try rw[qad]);omega)
   refine qaq (E:=Tryz.env 0) Tryz.tok (σ:=Nat) (fun i=>[(1,.d (dIs place)),(3,.ptr 0 0),(8,.ptr 1 0),(27,.d (dPs list)),(28,.d (dI list.length)),(29,.d (dI i))])
    (fun i=>[.box [.d (dI c.inputs),.d (dIs c.next),.d (dPs c.gates),.d (dIs c.outs)],.box (bx (qb7 (qcS (list.take i))))]) (fun i=>i≤list.length) (fun i=>list.length-i) [] [] 1000 1000 ?_ ?_
   ·simp only[go_sem,seval,-List.reduceReplicate]
    refine⟨0,by omega,?_⟩
    rw[show qcS (list.take 0)=qdQ from rfl,bx_free]
    simp only[go_sem,seval]
   ·intro i hi
    have hbl:=qia (list.take i)
    have hbr:=qib (list.take i)
    by_cases hit:i<list.length
    ·have hstp:=qiW hit
     have hr:=hd.2 _ (qak hit:list.getD i (0,0)∈list)
     generalize qcS (list.take i)=T at *
     generalize hh9:list.getD i (0,0)=hh at *
     have hbr2:=hbr hh.2.toNat (by omega)
     have hset:=qqZ (l:=qb7 T) (k:=hh.1.toNat*8+hh.2.toNat) (b:=true)
     rw[qkp (by omega) (by omega) (by omega) (by omega),←hstp] at hset
     simp only[go_sem,seval,-List.reduceReplicate,Tryz.results33,hh9,Nat.mul_one,qaS,hset]
     repeat' first|assumption|(simp (disch:=first|assumption|omega|(simp;done)|(simp;omega)) only[qaa,qac,List.take_of_length_le,qab,qaG,qae,qaf,qag,qah,qao,qaj];try simp only[go_sem,seval,-List.reduceReplicate,Tryz.results33,hh9,Nat.mul_one,qaS,hset])|(with_reducible refine And.intro ?_ ?_)|(with_reducible intro _)|((try rw[qad]);omega)
     refine qaT (E:=Tryz.env 0) Tryz.tok Tryz.follows 1000 1000 [9] (.fst 0 (.fst 1 (.fst 3 (.fst 5 (.fst 6 (.fst 2 (.fst 7 (.fst 4 (.fst 8 (.one 9 (.done))))))))))) (by kernel_rfl) ?_
     simp only[go_sem,seval,-List.reduceReplicate,Tryz.results33,hh9,Nat.mul_one,qaS,hset]
     repeat' first|assumption|(simp (disch:=first|assumption|omega|(simp;done)|(simp;omega)) only[qaa,qac,List.take_of_length_le,qab,qaG,qae,qaf,qag,qah,qao,qaj];try simp only[go_sem,seval,-List.reduceReplicate,Tryz.results33,hh9,Nat.mul_one,qaS,hset])|(with_reducible refine And.intro ?_ ?_)|(with_reducible intro _)|((try rw[qad]);omega)
     refine⟨i+1,by omega,by omega,rfl,?_⟩
     simp only[go_sem,seval,-List.reduceReplicate]
    ·rw[show list.take i=list from List.take_of_length_le (by omega)]
     simp only[go_sem,seval,-List.reduceReplicate,Tryz.results33]
     repeat' first|assumption|(simp (disch:=first|assumption|omega|(simp;done)|(simp;omega)) only[qaa,qac,List.take_of_length_le,qab,qaG,qae,qaf,qag,qah,qao,qaj];try simp only[go_sem,seval,-List.reduceReplicate,Tryz.results33])|(with_reducible refine And.intro ?_ ?_)|(with_reducible intro _)|((try rw[qad]);omega)
     refine qax hno [0] (by simp only[go_sem,seval,-List.reduceReplicate]) ?_
     rintro r0 H1 ⟨rfl,rfl⟩
     simp only[go_sem,seval,-List.reduceReplicate,Tryz.results33]
     repeat' first|assumption|(simp (disch:=first|assumption|omega|(simp;done)|(simp;omega)) only[qaa,qac,List.take_of_length_le,qab,qaG,qae,qaf,qag,qah,qao,qaj];try simp only[go_sem,seval,-List.reduceReplicate,Tryz.results33])|(with_reducible refine And.intro ?_ ?_)|(with_reducible intro _)|((try rw[qad]);omega)
     have hnf:=qn3 hv.1 hv.2
     have hNl:(qk7 c (qan c)).length≤1000:=by
      have:=qh9 c (qan c) (c.vars.toNat-1)
      have:=hv.1.vars_bd
      show(qdT c (qan c) (c.vars.toNat-1)).length≤1000
      omega
     have hpl:place.length≤1000:=by rw[hv.2.len];have:=qb4 hv.1;omega
     clear hno hnn hra
     generalize qk7 c (qan c)=N at *
     refine qaq (E:=Tryz.env 0) Tryz.tok (σ:=Nat×List (List Bool)×List Rt) (fun s=>[(1,.d (dIs place)),(8,.ptr 1 0),(11,.sl 2 s.2.2.length 3 0 s.2.2.length),(43,.d (dNis N)),(44,.d (dI N.length)),(45,.d (dI s.1))])
      (fun s=>[.dead 0,.box (bx (qb7 s.2.1)),.row s.2.2.length 3 true (s.2.2.map fun x=>dRt x)]) (fun s=>s.1≤N.length∧(N.take s.1).foldl (qhY place) (some (qcS list,[]))=some (s.2.1,s.2.2)∧BusyOk s.2.1∧s.2.2.length≤s.1∧∀ x∈s.2.2,x.hops.length≤25) (fun s=>N.length-s.1) [] [(11,3,true)] 1000 1000 ?_ ?_
     ·simp only[go_sem,seval,-List.reduceReplicate]
      refine⟨(0,qcS list,[]),⟨by simp,by simp,qg3 list,by simp,by simp⟩,?_⟩
      simp only[go_sem,seval,-List.reduceReplicate]
     ·rintro⟨k,busy,out⟩ ⟨hk,hfo,hbo,hol,hoh⟩
      simp only at hk hfo hbo hol hoh
      by_cases hlt:k<N.length
      ·have hfs:=qaH (f:=qhY place) (b:=some (qcS list,[])) nin0 hlt
       obtain⟨q1,q2,q3,q4,q5⟩:=hnf _ (qak hlt:N.getD k nin0∈N)
       have hdrop:N.foldl (qhY place) (some (qcS list,[]))=(N.drop (k+1)).foldl (qhY place) ((N.take (k+1)).foldl (qhY place) (some (qcS list,[]))):=by
        conv=>lhs;rw[←List.take_append_drop (k+1) N]
        rw[List.foldl_append]
       rw[hfo] at hfs
       generalize hx9:N.getD k nin0=n at *
       have hrt:=Tryz.c_route busy hbo n place q1 q2 q3 q4 hpl q5
       simp only[go_sem,seval,-List.reduceReplicate,Tryz.results33,hx9]
       repeat' first|assumption|(simp (disch:=first|assumption|omega|(simp;done)|(simp;omega)) only[qaa,qac,List.take_of_length_le,qab,qaG,qae,qaf,qag,qah,qao,qaj];try simp only[go_sem,seval,-List.reduceReplicate,Tryz.results33,hx9])|(with_reducible refine And.intro ?_ ?_)|(with_reducible intro _)|((try rw[qad]);omega)
       refine qax hrt [1] (by simp only[go_sem,seval,-List.reduceReplicate]) ?_
       rw[qhY,Option.bind_some] at hfs
       simp only at hfs
       cases hne:netB (qce n place) busy 8 0 with
       | none=>
        rw[hne] at hfs
        simp only at hfs
        rw[hfs,qhZ] at hdrop
        rw[hdrop]
        rintro r0 H1 ⟨rfl,rfl⟩
        simp only[go_sem,seval,-List.reduceReplicate,Tryz.results33]
        repeat' first|assumption|(simp (disch:=first|assumption|omega|(simp;done)|(simp;omega)) only[qaa,qac,List.take_of_length_le,qab,qaG,qae,qaf,qag,qah,qao,qaj];try simp only[go_sem,seval,-List.reduceReplicate,Tryz.results33])|(with_reducible refine And.intro ?_ ?_)|(with_reducible intro _)|((try rw[qad]);omega)
        simp only[qfw,Option.map_none,go_sem]
       | some q=>
        obtain⟨t,h⟩:=q
        rw[hne] at hfs
        simp only at hfs
        obtain⟨-,ht8,htr,-⟩:=qhT 8 0 hne
        obtain⟨hT,-,-⟩:=qf2 q5 (by simp[qce]) htr
        have hhl:=qcK hT
        rintro r0 H1 ⟨g,rfl,rfl⟩
        simp only[go_sem,seval,-List.reduceReplicate,Tryz.results33]
        repeat' first|assumption|(simp (disch:=first|assumption|omega|(simp;done)|(simp;omega)) only[qaa,qac,List.take_of_length_le,qab,qaG,qae,qaf,qag,qah,qao,qaj];try simp only[go_sem,seval,-List.reduceReplicate,Tryz.results33])|(with_reducible refine And.intro ?_ ?_)|(with_reducible intro _)|((try rw[qad]);omega)
        refine⟨(k+1,takeB busy t h,out ++ [⟨n.net,(t:Int),h⟩]),⟨by simp only;omega,hfs,qf3 hbo (by omega),by simp;omega,fun x hx=>?_⟩,by simp only;omega,?_⟩
        ·rcases List.mem_append.1 hx with h1|h1
         ·exact hoh x h1
         ·obtain rfl:x=⟨n.net,(t:Int),h⟩:=by simpa using h1
          exact hhl
        ·simp only[go_sem,seval,-List.reduceReplicate]
         simp
      ·obtain rfl:k=N.length:=by omega
       rw[List.take_length] at hfo
       rw[hfo]
       simp only[go_sem,seval,-List.reduceReplicate,Tryz.results33]
       repeat' first|assumption|(simp (disch:=first|assumption|omega|(simp;done)|(simp;omega)) only[qaa,qac,List.take_of_length_le,qab,qaG,qae,qaf,qag,qah,qao,qaj];try simp only[go_sem,seval,-List.reduceReplicate,Tryz.results33])|(with_reducible refine And.intro ?_ ?_)|(with_reducible intro _)|((try rw[qad]);omega)
       simp only[qfw,Option.map_some,go_sem]
  ·have hra:qaw c place list=none:=by
    classical
    rw[qaw,if_neg (fun h=>hd h.2)]
   rw[hra]
   rw[show Tryz.defectsValid list=false from Bool.eq_false_iff.2 (fun h=>hd ((Tryz.def_iff list).1 h))] at hdv
   refine qam (E:=Tryz.env 0) Tryz.tok rfl 1000 Tryz.func33 rfl rfl Tryz.ntmps33 (by simp) fun ok=>?_
   simp only[go_sem,seval,-List.reduceReplicate] at ok
   simp only[go_sem,seval,-List.reduceReplicate,Tryz.results33]
   repeat' first|assumption|(simp (disch:=first|assumption|omega|(simp;done)|(simp;omega)) only[qaa,qac,List.take_of_length_le,qab,qaG,qae,qaf,qag,qah,qao,qaj];try simp only[go_sem,seval,-List.reduceReplicate,Tryz.results33])|(with_reducible refine And.intro ?_ ?_)|(with_reducible intro _)|(refine qai hpv ?_;simp only[go_sem,seval,-List.reduceReplicate,Tryz.results33])|(refine qaR (fun _=>hdv) ?_;simp only[go_sem,seval,-List.reduceReplicate,Tryz.results33])|((try rw[qad]);omega)
   simp only[qfw,go_sem]
 ·have hra:qaw c place list=none:=by
   classical
   rw[qaw,if_neg (fun h=>hv h.1)]
  rw[decide_eq_false hv] at hpv
  rw[hra]
  refine qam (E:=Tryz.env 0) Tryz.tok rfl 1000 Tryz.func33 rfl rfl Tryz.ntmps33 (by simp) fun ok=>?_
  simp only[go_sem,seval,-List.reduceReplicate] at ok
  simp only[go_sem,seval,-List.reduceReplicate,Tryz.results33]
  repeat' first|assumption|(simp (disch:=first|assumption|omega|(simp;done)|(simp;omega)) only[qaa,qac,List.take_of_length_le,qab,qaG,qae,qaf,qag,qah,qao,qaj];try simp only[go_sem,seval,-List.reduceReplicate,Tryz.results33])|(with_reducible refine And.intro ?_ ?_)|(with_reducible intro _)|(refine qai hpv ?_;simp only[go_sem,seval,-List.reduceReplicate,Tryz.results33])|(refine qaR (fun _=>hdv) ?_;simp only[go_sem,seval,-List.reduceReplicate,Tryz.results33])|((try rw[qad]);omega)
  simp only[qfw,go_sem]
theorem Tryz.c_Route (c:Circ) (place:List Int):Pure Tryz.prog 18 [dC c,dIs place] (qfw (qaw c place [])):=by
 have h1:=(Tryz.c_RouteAround c place []).wk (ds':=[dC c,dIs place,.nil]) (by simp only[go_sem];omega)
 cases hra:qaw c place [] with
 | none=>
  rw[hra] at h1
  have h1:Pure Tryz.prog 33 [dC c,dIs place,.nil] (.tup [.nil,dB false]):=h1
  show Pure _ _ _ (.tup [.nil,dB false])
  refine qam (E:=Tryz.env 0) Tryz.tok rfl 1000 Tryz.func18 rfl rfl Tryz.ntmps18 (by simp) fun ok=>?_
  simp only[go_sem,seval,-List.reduceReplicate] at ok
  simp only[go_sem,seval,-List.reduceReplicate,Tryz.results18]
  repeat' first|assumption|(simp (disch:=first|assumption|omega|(simp;done)|(simp;omega)) only[qaa,qac,List.take_of_length_le,qab,qaG,qae,qaf,qag,qah,qao,qaj];try simp only[go_sem,seval,-List.reduceReplicate,Tryz.results18])|(with_reducible refine And.intro ?_ ?_)|(with_reducible intro _)|(refine qa6 h1 ?_;simp only[go_sem,seval,-List.reduceReplicate,Tryz.results18])|((try rw[qad]);omega)
 | some rs=>
  rw[hra] at h1
  have h1:Pure Tryz.prog 33 [dC c,dIs place,.nil] (.tup [dRts rs,dB true]):=h1
  show Pure _ _ _ (.tup [dRts rs,dB true])
  refine qam (E:=Tryz.env 0) Tryz.tok rfl 1000 Tryz.func18 rfl rfl Tryz.ntmps18 (by simp) fun ok=>?_
  simp only[go_sem,seval,-List.reduceReplicate] at ok
  simp only[go_sem,seval,-List.reduceReplicate,Tryz.results18]
  repeat' first|assumption|(simp (disch:=first|assumption|omega|(simp;done)|(simp;omega)) only[qaa,qac,List.take_of_length_le,qab,qaG,qae,qaf,qag,qah,qao,qaj];try simp only[go_sem,seval,-List.reduceReplicate,Tryz.results18])|(with_reducible refine And.intro ?_ ?_)|(with_reducible intro _)|(refine qa6 h1 ?_;simp only[go_sem,seval,-List.reduceReplicate,Tryz.results18])|((try rw[qad]);omega)
end Go.Proofs

set_option maxRecDepth 20000
set_option linter.unusedVariables false
set_option linter.unusedSimpArgs false
namespace Go.Proofs
open Go Go.VL
theorem Tryz.c_sPlacementValid (c:Circ) (place:List Int):Pure Tryz.prog 44 [dC c,dIs place] (.bool (decide (c.Valid∧PlaceOk (qan c).length place))):=by
 have hcv:=Tryz.c_sCircuitValid c
 by_cases hc:c.Valid
 ·have hce:=Tryz.c_l6Cells c hc
  have hcl:=qb4 hc
  rw[decide_eq_true hc] at hcv
  refine qam (E:=Tryz.env 0) Tryz.tok rfl 1000 Tryz.func44 rfl rfl Tryz.ntmps44 (by simp) fun ok=>?_
  simp only[go_sem,seval,-List.reduceReplicate] at ok
  simp only[go_sem,seval,-List.reduceReplicate,Tryz.results44]
  repeat' first|assumption|(simp (disch:=first|assumption|omega|(simp;done)|(simp;omega)) only[qaa,qac,List.take_of_length_le,qab,qae,qaf,qag,qah,qao,qaj];try simp only[go_sem,seval,-List.reduceReplicate,Tryz.results44])|(with_reducible refine And.intro ?_ ?_)|(with_reducible intro _)|(refine qai hcv ?_;simp only[go_sem,seval,-List.reduceReplicate,Tryz.results44])|(refine qaR (fun _=>hce) ?_;simp only[go_sem,seval,-List.reduceReplicate,Tryz.results44])|((with_reducible (show Region.lexB _ _=true));kernel_rfl)|((try rw[qad]);omega)
  ·rename_i h9
   rw[eq_comm,decide_eq_false]
   exact fun h=>h9 h.2.len
  rename_i h9
  refine qaB (E:=Tryz.env 0) Tryz.tok (σ:=Nat) (fun i=>[(1,.d (dIs place)),(5,.d (dI i))]) (fun _=>[.box [.d (dI c.inputs),.d (dIs c.next),.d (dPs c.gates),.d (dIs c.outs)]]) (fun i=>i≤place.length∧(∀ t∈place.take i,0≤t∧t≤24)∧(place.take i).Nodup) (fun i=>place.length-i) [] 1000 1000 ?_ ?_ ?_
  ·simp only[go_sem,seval,-List.reduceReplicate]
  ·simp only[go_sem,seval,-List.reduceReplicate]
   exact⟨0,⟨by simp,by simp,by simp⟩,rfl⟩
  ·rintro i ⟨hi,hr,hn⟩
   by_cases hlt:i<place.length
   ·have hts:place.take (i+1)=place.take i ++ [place.getD i 0]:=by simpa using qaV (f:=fun x:Int=>x) 0 hlt
    have hmem:=qak hlt (z:=(0:Int))
    have hbad:place.getD i 0∈place.take i→¬ PlaceOk (qan c).length place:=fun h1 h2=>by
     have hnd:=h2.nd
     rw[←List.take_append_drop (i+1) place,hts,List.append_assoc,List.nodup_append] at hnd
     exact hnd.2.2 _ h1 _ (by simp) rfl
    have hha:=Tryz.c_l7Has (place.take i) (place.getD i 0)
    have hin:=Tryz.c_l1In (place.getD i 0) 0 24
    generalize hx9:place.getD i 0=x at *
    simp only[go_sem,seval,-List.reduceReplicate,Tryz.results44,hx9]
    repeat' first|assumption|(simp (disch:=first|assumption|omega|(simp;done)|(simp;omega)) only[qaa,qac,List.take_of_length_le,qab,qae,qaf,qag,qah,qao,qaj];try simp only[go_sem,seval,-List.reduceReplicate,Tryz.results44,hx9])|(with_reducible refine And.intro ?_ ?_)|(with_reducible intro _)|(refine qa9 (fun _=>⟨hin,trivial⟩) ?_;simp only[go_sem,seval,-List.reduceReplicate,Tryz.results44,hx9])|(refine qa9 (fun _=>⟨hha,trivial⟩) ?_;simp only[go_sem,seval,-List.reduceReplicate,Tryz.results44,hx9])|((with_reducible (show Region.lexB _ _=true));kernel_rfl)|((try rw[qad]);omega)
    ·rename_i h1
     rw[eq_comm,decide_eq_false]
     rintro⟨-,h3⟩
     have h4:=h3.rng x hmem
     have h5:x∈place.take i→False:=fun h=>hbad h h3
     rcases h1 with h1|h1
     ·omega
     ·exact h5 h1
    ·rename_i h1
     refine⟨i+1,⟨by omega,fun t ht=>?_,?_⟩,by omega,rfl⟩
     ·rw[hts] at ht
      rcases List.mem_append.1 ht with h2|h2
      ·exact hr t h2
      ·obtain rfl:t=x:=by simpa using h2
       exact h1.1
     ·rw[hts,List.nodup_append]
      exact⟨hn,by simp,fun a ha b hb e=>by
       obtain rfl:b=x:=by simpa using hb
       subst e
       exact h1.2 ha⟩
   ·obtain rfl:i=place.length:=by omega
    rw[List.take_length] at hr hn
    simp only[go_sem,seval,-List.reduceReplicate,Tryz.results44]
    repeat' first|assumption|(simp (disch:=first|assumption|omega|(simp;done)|(simp;omega)) only[qaa,qac,List.take_of_length_le,qab,qae,qaf,qag,qah,qao,qaj];try simp only[go_sem,seval,-List.reduceReplicate,Tryz.results44])|(with_reducible refine And.intro ?_ ?_)|(with_reducible intro _)|((with_reducible (show Region.lexB _ _=true));kernel_rfl)|((try rw[qad]);omega)
    rw[eq_comm,decide_eq_true_eq]
    exact⟨hc,by omega,hr,hn⟩
 ·rw[decide_eq_false hc] at hcv
  rw[decide_eq_false (fun h=>hc h.1)]
  refine qam (E:=Tryz.env 0) Tryz.tok rfl 1000 Tryz.func44 rfl rfl Tryz.ntmps44 (by simp) fun ok=>?_
  simp only[go_sem,seval,-List.reduceReplicate] at ok
  simp only[go_sem,seval,-List.reduceReplicate,Tryz.results44]
  repeat' first|assumption|(simp (disch:=first|assumption|omega|(simp;done)|(simp;omega)) only[qaa,qac,List.take_of_length_le,qab,qae,qaf,qag,qah,qao,qaj];try simp only[go_sem,seval,-List.reduceReplicate,Tryz.results44])|(with_reducible refine And.intro ?_ ?_)|(with_reducible intro _)|(refine qai hcv ?_;simp only[go_sem,seval,-List.reduceReplicate,Tryz.results44])|(refine qaR (x:=D.nil) (fun h=>by cases h) ?_;simp only[go_sem,seval,-List.reduceReplicate,Tryz.results44])|((with_reducible (show Region.lexB _ _=true));kernel_rfl)|((try rw[qad]);omega)
theorem Tryz.c_sRoute (c:Circ) (place:List Int):PureF Tryz.prog 17 [dC c,dIs place] (.tup [dRts ((qaw c place []).getD []),dB (qaw c place []).isSome]):=by
 have hpv:=Tryz.c_sPlacementValid c place
 by_cases hv:c.Valid∧PlaceOk (qan c).length place
 ·rw[decide_eq_true hv] at hpv
  have hra:qaw c place []=qcB c (qan c) place qdQ:=by
   classical
   rw[qaw,if_pos ⟨hv,by simp[qky]⟩]
   rfl
  have hce:=Tryz.c_l6Cells c hv.1
  have hcl:=qb4 hv.1
  have hro:=Tryz.c_l8Route c hv.1 (qan c) (by omega) (fun x hx=>(qdi hv.1 x hx).1) place hv.2
  rw[hra]
  refine qbI (E:=Tryz.env 0) Tryz.tok rfl 1000 Tryz.func17 rfl rfl Tryz.ntmps17 (by simp) fun ok=>?_
  simp only[go_sem,seval,-List.reduceReplicate] at ok
  simp only[go_sem,seval,-List.reduceReplicate,Tryz.results17]
  repeat' first|assumption|(simp (disch:=first|assumption|omega|(simp;done)|(simp;omega)) only[qaa,qac,List.take_of_length_le,qab,qae,qaf,qag,qah,qao,qaj];try simp only[go_sem,seval,-List.reduceReplicate,Tryz.results17])|(with_reducible refine And.intro ?_ ?_)|(with_reducible intro _)|(refine qai hpv ?_;simp only[go_sem,seval,-List.reduceReplicate,Tryz.results17])|(refine qai hce ?_;simp only[go_sem,seval,-List.reduceReplicate,Tryz.results17])|(refine qbt hro ?_;simp only[go_sem,seval,-List.reduceReplicate,Tryz.results17])|((with_reducible (show Region.lexB _ _=true));kernel_rfl)|((try rw[qad]);omega)
  refine qaT (E:=Tryz.env 0) Tryz.tok Tryz.follows 1000 1000 [] (.fst 3 (.fst 0 (.fst 1 (.one 2 (.one 4 (.fst 5 (.fst 6 (.fst 7 (.fst 8 (.done)))))))))) (by kernel_rfl) ?_
  simp only[go_sem,seval,-List.reduceReplicate,Tryz.results17]
  repeat' first|assumption|(simp (disch:=first|assumption|omega|(simp;done)|(simp;omega)) only[qaa,qac,List.take_of_length_le,qab,qae,qaf,qag,qah,qao,qaj];try simp only[go_sem,seval,-List.reduceReplicate,Tryz.results17])|(with_reducible refine And.intro ?_ ?_)|(with_reducible intro _)|(refine qai hpv ?_;simp only[go_sem,seval,-List.reduceReplicate,Tryz.results17])|(refine qai hce ?_;simp only[go_sem,seval,-List.reduceReplicate,Tryz.results17])|(refine qbt hro ?_;simp only[go_sem,seval,-List.reduceReplicate,Tryz.results17])|((with_reducible (show Region.lexB _ _=true));kernel_rfl)|((try rw[qad]);omega)
 ·have hra:qaw c place []=none:=by
   classical
   rw[qaw,if_neg (fun h=>hv h.1)]
  rw[decide_eq_false hv] at hpv
  rw[hra]
  refine qbI (E:=Tryz.env 0) Tryz.tok rfl 1000 Tryz.func17 rfl rfl Tryz.ntmps17 (by simp) fun ok=>?_
  simp only[go_sem,seval,-List.reduceReplicate] at ok
  simp only[go_sem,seval,-List.reduceReplicate,Tryz.results17]
  repeat' first|assumption|(simp (disch:=first|assumption|omega|(simp;done)|(simp;omega)) only[qaa,qac,List.take_of_length_le,qab,qae,qaf,qag,qah,qao,qaj];try simp only[go_sem,seval,-List.reduceReplicate,Tryz.results17])|(with_reducible refine And.intro ?_ ?_)|(with_reducible intro _)|(refine qai hpv ?_;simp only[go_sem,seval,-List.reduceReplicate,Tryz.results17])|((with_reducible (show Region.lexB _ _=true));kernel_rfl)|((try rw[qad]);omega)
end Go.Proofs
