/- Contracts, plain definitions and lemmas. Conditions: none; lemmas. -/
import Derived.Test.YtoanmdnkgjdinaaE2
import Derived.Test.YtoanmdnkgjdinaaD8
set_option maxRecDepth 20000
set_option linter.unusedVariables false
set_option linter.unusedSimpArgs false
namespace Go.Proofs
open Go Go.VL
def qmP (list:List (Int×Int)):Prop:=list.length≤12∧∀ d∈list,(0≤d.1∧d.1≤24)∧0≤d.2∧d.2≤7
def qet (list:List (Int×Int)):List (List Bool):=list.foldl (fun b d=>b.set d.2.toNat ((b.getD d.2.toNat []).set d.1.toNat true)) qeo
def qgH (o:Option (List Rt)):D:=match o with
 | none=>.tup [.nil,dB false]
 | some rs=>.tup [dRts rs,dB true]
noncomputable def qaI (c:Circ) (place:List Int) (list:List (Int×Int)):Option (List Rt):=by
 classical exact if(c.Valid∧PlaceOk (qaj c).length place)∧qmP list then qd1 c (qaj c) place (qet list) else none
theorem Try.def_iff (list:List (Int×Int)):Try.defectsValid list=true↔qmP list:=by
 simp only[Try.defectsValid,Try.defectOk,qmP,Bool.and_eq_true,decide_eq_true_eq,List.all_eq_true]
theorem qkS (list:List (Int×Int)):(qet list).length=8:=by
 have key : ∀ (l:List (Int×Int)) (b:List (List Bool)),(l.foldl (fun b d=>b.set d.2.toNat ((b.getD d.2.toNat []).set d.1.toNat true)) b).length=b.length:=by
  intro l
  induction l with
  | nil=>exact fun b=>rfl
  | cons d l ih=>intro b;rw[List.foldl_cons,ih,List.length_set]
 rw[qet,key];rfl
theorem qkT (list:List (Int×Int)) : ∀ u,u<8→((qet list).getD u []).length=25:=by
 have key : ∀ (l:List (Int×Int)) (b:List (List Bool)),b.length=8→(∀ u,u<8→(b.getD u []).length=25)→∀ u,u<8→((l.foldl (fun b d=>b.set d.2.toNat ((b.getD d.2.toNat []).set d.1.toNat true)) b).getD u []).length=25:=by
  intro l
  induction l with
  | nil=>exact fun b _ h=>h
  | cons d l ih=>
   intro b hb h
   refine ih _ (by rw[List.length_set];exact hb) fun u hu=>?_
   by_cases e:d.2.toNat=u
   ·subst e
    have:(b.set d.2.toNat ((b.getD d.2.toNat []).set d.1.toNat true)).getD d.2.toNat []=(b.getD d.2.toNat []).set d.1.toNat true:=by simp[List.getD,show d.2.toNat<b.length by omega]
    rw[this,List.length_set]
    exact h _ hu
   ·have:(b.set d.2.toNat ((b.getD d.2.toNat []).set d.1.toNat true)).getD u []=b.getD u []:=by simp[List.getD,List.getElem?_set,e]
    rw[this]
    exact h u hu
 exact key list qeo rfl free0_ok.row
theorem qjP (list:List (Int×Int)):BusyOk (qet list):=⟨qkS list,qkT list⟩
theorem qmQ {list:List (Int×Int)}{i:Nat}(hi:i<list.length):qet (list.take (i+1))=(qet (list.take i)).set (list.getD i (0,0)).2.toNat (((qet (list.take i)).getD (list.getD i (0,0)).2.toNat []).set (list.getD i (0,0)).1.toNat true):=
 qaC (f:=fun(b:List (List Bool)) (d:Int×Int)=>b.set d.2.toNat ((b.getD d.2.toNat []).set d.1.toNat true)) (b:=qeo) ((0,0):Int×Int) hi
theorem qox:qca qeo=List.replicate 200 false:=by decide +kernel
theorem bx_free:bx (qca qeo)=List.replicate 200 (I.d (.bool false)):=by rw[bx,qox,List.map_replicate]
theorem qoy {c:Circ}{place:List Int} : ∀ k:Nat,(k:Int)<c.vars→∀ n∈qd2 c (qaj c) k,∃ v:Int,1≤v∧v<c.vars∧n=ninC c (qaj c) v∧qaz c (qaj c) place v≠[]
 | 0,_,n,h=>by simp[qd2] at h
 | k+1,hk,n,h=>by
  rw[qd2] at h
  rcases List.mem_append.1 h with h1|h1
  ·exact qoy k (by omega) n h1
  ·split at h1
   ·rename_i h2
    refine⟨(k:Int)+1,by omega,by omega,by simpa using h1,fun h3=>qeq.1 h3 h2⟩
   ·simp at h1
theorem qme {cells:List Cel}{v:Int} : ∀ n:Nat,qcY cells v n<n∧-1≤qcY cells v n
 | 0=>by simp[qcY]
 | n+1=>by
  have:=qme (cells:=cells) (v:=v) n
  rw[qcY]
  split <;> omega
theorem qoz {c:Circ}(hc:c.Valid) {place:List Int}(hp:PlaceOk (qaj c).length place) : ∀ n∈qlv c (qaj c),(∀ i∈n.sinks,0≤i∧i<place.length)∧n.cell<place.length∧n.sinks.length≤400∧n.pads.length≤400∧∀ t∈qcd n place,0≤t∧t≤24:=by
 intro n hn
 have hf:=hc.first_bd
 have hv:=hc.vars_bd
 have hcl:=qbi hc
 have hlo:=hc.lo
 have hpl:=hp.len
 obtain⟨v,h1,h2,rfl,h3⟩:=qoy (place:=place) (c.vars.toNat-1) (by omega) n hn
 refine⟨fun i hi=>?_,?_,?_,?_,qi4 hc hp h1 h2 h3⟩
 ·obtain⟨j,hj,-,rfl⟩:=qdY.1 (show i∈qa5 (qaj c) v (qaj c).length from hi)
  omega
 ·have:=(qme (cells:=qaj c) (v:=v) (qaj c).length).1
  show qcY (qaj c) v (qaj c).length<_
  omega
 ·have:=qdA (fun x hx=>(qcD hc x hx).2.1) v (qaj c).length (Nat.le_refl _)
  show(qa5 (qaj c) v (qaj c).length).length≤400
  omega
 ·have:=qfb (c:=c) (net:=v) c.outs.length
  show(qaL c v c.outs.length).length≤400
  omega
theorem Try.c_RouteAround (c:Circ) (place:List Int) (list:List (Int×Int)):Pure Try.prog 20 [dC c,dIs place,dPs list] (qgH (qaI c place list)):=by
 have hpv:=Try.c_PlacementValid c place
 have hdv:=Try.c_DefectsValid list
 by_cases hv:c.Valid∧PlaceOk (qaj c).length place
 ·rw[decide_eq_true hv] at hpv
  by_cases hd:qmP list
  ·rw[(Try.def_iff list).2 hd] at hdv
   have hra:qaI c place list=qd1 c (qaj c) place (qet list):=by
    classical
    rw[qaI,if_pos ⟨hv,hd⟩]
   have hnn:=qmL hv.1 hv.2 (qet list)
   rw[hra,hnn]
   have hno:=Try.c_netsOf c hv.1
   refine qan (E:=Try.env 0) Try.tok rfl 1000 Try.func20 rfl rfl Try.ntmps20 (by simp) fun ok=>?_
   simp only[go_sem,seval,-List.reduceReplicate] at ok
   simp only[go_sem,seval,-List.reduceReplicate,Try.results20]
   repeat' first|assumption|(simp (disch:=first|assumption|omega|(simp;done)|(simp;omega)) only[qaa,qac,List.take_of_length_le,qab,qaJ,qae,qaf,qag,qah,qas,qak];try simp only[go_sem,seval,-List.reduceReplicate,Try.results20])|(with_reducible refine And.intro ?_ ?_)|(with_reducible intro _)|(refine qai hpv ?_;simp only[go_sem,seval,-List.reduceReplicate,Try.results20])|(refine qbl (fun _=>hdv) ?_;simp only[go_sem,seval,-List.reduceReplicate,Try.results20])|((try rw[qad]);omega)
   refine qao (E:=Try.env 0) Try.tok (σ:=Nat) (fun i=>[(1,.d (dIs place)),(3,.ptr 0 0),(8,.ptr 1 0),(27,.d (dPs list)),(28,.d (dI list.length)),(29,.d (dI i))])
    (fun i=>[.box [.d (dI c.inputs),.d (dIs c.next),.d (dPs c.gates),.d (dIs c.outs)],.box (bx (qca (qet (list.take i))))]) (fun i=>i≤list.length) (fun i=>list.length-i) [] [] 1000 1000 ?_ ?_
   ·simp only[go_sem,seval,-List.reduceReplicate]
    refine⟨0,by omega,?_⟩
    rw[show qet (list.take 0)=qeo from rfl,bx_free]
    simp only[go_sem,seval]
   ·intro i hi
    have hbl:=qkS (list.take i)
    have hbr:=qkT (list.take i)
    by_cases hit:i<list.length
    ·have hstp:=qmQ hit
     have hr:=hd.2 _ (qal hit:list.getD i (0,0)∈list)
     generalize qet (list.take i)=T at *
     generalize hh9:list.getD i (0,0)=hh at *
     have hbr2:=hbr hh.2.toNat (by omega)
     have hset:=qrJ (l:=qca T) (k:=hh.1.toNat*8+hh.2.toNat) (b:=true)
     rw[qkK (by omega) (by omega) (by omega) (by omega),←hstp] at hset
     simp only[go_sem,seval,-List.reduceReplicate,Try.results20,hh9,Nat.mul_one,qaY,hset]
     repeat' first|assumption|(simp (disch:=first|assumption|omega|(simp;done)|(simp;omega)) only[qaa,qac,List.take_of_length_le,qab,qaJ,qae,qaf,qag,qah,qas,qak];try simp only[go_sem,seval,-List.reduceReplicate,Try.results20,hh9,Nat.mul_one,qaY,hset])|(with_reducible refine And.intro ?_ ?_)|(with_reducible intro _)|((try rw[qad]);omega)
     refine qaQ (E:=Try.env 0) Try.tok Try.follows 1000 1000 [9] (.fst 0 (.fst 1 (.fst 3 (.fst 5 (.fst 6 (.fst 2 (.fst 7 (.fst 4 (.fst 8 (.one 9 (.done))))))))))) (by kernel_rfl) ?_
     simp only[go_sem,seval,-List.reduceReplicate,Try.results20,hh9,Nat.mul_one,qaY,hset]
     repeat' first|assumption|(simp (disch:=first|assumption|omega|(simp;done)|(simp;omega)) only[qaa,qac,List.take_of_length_le,qab,qaJ,qae,qaf,qag,qah,qas,qak];try simp only[go_sem,seval,-List.reduceReplicate,Try.results20,hh9,Nat.mul_one,qaY,hset])|(with_reducible refine And.intro ?_ ?_)|(with_reducible intro _)|((try rw[qad]);omega)
     refine⟨i+1,by omega,by omega,rfl,?_⟩
     simp only[go_sem,seval,-List.reduceReplicate]
    ·rw[show list.take i=list from List.take_of_length_le (by omega)]
     simp only[go_sem,seval,-List.reduceReplicate,Try.results20]
     repeat' first|assumption|(simp (disch:=first|assumption|omega|(simp;done)|(simp;omega)) only[qaa,qac,List.take_of_length_le,qab,qaJ,qae,qaf,qag,qah,qas,qak];try simp only[go_sem,seval,-List.reduceReplicate,Try.results20])|(with_reducible refine And.intro ?_ ?_)|(with_reducible intro _)|((try rw[qad]);omega)
     refine qar hno [0] (by simp only[go_sem,seval,-List.reduceReplicate]) ?_
     rintro r0 H1 ⟨rfl,rfl⟩
     simp only[go_sem,seval,-List.reduceReplicate,Try.results20]
     repeat' first|assumption|(simp (disch:=first|assumption|omega|(simp;done)|(simp;omega)) only[qaa,qac,List.take_of_length_le,qab,qaJ,qae,qaf,qag,qah,qas,qak];try simp only[go_sem,seval,-List.reduceReplicate,Try.results20])|(with_reducible refine And.intro ?_ ?_)|(with_reducible intro _)|((try rw[qad]);omega)
     have hnf:=qoz hv.1 hv.2
     have hNl:(qlv c (qaj c)).length≤1000:=by
      have:=qim c (qaj c) (c.vars.toNat-1)
      have:=hv.1.vars_bd
      show(qd2 c (qaj c) (c.vars.toNat-1)).length≤1000
      omega
     have hpl:place.length≤1000:=by rw[hv.2.len];have:=qbi hv.1;omega
     clear hno hnn hra
     generalize qlv c (qaj c)=N at *
     refine qao (E:=Try.env 0) Try.tok (σ:=Nat×List (List Bool)×List Rt) (fun s=>[(1,.d (dIs place)),(8,.ptr 1 0),(11,.sl 2 s.2.2.length 3 0 s.2.2.length),(43,.d (dNis N)),(44,.d (dI N.length)),(45,.d (dI s.1))])
      (fun s=>[.dead 0,.box (bx (qca s.2.1)),.row s.2.2.length 3 true (s.2.2.map fun x=>dRt x)]) (fun s=>s.1≤N.length∧(N.take s.1).foldl (qid place) (some (qet list,[]))=some (s.2.1,s.2.2)∧BusyOk s.2.1∧s.2.2.length≤s.1∧∀ x∈s.2.2,x.hops.length≤25) (fun s=>N.length-s.1) [] [(11,3,true)] 1000 1000 ?_ ?_
     ·simp only[go_sem,seval,-List.reduceReplicate]
      refine⟨(0,qet list,[]),⟨by simp,by simp,qjP list,by simp,by simp⟩,?_⟩
      simp only[go_sem,seval,-List.reduceReplicate]
     ·rintro⟨k,busy,out⟩ ⟨hk,hfo,hbo,hol,hoh⟩
      simp only at hk hfo hbo hol hoh
      by_cases hlt:k<N.length
      ·have hfs:=qaC (f:=qid place) (b:=some (qet list,[])) nin0 hlt
       obtain⟨q1,q2,q3,q4,q5⟩:=hnf _ (qal hlt:N.getD k nin0∈N)
       have hdrop:N.foldl (qid place) (some (qet list,[]))=(N.drop (k+1)).foldl (qid place) ((N.take (k+1)).foldl (qid place) (some (qet list,[]))):=by
        conv=>lhs;rw[←List.take_append_drop (k+1) N]
        rw[List.foldl_append]
       rw[hfo] at hfs
       generalize hx9:N.getD k nin0=n at *
       have hrt:=Try.c_route busy hbo n place q1 q2 q3 q4 hpl q5
       simp only[go_sem,seval,-List.reduceReplicate,Try.results20,hx9]
       repeat' first|assumption|(simp (disch:=first|assumption|omega|(simp;done)|(simp;omega)) only[qaa,qac,List.take_of_length_le,qab,qaJ,qae,qaf,qag,qah,qas,qak];try simp only[go_sem,seval,-List.reduceReplicate,Try.results20,hx9])|(with_reducible refine And.intro ?_ ?_)|(with_reducible intro _)|((try rw[qad]);omega)
       refine qar hrt [1] (by simp only[go_sem,seval,-List.reduceReplicate]) ?_
       rw[qid,Option.bind_some] at hfs
       simp only at hfs
       cases hne:netB (qcd n place) busy 8 0 with
       | none=>
        rw[hne] at hfs
        simp only at hfs
        rw[hfs,qie] at hdrop
        rw[hdrop]
        rintro r0 H1 ⟨rfl,rfl⟩
        simp only[go_sem,seval,-List.reduceReplicate,Try.results20]
        repeat' first|assumption|(simp (disch:=first|assumption|omega|(simp;done)|(simp;omega)) only[qaa,qac,List.take_of_length_le,qab,qaJ,qae,qaf,qag,qah,qas,qak];try simp only[go_sem,seval,-List.reduceReplicate,Try.results20])|(with_reducible refine And.intro ?_ ?_)|(with_reducible intro _)|((try rw[qad]);omega)
        simp only[qgH,Option.map_none,go_sem]
       | some q=>
        obtain⟨t,h⟩:=q
        rw[hne] at hfs
        simp only at hfs
        obtain⟨-,ht8,htr,-⟩:=qjN 8 0 hne
        obtain⟨hT,-,-⟩:=qhb q5 (by simp[qcd]) htr
        have hhl:=qdf hT
        rintro r0 H1 ⟨g,rfl,rfl⟩
        simp only[go_sem,seval,-List.reduceReplicate,Try.results20]
        repeat' first|assumption|(simp (disch:=first|assumption|omega|(simp;done)|(simp;omega)) only[qaa,qac,List.take_of_length_le,qab,qaJ,qae,qaf,qag,qah,qas,qak];try simp only[go_sem,seval,-List.reduceReplicate,Try.results20])|(with_reducible refine And.intro ?_ ?_)|(with_reducible intro _)|((try rw[qad]);omega)
        refine⟨(k+1,takeB busy t h,out ++ [⟨n.net,(t:Int),h⟩]),⟨by simp only;omega,hfs,qhc hbo (by omega),by simp;omega,fun x hx=>?_⟩,by simp only;omega,?_⟩
        ·rcases List.mem_append.1 hx with h1|h1
         ·exact hoh x h1
         ·obtain rfl:x=⟨n.net,(t:Int),h⟩:=by simpa using h1
          exact hhl
        ·simp only[go_sem,seval,-List.reduceReplicate]
         simp
      ·obtain rfl:k=N.length:=by omega
       rw[List.take_length] at hfo
       rw[hfo]
       simp only[go_sem,seval,-List.reduceReplicate,Try.results20]
       repeat' first|assumption|(simp (disch:=first|assumption|omega|(simp;done)|(simp;omega)) only[qaa,qac,List.take_of_length_le,qab,qaJ,qae,qaf,qag,qah,qas,qak];try simp only[go_sem,seval,-List.reduceReplicate,Try.results20])|(with_reducible refine And.intro ?_ ?_)|(with_reducible intro _)|((try rw[qad]);omega)
       simp only[qgH,Option.map_some,go_sem]
  ·have hra:qaI c place list=none:=by
    classical
    rw[qaI,if_neg (fun h=>hd h.2)]
   rw[hra]
   rw[show Try.defectsValid list=false from Bool.eq_false_iff.2 (fun h=>hd ((Try.def_iff list).1 h))] at hdv
   refine qan (E:=Try.env 0) Try.tok rfl 1000 Try.func20 rfl rfl Try.ntmps20 (by simp) fun ok=>?_
   simp only[go_sem,seval,-List.reduceReplicate] at ok
   simp only[go_sem,seval,-List.reduceReplicate,Try.results20]
   repeat' first|assumption|(simp (disch:=first|assumption|omega|(simp;done)|(simp;omega)) only[qaa,qac,List.take_of_length_le,qab,qaJ,qae,qaf,qag,qah,qas,qak];try simp only[go_sem,seval,-List.reduceReplicate,Try.results20])|(with_reducible refine And.intro ?_ ?_)|(with_reducible intro _)|(refine qai hpv ?_;simp only[go_sem,seval,-List.reduceReplicate,Try.results20])|(refine qbl (fun _=>hdv) ?_;simp only[go_sem,seval,-List.reduceReplicate,Try.results20])|((try rw[qad]);omega)
   simp only[qgH,go_sem]
 ·have hra:qaI c place list=none:=by
   classical
   rw[qaI,if_neg (fun h=>hv h.1)]
  rw[decide_eq_false hv] at hpv
  rw[hra]
  refine qan (E:=Try.env 0) Try.tok rfl 1000 Try.func20 rfl rfl Try.ntmps20 (by simp) fun ok=>?_
  simp only[go_sem,seval,-List.reduceReplicate] at ok
  simp only[go_sem,seval,-List.reduceReplicate,Try.results20]
  repeat' first|assumption|(simp (disch:=first|assumption|omega|(simp;done)|(simp;omega)) only[qaa,qac,List.take_of_length_le,qab,qaJ,qae,qaf,qag,qah,qas,qak];try simp only[go_sem,seval,-List.reduceReplicate,Try.results20])|(with_reducible refine And.intro ?_ ?_)|(with_reducible intro _)|(refine qai hpv ?_;simp only[go_sem,seval,-List.reduceReplicate,Try.results20])|(refine qbl (fun _=>hdv) ?_;simp only[go_sem,seval,-List.reduceReplicate,Try.results20])|((try rw[qad]);omega)
  simp only[qgH,go_sem]
theorem Try.c_Route (c:Circ) (place:List Int):Pure Try.prog 12 [dC c,dIs place] (qgH (qaI c place [])):=by
 have h1:=(Try.c_RouteAround c place []).wk (ds':=[dC c,dIs place,.nil]) (by simp only[go_sem];omega)
 cases hra:qaI c place [] with
 | none=>
  rw[hra] at h1
  have h1:Pure Try.prog 20 [dC c,dIs place,.nil] (.tup [.nil,dB false]):=h1
  show Pure _ _ _ (.tup [.nil,dB false])
  refine qan (E:=Try.env 0) Try.tok rfl 1000 Try.func12 rfl rfl Try.ntmps12 (by simp) fun ok=>?_
  simp only[go_sem,seval,-List.reduceReplicate] at ok
  simp only[go_sem,seval,-List.reduceReplicate,Try.results12]
  repeat' first|assumption|(simp (disch:=first|assumption|omega|(simp;done)|(simp;omega)) only[qaa,qac,List.take_of_length_le,qab,qaJ,qae,qaf,qag,qah,qas,qak];try simp only[go_sem,seval,-List.reduceReplicate,Try.results12])|(with_reducible refine And.intro ?_ ?_)|(with_reducible intro _)|(refine qdo h1 ?_;simp only[go_sem,seval,-List.reduceReplicate,Try.results12])|((try rw[qad]);omega)
 | some rs=>
  rw[hra] at h1
  have h1:Pure Try.prog 20 [dC c,dIs place,.nil] (.tup [dRts rs,dB true]):=h1
  show Pure _ _ _ (.tup [dRts rs,dB true])
  refine qan (E:=Try.env 0) Try.tok rfl 1000 Try.func12 rfl rfl Try.ntmps12 (by simp) fun ok=>?_
  simp only[go_sem,seval,-List.reduceReplicate] at ok
  simp only[go_sem,seval,-List.reduceReplicate,Try.results12]
  repeat' first|assumption|(simp (disch:=first|assumption|omega|(simp;done)|(simp;omega)) only[qaa,qac,List.take_of_length_le,qab,qaJ,qae,qaf,qag,qah,qas,qak];try simp only[go_sem,seval,-List.reduceReplicate,Try.results12])|(with_reducible refine And.intro ?_ ?_)|(with_reducible intro _)|(refine qdo h1 ?_;simp only[go_sem,seval,-List.reduceReplicate,Try.results12])|((try rw[qad]);omega)
end Go.Proofs

set_option maxRecDepth 20000
set_option linter.unusedVariables false
set_option linter.unusedSimpArgs false
namespace Go.Proofs
open Go Go.VL
theorem Try.c_sPlacementValid (c:Circ) (place:List Int):Pure Try.prog 36 [dC c,dIs place] (.bool (decide (c.Valid∧PlaceOk (qaj c).length place))):=by
 have hcv:=Try.c_sCircuitValid c
 by_cases hc:c.Valid
 ·have hce:=Try.c_l6Cells c hc
  have hcl:=qbi hc
  rw[decide_eq_true hc] at hcv
  refine qan (E:=Try.env 0) Try.tok rfl 1000 Try.func36 rfl rfl Try.ntmps36 (by simp) fun ok=>?_
  simp only[go_sem,seval,-List.reduceReplicate] at ok
  simp only[go_sem,seval,-List.reduceReplicate,Try.results36]
  repeat' first|assumption|(simp (disch:=first|assumption|omega|(simp;done)|(simp;omega)) only[qaa,qac,List.take_of_length_le,qab,qae,qaf,qag,qah,qas,qak];try simp only[go_sem,seval,-List.reduceReplicate,Try.results36])|(with_reducible refine And.intro ?_ ?_)|(with_reducible intro _)|(refine qai hcv ?_;simp only[go_sem,seval,-List.reduceReplicate,Try.results36])|(refine qbl (fun _=>hce) ?_;simp only[go_sem,seval,-List.reduceReplicate,Try.results36])|((with_reducible (show Region.lexB _ _=true));kernel_rfl)|((try rw[qad]);omega)
  ·rename_i h9
   rw[eq_comm,decide_eq_false]
   exact fun h=>h9 h.2.len
  rename_i h9
  refine qaH (E:=Try.env 0) Try.tok (σ:=Nat) (fun i=>[(1,.d (dIs place)),(5,.d (dI i))]) (fun _=>[.box [.d (dI c.inputs),.d (dIs c.next),.d (dPs c.gates),.d (dIs c.outs)]]) (fun i=>i≤place.length∧(∀ t∈place.take i,0≤t∧t≤24)∧(place.take i).Nodup) (fun i=>place.length-i) [] 1000 1000 ?_ ?_ ?_
  ·simp only[go_sem,seval,-List.reduceReplicate]
  ·simp only[go_sem,seval,-List.reduceReplicate]
   exact⟨0,⟨by simp,by simp,by simp⟩,rfl⟩
  ·rintro i ⟨hi,hr,hn⟩
   by_cases hlt:i<place.length
   ·have hts:place.take (i+1)=place.take i ++ [place.getD i 0]:=by simpa using qaX (f:=fun x:Int=>x) 0 hlt
    have hmem:=qal hlt (z:=(0:Int))
    have hbad:place.getD i 0∈place.take i→¬ PlaceOk (qaj c).length place:=fun h1 h2=>by
     have hnd:=h2.nd
     rw[←List.take_append_drop (i+1) place,hts,List.append_assoc,List.nodup_append] at hnd
     exact hnd.2.2 _ h1 _ (by simp) rfl
    have hha:=Try.c_l7Has (place.take i) (place.getD i 0)
    have hin:=Try.c_l1In (place.getD i 0) 0 24
    generalize hx9:place.getD i 0=x at *
    simp only[go_sem,seval,-List.reduceReplicate,Try.results36,hx9]
    repeat' first|assumption|(simp (disch:=first|assumption|omega|(simp;done)|(simp;omega)) only[qaa,qac,List.take_of_length_le,qab,qae,qaf,qag,qah,qas,qak];try simp only[go_sem,seval,-List.reduceReplicate,Try.results36,hx9])|(with_reducible refine And.intro ?_ ?_)|(with_reducible intro _)|(refine qa1 (fun _=>⟨hin,trivial⟩) ?_;simp only[go_sem,seval,-List.reduceReplicate,Try.results36,hx9])|(refine qa1 (fun _=>⟨hha,trivial⟩) ?_;simp only[go_sem,seval,-List.reduceReplicate,Try.results36,hx9])|((with_reducible (show Region.lexB _ _=true));kernel_rfl)|((try rw[qad]);omega)
    ·rename_i h1
     rw[eq_comm,decide_eq_false]
     rintro⟨-,h3⟩
     have h4:=h3.rng x hmem
     have h5:x∈place.take i→False:=fun h=>hbad h h3
     rcases h1 with h1|h1
     ·omega
     ·exact h5 h1
    ·rename_i h1
     refine⟨i+1,⟨by omega,fun t ht=>?_,?_⟩,by omega,rfl⟩
     ·rw[hts] at ht
      rcases List.mem_append.1 ht with h2|h2
      ·exact hr t h2
      ·obtain rfl:t=x:=by simpa using h2
       exact h1.1
     ·rw[hts,List.nodup_append]
      exact⟨hn,by simp,fun a ha b hb e=>by
       obtain rfl:b=x:=by simpa using hb
       subst e
       exact h1.2 ha⟩
   ·obtain rfl:i=place.length:=by omega
    rw[List.take_length] at hr hn
    simp only[go_sem,seval,-List.reduceReplicate,Try.results36]
    repeat' first|assumption|(simp (disch:=first|assumption|omega|(simp;done)|(simp;omega)) only[qaa,qac,List.take_of_length_le,qab,qae,qaf,qag,qah,qas,qak];try simp only[go_sem,seval,-List.reduceReplicate,Try.results36])|(with_reducible refine And.intro ?_ ?_)|(with_reducible intro _)|((with_reducible (show Region.lexB _ _=true));kernel_rfl)|((try rw[qad]);omega)
    rw[eq_comm,decide_eq_true_eq]
    exact⟨hc,by omega,hr,hn⟩
 ·rw[decide_eq_false hc] at hcv
  rw[decide_eq_false (fun h=>hc h.1)]
  refine qan (E:=Try.env 0) Try.tok rfl 1000 Try.func36 rfl rfl Try.ntmps36 (by simp) fun ok=>?_
  simp only[go_sem,seval,-List.reduceReplicate] at ok
  simp only[go_sem,seval,-List.reduceReplicate,Try.results36]
  repeat' first|assumption|(simp (disch:=first|assumption|omega|(simp;done)|(simp;omega)) only[qaa,qac,List.take_of_length_le,qab,qae,qaf,qag,qah,qas,qak];try simp only[go_sem,seval,-List.reduceReplicate,Try.results36])|(with_reducible refine And.intro ?_ ?_)|(with_reducible intro _)|(refine qai hcv ?_;simp only[go_sem,seval,-List.reduceReplicate,Try.results36])|(refine qbl (x:=D.nil) (fun h=>by cases h) ?_;simp only[go_sem,seval,-List.reduceReplicate,Try.results36])|((with_reducible (show Region.lexB _ _=true));kernel_rfl)|((try rw[qad]);omega)
theorem Try.c_sRoute (c:Circ) (place:List Int):PureF Try.prog 13 [dC c,dIs place] (.tup [dRts ((qaI c place []).getD []),dB (qaI c place []).isSome]):=by
 have hpv:=Try.c_sPlacementValid c place
 by_cases hv:c.Valid∧PlaceOk (qaj c).length place
 ·rw[decide_eq_true hv] at hpv
  have hra:qaI c place []=qd1 c (qaj c) place qeo:=by
   classical
   rw[qaI,if_pos ⟨hv,by simp[qmP]⟩]
   rfl
  have hce:=Try.c_l6Cells c hv.1
  have hcl:=qbi hv.1
  have hro:=Try.c_l8Route c hv.1 (qaj c) (by omega) (fun x hx=>(qcD hv.1 x hx).1) place hv.2
  rw[hra]
  refine qcz (E:=Try.env 0) Try.tok rfl 1000 Try.func13 rfl rfl Try.ntmps13 (by simp) fun ok=>?_
  simp only[go_sem,seval,-List.reduceReplicate] at ok
  simp only[go_sem,seval,-List.reduceReplicate,Try.results13]
  repeat' first|assumption|(simp (disch:=first|assumption|omega|(simp;done)|(simp;omega)) only[qaa,qac,List.take_of_length_le,qab,qae,qaf,qag,qah,qas,qak];try simp only[go_sem,seval,-List.reduceReplicate,Try.results13])|(with_reducible refine And.intro ?_ ?_)|(with_reducible intro _)|(refine qai hpv ?_;simp only[go_sem,seval,-List.reduceReplicate,Try.results13])|(refine qai hce ?_;simp only[go_sem,seval,-List.reduceReplicate,Try.results13])|(refine qbk hro ?_;simp only[go_sem,seval,-List.reduceReplicate,Try.results13])|((with_reducible (show Region.lexB _ _=true));kernel_rfl)|((try rw[qad]);omega)
  refine qaQ (E:=Try.env 0) Try.tok Try.follows 1000 1000 [] (.fst 3 (.fst 0 (.fst 1 (.one 2 (.one 4 (.fst 5 (.fst 6 (.fst 7 (.fst 8 (.done)))))))))) (by kernel_rfl) ?_
  simp only[go_sem,seval,-List.reduceReplicate,Try.results13]
  repeat' first|assumption|(simp (disch:=first|assumption|omega|(simp;done)|(simp;omega)) only[qaa,qac,List.take_of_length_le,qab,qae,qaf,qag,qah,qas,qak];try simp only[go_sem,seval,-List.reduceReplicate,Try.results13])|(with_reducible refine And.intro ?_ ?_)|(with_reducible intro _)|(refine qai hpv ?_;simp only[go_sem,seval,-List.reduceReplicate,Try.results13])|(refine qai hce ?_;simp only[go_sem,seval,-List.reduceReplicate,Try.results13])|(refine qbk hro ?_;simp only[go_sem,seval,-List.reduceReplicate,Try.results13])|((with_reducible (show Region.lexB _ _=true));kernel_rfl)|((try rw[qad]);omega)
 ·have hra:qaI c place []=none:=by
   classical
   rw[qaI,if_neg (fun h=>hv h.1)]
  rw[decide_eq_false hv] at hpv
  rw[hra]
  refine qcz (E:=Try.env 0) Try.tok rfl 1000 Try.func13 rfl rfl Try.ntmps13 (by simp) fun ok=>?_
  simp only[go_sem,seval,-List.reduceReplicate] at ok
  simp only[go_sem,seval,-List.reduceReplicate,Try.results13]
  repeat' first|assumption|(simp (disch:=first|assumption|omega|(simp;done)|(simp;omega)) only[qaa,qac,List.take_of_length_le,qab,qae,qaf,qag,qah,qas,qak];try simp only[go_sem,seval,-List.reduceReplicate,Try.results13])|(with_reducible refine And.intro ?_ ?_)|(with_reducible intro _)|(refine qai hpv ?_;simp only[go_sem,seval,-List.reduceReplicate,Try.results13])|((with_reducible (show Region.lexB _ _=true));kernel_rfl)|((try rw[qad]);omega)
end Go.Proofs
