/- Contracts: all nets are routed. Conditions: none; lemmas. -/
import Derived.Test.YtoanmdnkgjdinaaE2
import Derived.Test.YtoanmdnkgjdinaaD8
set_option maxRecDepth 20000
set_option linter.unusedVariables false
set_option linter.unusedSimpArgs false
namespace Go.Proofs
open Go Go.VL
def qjh (list:List (Int×Int)):Prop:=list.length≤12∧∀ d∈list,(0≤d.1∧d.1≤24)∧0≤d.2∧d.2≤7
def qcF (list:List (Int×Int)):List (List Bool):=list.foldl (fun b d=>b.set d.2.toNat ((b.getD d.2.toNat []).set d.1.toNat true)) qdp
def qfk (o:Option (List Rt)):D:=match o with
 | none=>.tup [.nil,dB false]
 | some rs=>.tup [dRts rs,dB true]
noncomputable def qaH (c:Circ) (place:List Int) (list:List (Int×Int)):Option (List Rt):=by
 classical exact if(c.Valid∧PlaceOk (qaq c).length place)∧qjh list then qcw c (qaq c) place (qcF list) else none
theorem Try.def_iff (list:List (Int×Int)):Try.defectsValid list=true↔qjh list:=by
 simp only[Try.defectsValid,Try.defectOk,qjh,Bool.and_eq_true,decide_eq_true_eq,List.all_eq_true]
theorem qhW (list:List (Int×Int)):(qcF list).length=8:=by
 have key : ∀ (l:List (Int×Int)) (b:List (List Bool)),(l.foldl (fun b d=>b.set d.2.toNat ((b.getD d.2.toNat []).set d.1.toNat true)) b).length=b.length:=by
  intro l
  induction l with
  | nil=>exact fun b=>rfl
  | cons d l ih=>intro b;rw[List.foldl_cons,ih,List.length_set]
 rw[qcF,key];rfl
theorem qhX (list:List (Int×Int)) : ∀ u,u<8→((qcF list).getD u []).length=25:=by
 have key : ∀ (l:List (Int×Int)) (b:List (List Bool)),b.length=8→(∀ u,u<8→(b.getD u []).length=25)→∀ u,u<8→((l.foldl (fun b d=>b.set d.2.toNat ((b.getD d.2.toNat []).set d.1.toNat true)) b).getD u []).length=25:=by
  intro l
  induction l with
  | nil=>exact fun b _ h=>h
  | cons d l ih=>
   intro b hb h
   refine ih _ (by rw[List.length_set];exact hb) fun u hu=>?_
   by_cases e:d.2.toNat=u
   ·subst e
    have:(b.set d.2.toNat ((b.getD d.2.toNat []).set d.1.toNat true)).getD d.2.toNat []=(b.getD d.2.toNat []).set d.1.toNat true:=by simp[List.getD,show d.2.toNat<b.length by omega]
    rw[this,List.length_set]
    exact h _ hu
   ·have:(b.set d.2.toNat ((b.getD d.2.toNat []).set d.1.toNat true)).getD u []=b.getD u []:=by simp[List.getD,List.getElem?_set,e]
    rw[this]
    exact h u hu
 exact key list qdp rfl free0_ok.row
theorem qgR (list:List (Int×Int)):BusyOk (qcF list):=⟨qhW list,qhX list⟩
theorem qiF {list:List (Int×Int)}{i:Nat}(hi:i<list.length):qcF (list.take (i+1))=(qcF (list.take i)).set (list.getD i (0,0)).2.toNat (((qcF (list.take i)).getD (list.getD i (0,0)).2.toNat []).set (list.getD i (0,0)).1.toNat true):=
 qaN (f:=fun(b:List (List Bool)) (d:Int×Int)=>b.set d.2.toNat ((b.getD d.2.toNat []).set d.1.toNat true)) (b:=qdp) ((0,0):Int×Int) hi
theorem qnK:qb5 qdp=List.replicate 200 false:=by decide +kernel
theorem bx_free:bx (qb5 qdp)=List.replicate 200 (I.d (.bool false)):=by rw[bx,qnK,List.map_replicate]
theorem qnL {c:Circ}{place:List Int} : ∀ k:Nat,(k:Int)<c.vars→∀ n∈qdN c (qaq c) k,∃ v:Int,1≤v∧v<c.vars∧n=ninC c (qaq c) v∧qaL c (qaq c) place v≠[]
 | 0,_,n,h=>by simp[qdN] at h
 | k+1,hk,n,h=>by
  rw[qdN] at h
  rcases List.mem_append.1 h with h1|h1
  ·exact qnL k (by omega) n h1
  ·split at h1
   ·rename_i h2
    refine⟨(k:Int)+1,by omega,by omega,by simpa using h1,fun h3=>qd5.1 h3 h2⟩
   ·simp at h1
theorem qlu {cells:List Cel}{v:Int} : ∀ n:Nat,qdq cells v n<n∧-1≤qdq cells v n
 | 0=>by simp[qdq]
 | n+1=>by
  have:=qlu (cells:=cells) (v:=v) n
  rw[qdq]
  split <;> omega
theorem qnM {c:Circ}(hc:c.Valid) {place:List Int}(hp:PlaceOk (qaq c).length place) : ∀ n∈qkQ c (qaq c),(∀ i∈n.sinks,0≤i∧i<place.length)∧n.cell<place.length∧n.sinks.length≤400∧n.pads.length≤400∧∀ t∈qb8 n place,0≤t∧t≤24:=by
 intro n hn
 have hf:=hc.first_bd
 have hv:=hc.vars_bd
 have hcl:=qce hc
 have hlo:=hc.lo
 have hpl:=hp.len
 obtain⟨v,h1,h2,rfl,h3⟩:=qnL (place:=place) (c.vars.toNat-1) (by omega) n hn
 refine⟨fun i hi=>?_,?_,?_,?_,qiD hc hp h1 h2 h3⟩
 ·obtain⟨j,hj,-,rfl⟩:=qdL.1 (show i∈qaY (qaq c) v (qaq c).length from hi)
  omega
 ·have:=(qlu (cells:=qaq c) (v:=v) (qaq c).length).1
  show qdq (qaq c) v (qaq c).length<_
  omega
 ·have:=qdj (fun x hx=>(qeB hc x hx).2.1) v (qaq c).length (Nat.le_refl _)
  show(qaY (qaq c) v (qaq c).length).length≤400
  omega
 ·have:=qgk (c:=c) (net:=v) c.outs.length
  show(qaV c v c.outs.length).length≤400
  omega
theorem Try.c_RouteAround (c:Circ) (place:List Int) (list:List (Int×Int)):Pure Try.prog 20 [dC c,dIs place,dPs list] (qfk (qaH c place list)):=by
 have hpv:=Try.c_PlacementValid c place
 have hdv:=Try.c_DefectsValid list
 by_cases hv:c.Valid∧PlaceOk (qaq c).length place
 ·rw[decide_eq_true hv] at hpv
  by_cases hd:qjh list
  ·rw[(Try.def_iff list).2 hd] at hdv
   have hra:qaH c place list=qcw c (qaq c) place (qcF list):=by
    classical
    rw[qaH,if_pos ⟨hv,hd⟩]
   have hnn:=ql6 hv.1 hv.2 (qcF list)
   rw[hra,hnn]
   have hno:=Try.c_netsOf c hv.1
   refine qau (E:=Try.env 0) Try.tok rfl 1000 Try.func20 rfl rfl Try.ntmps20 (by simp) fun ok=>?_
   simp only[go_sem,seval,-List.reduceReplicate] at ok
   simp only[go_sem,seval,-List.reduceReplicate,Try.results20]
   repeat' first|assumption|(simp (disch:=first|assumption|omega|(simp;done)|(simp;omega)) only[qaa,qac,List.take_of_length_le,qab,qaF,qae,qaf,qag,qah,qam,qal];try simp only[go_sem,seval,-List.reduceReplicate,Try.results20])|(with_reducible refine And.intro ?_ ?_)|(with_reducible intro _)|(refine qai hpv ?_;simp only[go_sem,seval,-List.reduceReplicate,Try.results20])|(refine qa7 (fun _=>hdv) ?_;simp only[go_sem,seval,-List.reduceReplicate,Try.results20])|(refine @Exists.intro I _ (I.d D.nil) ?_;simp only[go_sem,seval,-List.reduceReplicate,Try.results20])|((with_reducible (show Region.lexB _ _=true));kernel_rfl)|((try rw[qad]);omega)
   refine qao (E:=Try.env 0) Try.tok (σ:=Nat) (fun i=>[(1,.d (dIs place)),(3,.ptr 0 0),(8,.ptr 1 0),(27,.d (dPs list)),(28,.d (dI list.length)),(29,.d (dI i))])
    (fun i=>[.box [.d (dI c.inputs),.d (dIs c.next),.d (dPs c.gates),.d (dIs c.outs)],.box (bx (qb5 (qcF (list.take i))))]) (fun i=>i≤list.length) (fun i=>list.length-i) [] [] 1000 1000 ?_ ?_
   ·simp only[go_sem,seval,-List.reduceReplicate]
    refine⟨0,by omega,?_⟩
    rw[show qcF (list.take 0)=qdp from rfl,bx_free]
    simp only[go_sem,seval]
   ·intro i hi
    have hbl:=qhW (list.take i)
    have hbr:=qhX (list.take i)
    by_cases hit:i<list.length
    ·have hstp:=qiF hit
     have hr:=hd.2 _ (qaj hit:list.getD i (0,0)∈list)
     generalize qcF (list.take i)=T at *
     generalize hh9:list.getD i (0,0)=hh at *
     have hbr2:=hbr hh.2.toNat (by omega)
     have hset:=qqH (l:=qb5 T) (k:=hh.1.toNat*8+hh.2.toNat) (b:=true)
     rw[qj9 (by omega) (by omega) (by omega) (by omega),←hstp] at hset
     simp only[go_sem,seval,-List.reduceReplicate,Try.results20,hh9,Nat.mul_one,qaE,hset]
     repeat' first|assumption|(simp (disch:=first|assumption|omega|(simp;done)|(simp;omega)) only[qaa,qac,List.take_of_length_le,qab,qaF,qae,qaf,qag,qah,qam,qal];try simp only[go_sem,seval,-List.reduceReplicate,Try.results20,hh9,Nat.mul_one,qaE,hset])|(with_reducible refine And.intro ?_ ?_)|(with_reducible intro _)|(refine @Exists.intro I _ (I.d D.nil) ?_;simp only[go_sem,seval,-List.reduceReplicate,Try.results20,hh9,Nat.mul_one,qaE,hset])|((with_reducible (show Region.lexB _ _=true));kernel_rfl)|((try rw[qad]);omega)
     refine qaS (E:=Try.env 0) Try.tok Try.follows 1000 1000 [9] (.fst 0 (.fst 1 (.fst 3 (.fst 5 (.fst 6 (.fst 2 (.fst 7 (.fst 4 (.fst 8 (.one 9 (.done))))))))))) (by kernel_rfl) ?_
     simp only[go_sem,seval,-List.reduceReplicate,Try.results20,hh9,Nat.mul_one,qaE,hset]
     repeat' first|assumption|(simp (disch:=first|assumption|omega|(simp;done)|(simp;omega)) only[qaa,qac,List.take_of_length_le,qab,qaF,qae,qaf,qag,qah,qam,qal];try simp only[go_sem,seval,-List.reduceReplicate,Try.results20,hh9,Nat.mul_one,qaE,hset])|(with_reducible refine And.intro ?_ ?_)|(with_reducible intro _)|(refine @Exists.intro I _ (I.d D.nil) ?_;simp only[go_sem,seval,-List.reduceReplicate,Try.results20,hh9,Nat.mul_one,qaE,hset])|((with_reducible (show Region.lexB _ _=true));kernel_rfl)|((try rw[qad]);omega)
     refine⟨i+1,by omega,by omega,rfl,?_⟩
     simp only[go_sem,seval,-List.reduceReplicate]
    ·rw[show list.take i=list from List.take_of_length_le (by omega)]
     simp only[go_sem,seval,-List.reduceReplicate,Try.results20]
     repeat' first|assumption|(simp (disch:=first|assumption|omega|(simp;done)|(simp;omega)) only[qaa,qac,List.take_of_length_le,qab,qaF,qae,qaf,qag,qah,qam,qal];try simp only[go_sem,seval,-List.reduceReplicate,Try.results20])|(with_reducible refine And.intro ?_ ?_)|(with_reducible intro _)|(refine @Exists.intro I _ (I.d D.nil) ?_;simp only[go_sem,seval,-List.reduceReplicate,Try.results20])|((with_reducible (show Region.lexB _ _=true));kernel_rfl)|((try rw[qad]);omega)
     refine qar hno [0] (by simp only[go_sem,seval,-List.reduceReplicate]) ?_
     rintro r0 H1 ⟨rfl,rfl⟩
     simp only[go_sem,seval,-List.reduceReplicate,Try.results20]
     repeat' first|assumption|(simp (disch:=first|assumption|omega|(simp;done)|(simp;omega)) only[qaa,qac,List.take_of_length_le,qab,qaF,qae,qaf,qag,qah,qam,qal];try simp only[go_sem,seval,-List.reduceReplicate,Try.results20])|(with_reducible refine And.intro ?_ ?_)|(with_reducible intro _)|(refine @Exists.intro I _ (I.d D.nil) ?_;simp only[go_sem,seval,-List.reduceReplicate,Try.results20])|((with_reducible (show Region.lexB _ _=true));kernel_rfl)|((try rw[qad]);omega)
     have hnf:=qnM hv.1 hv.2
     have hNl:(qkQ c (qaq c)).length≤1000:=by
      have:=qhV c (qaq c) (c.vars.toNat-1)
      have:=hv.1.vars_bd
      show(qdN c (qaq c) (c.vars.toNat-1)).length≤1000
      omega
     have hpl:place.length≤1000:=by rw[hv.2.len];have:=qce hv.1;omega
     clear hno hnn hra
     generalize qkQ c (qaq c)=N at *
     refine qao (E:=Try.env 0) Try.tok (σ:=Nat×List (List Bool)×List Rt) (fun s=>[(1,.d (dIs place)),(8,.ptr 1 0),(11,.sl 2 s.2.2.length 3 0 s.2.2.length),(43,.d (dNis N)),(44,.d (dI N.length)),(45,.d (dI s.1))])
      (fun s=>[.dead 0,.box (bx (qb5 s.2.1)),.row s.2.2.length 3 true (s.2.2.map fun x=>dRt x)]) (fun s=>s.1≤N.length∧(N.take s.1).foldl (qhN place) (some (qcF list,[]))=some (s.2.1,s.2.2)∧BusyOk s.2.1∧s.2.2.length≤s.1∧∀ x∈s.2.2,x.hops.length≤25) (fun s=>N.length-s.1) [] [(11,3,true)] 1000 1000 ?_ ?_
     ·simp only[go_sem,seval,-List.reduceReplicate]
      refine⟨(0,qcF list,[]),⟨by simp,by simp,qgR list,by simp,by simp⟩,?_⟩
      simp only[go_sem,seval,-List.reduceReplicate]
     ·rintro⟨k,busy,out⟩ ⟨hk,hfo,hbo,hol,hoh⟩
      simp only at hk hfo hbo hol hoh
      by_cases hlt:k<N.length
      ·have hfs:=qaN (f:=qhN place) (b:=some (qcF list,[])) nin0 hlt
       obtain⟨q1,q2,q3,q4,q5⟩:=hnf _ (qaj hlt:N.getD k nin0∈N)
       have hdrop:N.foldl (qhN place) (some (qcF list,[]))=(N.drop (k+1)).foldl (qhN place) ((N.take (k+1)).foldl (qhN place) (some (qcF list,[]))):=by
        conv=>lhs;rw[←List.take_append_drop (k+1) N]
        rw[List.foldl_append]
       rw[hfo] at hfs
       generalize hx9:N.getD k nin0=n at *
       have hrt:=Try.c_route busy hbo n place q1 q2 q3 q4 hpl q5
       simp only[go_sem,seval,-List.reduceReplicate,Try.results20,hx9]
       repeat' first|assumption|(simp (disch:=first|assumption|omega|(simp;done)|(simp;omega)) only[qaa,qac,List.take_of_length_le,qab,qaF,qae,qaf,qag,qah,qam,qal];try simp only[go_sem,seval,-List.reduceReplicate,Try.results20,hx9])|(with_reducible refine And.intro ?_ ?_)|(with_reducible intro _)|(refine @Exists.intro I _ (I.d D.nil) ?_;simp only[go_sem,seval,-List.reduceReplicate,Try.results20,hx9])|((with_reducible (show Region.lexB _ _=true));kernel_rfl)|((try rw[qad]);omega)
       refine qar hrt [1] (by simp only[go_sem,seval,-List.reduceReplicate]) ?_
       rw[qhN,Option.bind_some] at hfs
       simp only at hfs
       cases hne:netB (qb8 n place) busy 8 0 with
       | none=>
        rw[hne] at hfs
        simp only at hfs
        rw[hfs,qhO] at hdrop
        rw[hdrop]
        rintro r0 H1 ⟨rfl,rfl⟩
        simp only[go_sem,seval,-List.reduceReplicate,Try.results20]
        repeat' first|assumption|(simp (disch:=first|assumption|omega|(simp;done)|(simp;omega)) only[qaa,qac,List.take_of_length_le,qab,qaF,qae,qaf,qag,qah,qam,qal];try simp only[go_sem,seval,-List.reduceReplicate,Try.results20])|(with_reducible refine And.intro ?_ ?_)|(with_reducible intro _)|(refine @Exists.intro I _ (I.d D.nil) ?_;simp only[go_sem,seval,-List.reduceReplicate,Try.results20])|((with_reducible (show Region.lexB _ _=true));kernel_rfl)|((try rw[qad]);omega)
        simp only[qfk,Option.map_none,go_sem]
       | some q=>
        obtain⟨t,h⟩:=q
        rw[hne] at hfs
        simp only at hfs
        obtain⟨-,ht8,htr,-⟩:=qhM 8 0 hne
        obtain⟨hT,-,-⟩:=qfS q5 (by simp[qb8]) htr
        have hhl:=qcG hT
        rintro r0 H1 ⟨g,rfl,rfl⟩
        simp only[go_sem,seval,-List.reduceReplicate,Try.results20]
        repeat' first|assumption|(simp (disch:=first|assumption|omega|(simp;done)|(simp;omega)) only[qaa,qac,List.take_of_length_le,qab,qaF,qae,qaf,qag,qah,qam,qal];try simp only[go_sem,seval,-List.reduceReplicate,Try.results20])|(with_reducible refine And.intro ?_ ?_)|(with_reducible intro _)|(refine @Exists.intro I _ (I.d D.nil) ?_;simp only[go_sem,seval,-List.reduceReplicate,Try.results20])|((with_reducible (show Region.lexB _ _=true));kernel_rfl)|((try rw[qad]);omega)
        refine⟨(k+1,takeB busy t h,out ++ [⟨n.net,(t:Int),h⟩]),⟨by simp only;omega,hfs,qfT hbo (by omega),by simp;omega,fun x hx=>?_⟩,by simp only;omega,?_⟩
        ·rcases List.mem_append.1 hx with h1|h1
         ·exact hoh x h1
         ·obtain rfl:x=⟨n.net,(t:Int),h⟩:=by simpa using h1
          exact hhl
        ·simp only[go_sem,seval,-List.reduceReplicate]
         simp
      ·obtain rfl:k=N.length:=by omega
       rw[List.take_length] at hfo
       rw[hfo]
       simp only[go_sem,seval,-List.reduceReplicate,Try.results20]
       repeat' first|assumption|(simp (disch:=first|assumption|omega|(simp;done)|(simp;omega)) only[qaa,qac,List.take_of_length_le,qab,qaF,qae,qaf,qag,qah,qam,qal];try simp only[go_sem,seval,-List.reduceReplicate,Try.results20])|(with_reducible refine And.intro ?_ ?_)|(with_reducible intro _)|(refine @Exists.intro I _ (I.d D.nil) ?_;simp only[go_sem,seval,-List.reduceReplicate,Try.results20])|((with_reducible (show Region.lexB _ _=true));kernel_rfl)|((try rw[qad]);omega)
       simp only[qfk,Option.map_some,go_sem]
  ·have hra:qaH c place list=none:=by
    classical
    rw[qaH,if_neg (fun h=>hd h.2)]
   rw[hra]
   rw[show Try.defectsValid list=false from Bool.eq_false_iff.2 (fun h=>hd ((Try.def_iff list).1 h))] at hdv
   refine qau (E:=Try.env 0) Try.tok rfl 1000 Try.func20 rfl rfl Try.ntmps20 (by simp) fun ok=>?_
   simp only[go_sem,seval,-List.reduceReplicate] at ok
   simp only[go_sem,seval,-List.reduceReplicate,Try.results20]
   repeat' first|assumption|(simp (disch:=first|assumption|omega|(simp;done)|(simp;omega)) only[qaa,qac,List.take_of_length_le,qab,qaF,qae,qaf,qag,qah,qam,qal];try simp only[go_sem,seval,-List.reduceReplicate,Try.results20])|(with_reducible refine And.intro ?_ ?_)|(with_reducible intro _)|(refine qai hpv ?_;simp only[go_sem,seval,-List.reduceReplicate,Try.results20])|(refine qa7 (fun _=>hdv) ?_;simp only[go_sem,seval,-List.reduceReplicate,Try.results20])|(refine @Exists.intro I _ (I.d D.nil) ?_;simp only[go_sem,seval,-List.reduceReplicate,Try.results20])|((with_reducible (show Region.lexB _ _=true));kernel_rfl)|((try rw[qad]);omega)
   simp only[qfk,go_sem]
 ·have hra:qaH c place list=none:=by
   classical
   rw[qaH,if_neg (fun h=>hv h.1)]
  rw[decide_eq_false hv] at hpv
  rw[hra]
  refine qau (E:=Try.env 0) Try.tok rfl 1000 Try.func20 rfl rfl Try.ntmps20 (by simp) fun ok=>?_
  simp only[go_sem,seval,-List.reduceReplicate] at ok
  simp only[go_sem,seval,-List.reduceReplicate,Try.results20]
  repeat' first|assumption|(simp (disch:=first|assumption|omega|(simp;done)|(simp;omega)) only[qaa,qac,List.take_of_length_le,qab,qaF,qae,qaf,qag,qah,qam,qal];try simp only[go_sem,seval,-List.reduceReplicate,Try.results20])|(with_reducible refine And.intro ?_ ?_)|(with_reducible intro _)|(refine qai hpv ?_;simp only[go_sem,seval,-List.reduceReplicate,Try.results20])|(refine qa7 (fun _=>hdv) ?_;simp only[go_sem,seval,-List.reduceReplicate,Try.results20])|(refine @Exists.intro I _ (I.d D.nil) ?_;simp only[go_sem,seval,-List.reduceReplicate,Try.results20])|((with_reducible (show Region.lexB _ _=true));kernel_rfl)|((try rw[qad]);omega)
  simp only[qfk,go_sem]
theorem Try.c_Route (c:Circ) (place:List Int):Pure Try.prog 12 [dC c,dIs place] (qfk (qaH c place [])):=by
 have h1:=(Try.c_RouteAround c place []).wk (ds':=[dC c,dIs place,.nil]) (by simp only[go_sem];omega)
 cases hra:qaH c place [] with
 | none=>
  rw[hra] at h1
  have h1:Pure Try.prog 20 [dC c,dIs place,.nil] (.tup [.nil,dB false]):=h1
  show Pure _ _ _ (.tup [.nil,dB false])
  refine qau (E:=Try.env 0) Try.tok rfl 1000 Try.func12 rfl rfl Try.ntmps12 (by simp) fun ok=>?_
  simp only[go_sem,seval,-List.reduceReplicate] at ok
  simp only[go_sem,seval,-List.reduceReplicate,Try.results12]
  repeat' first|assumption|(simp (disch:=first|assumption|omega|(simp;done)|(simp;omega)) only[qaa,qac,List.take_of_length_le,qab,qaF,qae,qaf,qag,qah,qam,qal];try simp only[go_sem,seval,-List.reduceReplicate,Try.results12])|(with_reducible refine And.intro ?_ ?_)|(with_reducible intro _)|(refine qeu h1 ?_;simp only[go_sem,seval,-List.reduceReplicate,Try.results12])|(refine @Exists.intro I _ (I.d D.nil) ?_;simp only[go_sem,seval,-List.reduceReplicate,Try.results12])|((with_reducible (show Region.lexB _ _=true));kernel_rfl)|((try rw[qad]);omega)
 | some rs=>
  rw[hra] at h1
  have h1:Pure Try.prog 20 [dC c,dIs place,.nil] (.tup [dRts rs,dB true]):=h1
  show Pure _ _ _ (.tup [dRts rs,dB true])
  refine qau (E:=Try.env 0) Try.tok rfl 1000 Try.func12 rfl rfl Try.ntmps12 (by simp) fun ok=>?_
  simp only[go_sem,seval,-List.reduceReplicate] at ok
  simp only[go_sem,seval,-List.reduceReplicate,Try.results12]
  repeat' first|assumption|(simp (disch:=first|assumption|omega|(simp;done)|(simp;omega)) only[qaa,qac,List.take_of_length_le,qab,qaF,qae,qaf,qag,qah,qam,qal];try simp only[go_sem,seval,-List.reduceReplicate,Try.results12])|(with_reducible refine And.intro ?_ ?_)|(with_reducible intro _)|(refine qeu h1 ?_;simp only[go_sem,seval,-List.reduceReplicate,Try.results12])|(refine @Exists.intro I _ (I.d D.nil) ?_;simp only[go_sem,seval,-List.reduceReplicate,Try.results12])|((with_reducible (show Region.lexB _ _=true));kernel_rfl)|((try rw[qad]);omega)
end Go.Proofs
