/- Contracts, plain definitions and lemmas. Conditions: none; lemmas. -/
import Derived.Test.YteikeianenfhaaaGreatD8
import Derived.Test.YteikeianenfhaaaGreatD3
set_option maxRecDepth 20000
set_option linter.unusedVariables false
set_option linter.unusedSimpArgs false
namespace Go.Proofs
open Go Go.VL
def qkp (list:List (Int×Int)):Prop:=list.length<=12/\∀ d∈list,(0<=d.1/\d.1<=24)/\0<=d.2/\d.2<=7
def qcy (list:List (Int×Int)):List (List Bool):=list.foldl (fun b d=>b.set d.2.toNat ((b.getD d.2.toNat []).set d.1.toNat true)) qi4
def qfU (o:Option (List Rt)):D:=match o with
 | none=>.tup [.nil,dB false]
 | some rs=>.tup [dRts rs,dB true]
noncomputable def qdu (c:Circ) (place:List Int) (list:List (Int×Int)):Option (List Rt):=by
 classical exact if(c.Valid/\PlaceOk (qak c).length place)/\qkp list then qcL c (qak c) place (qcy list) else none
theorem Tryz.def_iff (list:List (Int×Int)):Tryz.defectsValid list=true↔qkp list:=by
 simp only[Tryz.defectsValid,Tryz.defectOk,qkp,yao,decide_eq_true_eq,yaF]
theorem qiK (list:List (Int×Int)):(qcy list).length=8:=by
 have key : ∀ (l:List (Int×Int)) (b:List (List Bool)),(l.foldl (fun b d=>b.set d.2.toNat ((b.getD d.2.toNat []).set d.1.toNat true)) b).length=b.length:=by
  intro l;induction l with
  | nil=>exact fun b=>rfl
  | cons d l ih=>intro b;rw[yam,ih,yar]
 rw[qcy,key];rfl
theorem qiL (list:List (Int×Int)) : ∀ u,u<8->((qcy list).getD u []).length=25:=by
 have key : ∀ (l:List (Int×Int)) (b:List (List Bool)),b.length=8->(∀ u,u<8->(b.getD u []).length=25)->∀ u,u<8->((l.foldl (fun b d=>b.set d.2.toNat ((b.getD d.2.toNat []).set d.1.toNat true)) b).getD u []).length=25:=by
  intro l;induction l with
  | nil=>exact fun b _ h=>h
  | cons d l ih=>
   intro b hb h;refine ih _ (by rw[yar];exact hb) fun u hu=>?_
   by_cases e:d.2.toNat=u
   ·subst e;have:(b.set d.2.toNat ((b.getD d.2.toNat []).set d.1.toNat true)).getD d.2.toNat []=(b.getD d.2.toNat []).set d.1.toNat true:=by simp[List.getD,show d.2.toNat<b.length by omega]
    rw[this,yar];exact h _ hu
   ·have:(b.set d.2.toNat ((b.getD d.2.toNat []).set d.1.toNat true)).getD u []=b.getD u []:=by simp[List.getD,List.getElem?_set,e]
    rw[this];exact h u hu
 exact key list qi4 rfl free0_ok.row
theorem qgw (list:List (Int×Int)):BusyOk (qcy list):=⟨qiK list,qiL list⟩
theorem qjH {list:List (Int×Int)}{i:Nat}(hi:i<list.length):qcy (list.take (i+1))=(qcy (list.take i)).set (list.getD i (0,0)).2.toNat (((qcy (list.take i)).getD (list.getD i (0,0)).2.toNat []).set (list.getD i (0,0)).1.toNat true):=
 qaC (f:=fun(b:List (List Bool)) (d:Int×Int)=>b.set d.2.toNat ((b.getD d.2.toNat []).set d.1.toNat true)) (b:=qi4) ((0,0):Int×Int) hi
theorem qpv:qcf qi4=List.replicate 200 false:=by decide +kernel
theorem bx_free:bx (qcf qi4)=List.replicate 200 (I.d (.bool false)):=by rw[bx,qpv,List.map_replicate]
theorem qpw {c:Circ}{place:List Int} : ∀ k:Nat,(k:Int)<c.vars->∀ n∈qdM c (qak c) k,∃ v:Int,1<=v/\v<c.vars/\n=ninC c (qak c) v/\qaA c (qak c) place v≠[]
 | 0,_,n,h=>by simp[qdM] at h
 | k+1,hk,n,h=>by
  rw[qdM] at h;rcases List.mem_append.1 h with h1|h1
  ·exact qpw k (by omega) n h1
  ·split at h1
   ·rename_i h2;refine⟨(k:Int)+1,by omega,by omega,by simpa using h1,fun h3=>qcM.1 h3 h2⟩
   ·simp at h1
theorem qm6 {cells:List Cel}{v:Int} : ∀ n:Nat,qdg cells v n<n/\-1<=qdg cells v n
 | 0=>by simp[qdg]
 | n+1=>by
  have:=qm6 (cells:=cells) (v:=v) n;rw[qdg];split <;> omega
theorem qlt {c:Circ}(hc:c.Valid) {place:List Int}(hp:PlaceOk (qak c).length place) : ∀ n∈qg3 c (qak c),(∀ i∈n.sinks,0<=i/\i<place.length)/\n.cell<place.length/\n.sinks.length<=400/\n.pads.length<=400/\∀ t∈qa8 n place,0<=t/\t<=24:=by
 intro n hn;have hf:=hc.first_bd;have hv:=hc.vars_bd;have hcl:=qbS hc;have hlo:=hc.lo;have hpl:=hp.len;obtain⟨v,h1,h2,rfl,h3⟩:=qpw (place:=place) (c.vars.toNat-1) (by omega) n hn;refine⟨fun i hi=>?_,?_,?_,?_,qjE hc hp h1 h2 h3⟩
 ·obtain⟨j,hj,-,rfl⟩:=qeh.1 (show i∈qbc (qak c) v (qak c).length from hi);omega
 ·have:=(qm6 (cells:=qak c) (v:=v) (qak c).length).1;show qdg (qak c) v (qak c).length<_
  omega
 ·have:=qdV (fun x hx=>(qdc hc x hx).2.1) v (qak c).length (yad _);show(qbc (qak c) v (qak c).length).length<=400
  omega
 ·have:=qg7 (c:=c) (net:=v) c.outs.length;show(qa3 c v c.outs.length).length<=400
  omega
theorem Tryz.c_RouteAround (c:Circ) (place:List Int) (list:List (Int×Int)):Pure Tryz.prog 70 [dC c,dIs place,dPs list] (qfU (qdu c place list)):=by
 have hpv:=Tryz.c_PlacementValid c place;have hdv:=Tryz.c_DefectsValid list;by_cases hv:c.Valid/\PlaceOk (qak c).length place
 ·rw[decide_eq_true hv] at hpv;by_cases hd:qkp list
  ·rw[(Tryz.def_iff list).2 hd] at hdv;have hra:qdu c place list=qcL c (qak c) place (qcy list):=by
    classical
    rw[qdu,if_pos ⟨hv,hd⟩]
   have hnn:=qnN hv.1 hv.2 (qcy list);rw[hra,hnn];have hno:=Tryz.c_netsOf c hv.1;refine qas (E:=Tryz.env 0) Tryz.tok rfl 1000 Tryz.func70 rfl rfl Tryz.ntmps70 (by simp) fun ok=>?_
   simp only[go_sem,seval,-List.reduceReplicate] at ok;simp only[go_sem,seval,-List.reduceReplicate]
   repeat' first|assumption|(simp (disch:=first|assumption|omega|(simp;done)|(simp;omega)) only[qaa,qac,yaa,qab,qaM,qae,qaf,qah,qai,qar,qam];try simp only[go_sem,seval,-List.reduceReplicate])|(with_reducible first|refine And.intro ?_ ?_|intro _)|(refine qaj hpv ?_;simp only[go_sem,seval,-List.reduceReplicate])|(refine qaZ (fun _=>hdv) ?_;simp only[go_sem,seval,-List.reduceReplicate])|((try rw[qad]);omega)
   refine qap (E:=Tryz.env 0) Tryz.tok (σ:=Nat) (fun i=>[(1,.d (dIs place)),(3,.ptr 0 0),(8,.ptr 1 0),(27,.d (dPs list)),(28,.d (dI list.length)),(29,.d (dI i))])
    (fun i=>[.box [.d (dI c.inputs),.d (dIs c.next),.d (dPs c.gates),.d (dIs c.outs)],.box (bx (qcf (qcy (list.take i))))]) (fun i=>i<=list.length) (fun i=>list.length-i) [] [] 1000 1000 ?_ ?_
   ·simp only[go_sem,seval,-List.reduceReplicate];refine⟨0,by omega,?_⟩;rw[show qcy (list.take 0)=qi4 from rfl,bx_free];simp only[go_sem,seval]
   ·intro i hi;have hbl:=qiK (list.take i);have hbr:=qiL (list.take i);by_cases hit:i<list.length
    ·have hstp:=qjH hit;have hr:=hd.2 _ (qal hit:list.getD i (0,0)∈list);generalize qcy (list.take i)=T at *
     generalize hh9:list.getD i (0,0)=hh at *
     have hbr2:=hbr hh.2.toNat (by omega);have hset:=qsk (l:=qcf T) (k:=hh.1.toNat*8+hh.2.toNat) (b:=true);rw[qlm (by omega) (by omega) (by omega) (by omega),<-hstp] at hset;simp only[go_sem,seval,-List.reduceReplicate,hh9,yaI,qaY,hset]
     repeat' first|assumption|(simp (disch:=first|assumption|omega|(simp;done)|(simp;omega)) only[qaa,qac,yaa,qab,qaM,qae,qaf,qah,qai,qar,qam];try simp only[go_sem,seval,-List.reduceReplicate,hh9,yaI,qaY,hset])|(with_reducible first|refine And.intro ?_ ?_|intro _)|((try rw[qad]);omega)
     refine qaL (E:=Tryz.env 0) Tryz.tok Tryz.follows 1000 1000 [9] (.fst 0 (.fst 1 (.fst 3 (.fst 5 (.fst 6 (.fst 2 (.fst 7 (.fst 4 (.fst 8 (.one 9 (.done))))))))))) (by kernel_rfl) ?_;simp only[go_sem,seval,-List.reduceReplicate,hh9,yaI,qaY,hset]
     repeat' first|assumption|(simp (disch:=first|assumption|omega|(simp;done)|(simp;omega)) only[qaa,qac,yaa,qab,qaM,qae,qaf,qah,qai,qar,qam];try simp only[go_sem,seval,-List.reduceReplicate,hh9,yaI,qaY,hset])|(with_reducible first|refine And.intro ?_ ?_|intro _)|((try rw[qad]);omega)
     refine⟨i+1,by omega,by omega,rfl,?_⟩;simp only[go_sem,seval,-List.reduceReplicate]
    ·rw[show list.take i=list from yaa (by omega)];simp only[go_sem,seval,-List.reduceReplicate]
     repeat' first|assumption|(simp (disch:=first|assumption|omega|(simp;done)|(simp;omega)) only[qaa,qac,yaa,qab,qaM,qae,qaf,qah,qai,qar,qam];try simp only[go_sem,seval,-List.reduceReplicate])|(with_reducible first|refine And.intro ?_ ?_|intro _)|((try rw[qad]);omega)
     refine qaB hno [0] (by simp only[go_sem,seval,-List.reduceReplicate]) ?_;rintro r0 H1 ⟨rfl,rfl⟩;simp only[go_sem,seval,-List.reduceReplicate]
     repeat' first|assumption|(simp (disch:=first|assumption|omega|(simp;done)|(simp;omega)) only[qaa,qac,yaa,qab,qaM,qae,qaf,qah,qai,qar,qam];try simp only[go_sem,seval,-List.reduceReplicate])|(with_reducible first|refine And.intro ?_ ?_|intro _)|((try rw[qad]);omega)
     have hnf:=qlt hv.1 hv.2;have hNl:(qg3 c (qak c)).length<=1000:=by
      have:=qgv c (qak c) (c.vars.toNat-1);have:=hv.1.vars_bd;show(qdM c (qak c) (c.vars.toNat-1)).length<=1000
      omega
     have hpl:place.length<=1000:=by rw[hv.2.len];have:=qbS hv.1;omega
     clear hno hnn hra;generalize qg3 c (qak c)=N at *
     refine qap (E:=Tryz.env 0) Tryz.tok (σ:=Nat×List (List Bool)×List Rt) (fun s=>[(1,.d (dIs place)),(8,.ptr 1 0),(11,.sl 2 s.2.2.length 3 0 s.2.2.length),(43,.d (dNis N)),(44,.d (dI N.length)),(45,.d (dI s.1))])
      (fun s=>[.dead 0,.box (bx (qcf s.2.1)),.row s.2.2.length 3 true (s.2.2.map fun x=>dRt x)]) (fun s=>s.1<=N.length/\(N.take s.1).foldl (qiF place) (some (qcy list,[]))=some (s.2.1,s.2.2)/\BusyOk s.2.1/\s.2.2.length<=s.1/\∀ x∈s.2.2,x.hops.length<=25) (fun s=>N.length-s.1) [] [(11,3,true)] 1000 1000 ?_ ?_
     ·simp only[go_sem,seval,-List.reduceReplicate];refine⟨(0,qcy list,[]),⟨by simp,by simp,qgw list,by simp,by simp⟩,?_⟩;simp only[go_sem,seval,-List.reduceReplicate]
     ·rintro⟨k,busy,out⟩ ⟨hk,hfo,hbo,hol,hoh⟩;simp only at hk hfo hbo hol hoh;by_cases hlt:k<N.length
      ·have hfs:=qaC (f:=qiF place) (b:=some (qcy list,[])) nin0 hlt;obtain⟨q1,q2,q3,q4,q5⟩:=hnf _ (qal hlt:N.getD k nin0∈N);have hdrop:N.foldl (qiF place) (some (qcy list,[]))=(N.drop (k+1)).foldl (qiF place) ((N.take (k+1)).foldl (qiF place) (some (qcy list,[]))):=by
        conv=>lhs;rw[<-ybl (k+1) N]
        rw[yaO]
       rw[hfo] at hfs;generalize hx9:N.getD k nin0=n at *
       have hrt:=Tryz.c_route busy hbo n place q1 q2 q3 q4 hpl q5;simp only[go_sem,seval,-List.reduceReplicate,hx9]
       repeat' first|assumption|(simp (disch:=first|assumption|omega|(simp;done)|(simp;omega)) only[qaa,qac,yaa,qab,qaM,qae,qaf,qah,qai,qar,qam];try simp only[go_sem,seval,-List.reduceReplicate,hx9])|(with_reducible first|refine And.intro ?_ ?_|intro _)|((try rw[qad]);omega)
       refine qaB hrt [1] (by simp only[go_sem,seval,-List.reduceReplicate]) ?_;rw[qiF,ybe] at hfs;simp only at hfs;cases hne:netB (qa8 n place) busy 8 0 with
       | none=>
        rw[hne] at hfs;simp only at hfs;rw[hfs,qiG] at hdrop;rw[hdrop];rintro r0 H1 ⟨rfl,rfl⟩;simp only[go_sem,seval,-List.reduceReplicate]
        repeat' first|assumption|(simp (disch:=first|assumption|omega|(simp;done)|(simp;omega)) only[qaa,qac,yaa,qab,qaM,qae,qaf,qah,qai,qar,qam];try simp only[go_sem,seval,-List.reduceReplicate])|(with_reducible first|refine And.intro ?_ ?_|intro _)|((try rw[qad]);omega)
        simp only[qfU,yaz,go_sem]
       | some q=>
        obtain⟨t,h⟩:=q;rw[hne] at hfs;simp only at hfs;obtain⟨-,ht8,htr,-⟩:=qkn 8 0 hne;obtain⟨hT,-,-⟩:=qhG q5 (by simp[qa8]) htr;have hhl:=qdt hT;rintro r0 H1 ⟨g,rfl,rfl⟩;simp only[go_sem,seval,-List.reduceReplicate]
        repeat' first|assumption|(simp (disch:=first|assumption|omega|(simp;done)|(simp;omega)) only[qaa,qac,yaa,qab,qaM,qae,qaf,qah,qai,qar,qam];try simp only[go_sem,seval,-List.reduceReplicate])|(with_reducible first|refine And.intro ?_ ?_|intro _)|((try rw[qad]);omega)
        refine⟨(k+1,takeB busy t h,out ++ [⟨n.net,(t:Int),h⟩]),⟨by simp only;omega,hfs,qhH hbo (by omega),by simp;omega,fun x hx=>?_⟩,by simp only;omega,?_⟩
        ·rcases List.mem_append.1 hx with h1|h1
         ·exact hoh x h1
         ·obtain rfl:x=⟨n.net,(t:Int),h⟩:=by simpa using h1
          exact hhl
        ·simp only[go_sem,seval,-List.reduceReplicate];simp
      ·obtain rfl:k=N.length:=by omega
       rw[yav] at hfo;rw[hfo];simp only[go_sem,seval,-List.reduceReplicate]
       repeat' first|assumption|(simp (disch:=first|assumption|omega|(simp;done)|(simp;omega)) only[qaa,qac,yaa,qab,qaM,qae,qaf,qah,qai,qar,qam];try simp only[go_sem,seval,-List.reduceReplicate])|(with_reducible first|refine And.intro ?_ ?_|intro _)|((try rw[qad]);omega)
       simp only[qfU,yaD,go_sem]
  ·have hra:qdu c place list=none:=by
    classical
    rw[qdu,if_neg (fun h=>hd h.2)]
   rw[hra];rw[show Tryz.defectsValid list=false from Bool.eq_false_iff.2 (fun h=>hd ((Tryz.def_iff list).1 h))] at hdv;refine qas (E:=Tryz.env 0) Tryz.tok rfl 1000 Tryz.func70 rfl rfl Tryz.ntmps70 (by simp) fun ok=>?_
   simp only[go_sem,seval,-List.reduceReplicate] at ok;simp only[go_sem,seval,-List.reduceReplicate]
   repeat' first|assumption|(simp (disch:=first|assumption|omega|(simp;done)|(simp;omega)) only[qaa,qac,yaa,qab,qaM,qae,qaf,qah,qai,qar,qam];try simp only[go_sem,seval,-List.reduceReplicate])|(with_reducible first|refine And.intro ?_ ?_|intro _)|(refine qaj hpv ?_;simp only[go_sem,seval,-List.reduceReplicate])|(refine qaZ (fun _=>hdv) ?_;simp only[go_sem,seval,-List.reduceReplicate])|((try rw[qad]);omega)
   simp only[qfU,go_sem]
 ·have hra:qdu c place list=none:=by
   classical
   rw[qdu,if_neg (fun h=>hv h.1)]
  rw[decide_eq_false hv] at hpv;rw[hra];refine qas (E:=Tryz.env 0) Tryz.tok rfl 1000 Tryz.func70 rfl rfl Tryz.ntmps70 (by simp) fun ok=>?_
  simp only[go_sem,seval,-List.reduceReplicate] at ok;simp only[go_sem,seval,-List.reduceReplicate]
  repeat' first|assumption|(simp (disch:=first|assumption|omega|(simp;done)|(simp;omega)) only[qaa,qac,yaa,qab,qaM,qae,qaf,qah,qai,qar,qam];try simp only[go_sem,seval,-List.reduceReplicate])|(with_reducible first|refine And.intro ?_ ?_|intro _)|(refine qaj hpv ?_;simp only[go_sem,seval,-List.reduceReplicate])|(refine qaZ (fun _=>hdv) ?_;simp only[go_sem,seval,-List.reduceReplicate])|((try rw[qad]);omega)
  simp only[qfU,go_sem]
end Go.Proofs

set_option linter.unusedVariables false
set_option linter.unusedSimpArgs false
namespace Go.VL
theorem qlu : ∀ (l:List Int) (s:Int×Int×Int×Int),((l.foldl boxF s).1<=s.1/\s.2.1<=(l.foldl boxF s).2.1/\(l.foldl boxF s).2.2.1<=s.2.2.1/\s.2.2.2<=(l.foldl boxF s).2.2.2)/\
  ∀ t∈l,((l.foldl boxF s).1<=t/5/\t/5<=(l.foldl boxF s).2.1/\(l.foldl boxF s).2.2.1<=t%5/\t%5<=(l.foldl boxF s).2.2.2)
 | [],s=>⟨⟨Int.le_refl _,Int.le_refl _,Int.le_refl _,Int.le_refl _⟩,fun t h=>by simp at h⟩
 | x::l,s=>by
  obtain⟨h1,h2⟩:=qlu l (boxF s x);rw[yam];have e1:(boxF s x).1=min s.1 (x/5):=rfl;have e2:(boxF s x).2.1=max s.2.1 (x/5):=rfl;have e3:(boxF s x).2.2.1=min s.2.2.1 (x%5):=rfl;have e4:(boxF s x).2.2.2=max s.2.2.2 (x%5):=rfl;refine⟨by omega,fun t ht=>?_⟩;rcases List.mem_cons.1 ht with rfl|h
  ·omega
  ·exact h2 t h
theorem qmq : ∀ (l out:List Int),l.foldl boxF (boxC out)=boxC (l.foldl addU out)
 | [],out=>rfl
 | t::l,out=>by
  rw[yam,yam];by_cases hm:t∈out
  ·have e:boxF (boxC out) t=boxC out:=by
    have h:=(qlu out (5,0,5,0)).2 t hm;have hb:boxC out=out.foldl boxF (5,0,5,0):=rfl;rw[<-hb] at h;unfold boxF;refine Prod.ext ?_ (Prod.ext ?_ (Prod.ext ?_ ?_)) <;> simp only <;> omega
   rw[e,show addU out t=out by unfold addU;rw[if_pos hm]];exact qmq l out
  ·have e:boxF (boxC out) t=boxC (addU out t):=by
    rw[show addU out t=out ++ [t] by unfold addU;rw[if_neg hm]];show boxF (out.foldl boxF (5,0,5,0)) t=(out ++ [t]).foldl boxF (5,0,5,0)
    rw[yaO];rfl
   rw[e];exact qmq l (addU out t)
theorem qrj (s:Int) (l:List Int):qeE (s::l)=qeE (l.foldl addU [s]):=by
 obtain⟨r,hr⟩:=qek (l:=l) (out:=[s]);have hb:boxC (s::l)=boxC (l.foldl addU [s]):=by
  rw[<-qmq l [s]];rfl
 unfold qeE;rw[if_neg (by simp),if_neg (by rw[hr];simp),hb]
def sumD (place:List Int) (l:List Nin):Int:=l.foldl (fun s n=>s+qeE (qa8 n place)) 0
theorem qmr (place:List Int) (l m:List Nin):sumD place (l++m)=m.foldl (fun s n=>s+qeE (qa8 n place)) (sumD place l):=by
 rw[sumD,yaO];rfl
theorem qlv {c:Circ}(hc:c.Valid) (place:List Int) : ∀ k:Nat,(k:Int)<c.vars->sumD place (qdM c (qak c) k)=qg0 c (qak c) place k
 | 0,_=>rfl
 | k+1,hk=>by
  have ih:=qlv hc place k (by omega);rw[qdM,qmr,ih,qg0];by_cases hu:qaA c (qak c) place ((k:Int)+1)=[]
  ·rw[if_neg (qcM.1 hu),(qiE hc place (v:=(k:Int)+1) (by omega) (by omega)).2 hu];show qg0 c (qak c) place k=qg0 c (qak c) place k+qeE []
   rw[show qeE []=0 from rfl];omega
  ·rw[if_pos (Decidable.byContradiction fun h=>hu (qcM.2 h)),qgt hc place (v:=(k:Int)+1) (by omega) (by omega) hu,<-qrj];rfl
theorem qnQ {c:Circ}(hc:c.Valid) (place:List Int):sumD place (qg3 c (qak c))=qds c (qak c) place:=by
 have:=hc.first_bd;have:=hc.vars_bd;rw[qg3,qlv hc place _ (by omega)];rfl
end Go.VL
