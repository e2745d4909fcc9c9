/- Contracts, plain definitions and lemmas. Conditions: none; lemmas. -/
import Derived.Test.YtoanmdnkgjdinaaGreatD9
import Derived.Test.YtoanmdnkgjdinaaGreatD3
import Derived.Test.YtoanmdnkgjdinaaGreatE7
set_option maxRecDepth 20000
set_option linter.unusedVariables false
set_option linter.unusedSimpArgs false
namespace Go.Proofs
open Go Go.VL
def qpR (busy:List (List Bool)) (o:Option (List (Int×Int))) (r:I) (H':List R):Prop:=
 match o with
 | none=>r=.tup [.d .nil,.d (dB false)]∧H'=[.box (bx (qb7 busy))]
 | some h=>∃ g,r=.tup [.sl 1 g 2 0 h.length,.d (dB true)]∧H'=[.box (bx (qb7 busy)),.row g 2 true (h.map fun x=>dP x)]
theorem Tryz.c_tree (busy:List (List Bool)) (tiles:List Int) (u:Nat) (hu:u<8) (hne:tiles≠[]) (hr : ∀ t∈tiles,0≤t∧t≤24) (htl:tiles.length≤1000) :
  ICall Tryz.prog 87 [.ptr 0 0,.d (dIs tiles),.d (dI u)] [.box (bx (qb7 busy))] (qpR busy (qea (busy.getD u []) tiles)):=by
 obtain⟨t0,l,rfl⟩ : ∃ t0 l,tiles=t0::l:=by
  cases tiles with
  | nil=>exact absurd rfl hne
  | cons t0 l=>exact⟨t0,l,rfl⟩
 have h0:=hr t0 (by simp)
 have hl:l.length≤1000:=by simp at htl;omega
 have hT:qea (busy.getD u []) (t0::l)=if(busy.getD u []).getD t0.toNat false=true then none else l.foldl (fun o t=>o.bind fun hops=>qaK (busy.getD u []) hops t) (some [(t0,-1)]):=rfl
 have hbx:(bx (qb7 busy)).getD (t0.toNat*8+u) I.junk=.d (.bool ((busy.getD u []).getD t0.toNat false)):=by
  rw[qaG (by rw[qaS];omega),qko (by omega) hu]
 rw[hT]
 refine qaJ (E:=Tryz.env 1) Tryz.tok rfl 1000 Tryz.func87 rfl rfl Tryz.ntmps87 (by simp) ?_
 simp only[go_sem,seval,Tryz.results87,hbx,Nat.mul_one,qaS]
 repeat' first|assumption|(simp (disch:=first|assumption|omega|(simp;done)|(simp;omega)) only[qaa,qac,List.take_of_length_le,qab,qaG,qae,qaf,qag,qah,qao];try simp only[go_sem,seval,Tryz.results87,hbx,Nat.mul_one,qaS])|(with_reducible refine And.intro ?_ ?_)|(with_reducible intro _)|((with_reducible (show Region.lexB _ _=true));kernel_rfl)|((try rw[qad]);omega)
 ·rename_i hb
  rw[if_pos hb]
  exact qcd ⟨rfl,rfl⟩
 rename_i hb
 rw[if_neg (by rw[hb];simp)]
 have base:TreeOk (busy.getD u []) [(t0,-1)]:=by
  refine⟨fun x hx=>?_,by simp[qar],fun x hx=>?_,by simp,fun j hj=>?_⟩
  ·obtain rfl:x=(t0,-1):=by simpa using hx
   exact h0
  ·obtain rfl:x=(t0,-1):=by simpa using hx
   simpa using hb
  ·obtain rfl:j=0:=by simpa using hj
   exact .inl ⟨rfl,rfl⟩
 have hrl : ∀ t∈l,0≤t∧t≤24:=fun t ht=>hr t (by simp[ht])
 refine qaq (E:=Tryz.env 1) Tryz.tok (σ:=Nat×Nat×List (Int×Int)) (fun s=>[(0,.ptr 0 0),(2,.d (dI u)),(8,.sl 1 s.2.1 2 0 s.2.2.length),(29,.d (dIs l)),(30,.d (dI l.length)),(31,.d (dI s.1))])
  (fun s=>[.box (bx (qb7 busy)),.row s.2.1 2 true (s.2.2.map fun x=>dP x)]) (fun s=>s.1≤l.length∧TreeOk (busy.getD u []) s.2.2∧(l.take s.1).foldl (fun o t=>o.bind fun hops=>qaK (busy.getD u []) hops t) (some [(t0,-1)])=some s.2.2) (fun s=>l.length-s.1) [] [] 1000 1000 ?_ ?_
 ·simp only[go_sem,seval]
  exact⟨(0,0,[(t0,-1)]),⟨by simp,base,by simp⟩,by simp⟩
 ·rintro⟨i,g,hops⟩ ⟨hi,ht,hf⟩
  simp only at hi ht hf
  have hhl:=qcK ht
  by_cases hlt:i<l.length
  ·have hfs:=qaH (f:=fun(o:Option (List (Int×Int))) (t:Int)=>o.bind fun hops=>qaK (busy.getD u []) hops t) (b:=some [(t0,-1)]) (0:Int) hlt
   rw[hf,Option.bind_some] at hfs
   have htr:=hrl _ (qak hlt:l.getD i 0∈l)
   generalize hx9:l.getD i 0=x at *
   have hpa:=Tryz.c_path g busy hops x u hu ht htr
   have hdrop:l.foldl (fun o t=>o.bind fun hops=>qaK (busy.getD u []) hops t) (some [(t0,-1)])=(l.drop (i+1)).foldl (fun o t=>o.bind fun hops=>qaK (busy.getD u []) hops t) (qaK (busy.getD u []) hops x):=by
    conv=>lhs;rw[←List.take_append_drop (i+1) l]
    rw[List.foldl_append,hfs]
   simp only[go_sem,seval,Tryz.results87,hx9]
   repeat' first|assumption|(simp (disch:=first|assumption|omega|(simp;done)|(simp;omega)) only[qaa,qac,List.take_of_length_le,qab,qaG,qae,qaf,qag,qah,qao];try simp only[go_sem,seval,Tryz.results87,hx9])|(with_reducible refine And.intro ?_ ?_)|(with_reducible intro _)|((with_reducible (show Region.lexB _ _=true));kernel_rfl)|((try rw[qad]);omega)
   refine qax hpa [0,1] (by simp only[go_sem,seval]) ?_
   rintro r0 H1 ⟨rfl,rfl⟩
   cases hex:qaK (busy.getD u []) hops x with
   | none=>
    rw[hex,qf6] at hdrop
    rw[hdrop]
    simp only[go_sem,seval,Tryz.results87]
    repeat' first|assumption|(simp (disch:=first|assumption|omega|(simp;done)|(simp;omega)) only[qaa,qac,List.take_of_length_le,qab,qaG,qae,qaf,qag,qah,qao];try simp only[go_sem,seval,Tryz.results87])|(with_reducible refine And.intro ?_ ?_)|(with_reducible intro _)|((with_reducible (show Region.lexB _ _=true));kernel_rfl)|((try rw[qad]);omega)
    refine qb9 (r0:=.tup [.d .nil,.d (dB false)]) (H1:=[.box (bx (qb7 busy))]) ?_ ⟨rfl,rfl⟩
    simp only[go_sem,seval]
   | some h2=>
    obtain⟨a1,a2,r1,a3⟩:=qf1 ht htr hex
    have hl2:=qcK a1
    rw[hex] at hfs
    subst a3
    simp only[go_sem,seval,Tryz.results87,Option.getD_some,List.drop_left]
    repeat' first|assumption|(simp (disch:=first|assumption|omega|(simp;done)|(simp;omega)) only[qaa,qac,List.take_of_length_le,qab,qaG,qae,qaf,qag,qah,qao];try simp only[go_sem,seval,Tryz.results87,Option.getD_some,List.drop_left])|(with_reducible refine And.intro ?_ ?_)|(with_reducible intro _)|((with_reducible (show Region.lexB _ _=true));kernel_rfl)|((try rw[qad]);omega)
    ·have hll:(hops++r1).length=hops.length+r1.length:=List.length_append ..
     omega
    ·refine⟨(i+1,g+1,hops++r1),⟨by simp only;omega,a1,hfs⟩,by simp only;omega,⟨⟨rfl,by simp⟩,rfl⟩,rfl,rfl⟩
  ·obtain rfl:i=l.length:=by omega
   rw[List.take_length] at hf
   rw[hf]
   simp only[go_sem,seval,Tryz.results87]
   repeat' first|assumption|(simp (disch:=first|assumption|omega|(simp;done)|(simp;omega)) only[qaa,qac,List.take_of_length_le,qab,qaG,qae,qaf,qag,qah,qao];try simp only[go_sem,seval,Tryz.results87])|(with_reducible refine And.intro ?_ ?_)|(with_reducible intro _)|((with_reducible (show Region.lexB _ _=true));kernel_rfl)|((try rw[qad]);omega)
   exact qcd ⟨_,rfl,rfl⟩
end Go.Proofs

set_option maxRecDepth 20000
set_option linter.unusedVariables false
set_option linter.unusedSimpArgs false
namespace Go.Proofs
open Go Go.VL
theorem qkv {α β : Type}{f : β→α→Option β} : ∀ (l:List α),l.foldl (fun o t=>o.bind fun h=>f h t) (none:Option β)=none
 | []=>rfl
 | x::l=>qkv l
theorem Tryz.c_l8Tree (g:Nat) (pins:List Int) (busy:List Bool) (hb:busy.length=25) (hp : ∀ t∈pins,0≤t∧t≤24) (hne:pins≠[]) (hpl:pins.length≤1000) :
  ICall Tryz.prog 94 [.d (dIs pins),.sl 0 g 1 0 25] [.row g 1 true (busy.map D.bool)] (fun r H'=>r=.d (.tup [dPs ((qea busy pins).getD []),dB (qea busy pins).isSome])∧H'=[.row g 1 true (busy.map D.bool)]):=by
 obtain⟨p0,rest,rfl⟩ : ∃ p0 rest,pins=p0::rest:=by
  cases pins with
  | nil=>exact absurd rfl hne
  | cons a l=>exact⟨a,l,rfl⟩
 have hp0:=hp p0 (by simp)
 have htd:qea busy (p0::rest)=if busy.getD p0.toNat false=true then none else rest.foldl (fun o t=>o.bind fun hops=>qaK busy hops t) (some [(p0,-1)]):=rfl
 have hg0:(p0::rest).getD 0 0=p0:=rfl
 by_cases hbz:busy.getD p0.toNat false=true
 ·rw[if_pos hbz] at htd
  rw[htd]
  refine qaJ (E:=Tryz.env 1) Tryz.tok rfl 1000 Tryz.func94 rfl rfl Tryz.ntmps94 (by simp) ?_
  simp only[go_sem,seval,Tryz.results94,hg0,hbz]
  repeat' first|assumption|(simp (disch:=first|assumption|omega|(simp;done)|(simp;omega)) only[qaa,qac,List.take_of_length_le,qab,qae,qaf,qag,qah,qaj,qaa];try simp only[go_sem,seval,Tryz.results94,hg0,hbz])|(with_reducible refine And.intro ?_ ?_)|(with_reducible intro _)|((try rw[qad]);omega)
  refine qcJ (by simp) (by simp only[go_sem,seval]) ?_
  simp only[go_sem,seval]
  rfl
 ·rw[if_neg hbz] at htd
  rw[Bool.not_eq_true] at hbz
  have base:TreeOk busy [(p0,-1)]:=by
   refine⟨fun x hx=>?_,by simp[qar],fun x hx=>?_,by simp,fun j hj=>?_⟩
   ·obtain rfl:x=(p0,-1):=by simpa using hx
    exact hp0
   ·obtain rfl:x=(p0,-1):=by simpa using hx
    exact hbz
   ·obtain rfl:j=0:=by simpa using hj
    exact .inl ⟨rfl,rfl⟩
  refine qaJ (E:=Tryz.env 1) Tryz.tok rfl 1000 Tryz.func94 rfl rfl Tryz.ntmps94 (by simp) ?_
  simp only[go_sem,seval,Tryz.results94,hg0,hbz]
  repeat' first|assumption|(simp (disch:=first|assumption|omega|(simp;done)|(simp;omega)) only[qaa,qac,List.take_of_length_le,qab,qae,qaf,qag,qah,qaj,qaa];try simp only[go_sem,seval,Tryz.results94,hg0,hbz])|(with_reducible refine And.intro ?_ ?_)|(with_reducible intro _)|((try rw[qad]);omega)
  rw[htd]
  generalize hP9:p0::rest=P at *
  have hPl:P.length=rest.length+1:=by rw[←hP9];rfl
  have hPg : ∀ m,P.getD (m+1) 0=rest.getD m 0:=fun m=>by rw[←hP9];rfl
  refine qaq (E:=Tryz.env 1) Tryz.tok (σ:=Nat×List (Int×Int)) (fun s=>[(0,.d (dIs P)),(1,.sl 0 g 1 0 25),(6,.d (dPs s.2)),(7,.d (dI ((s.1+1:Nat):Int)))]) (fun s=>[.row g 1 true (busy.map D.bool)])
   (fun s=>s.1≤rest.length∧TreeOk busy s.2∧(rest.take s.1).foldl (fun o t=>o.bind fun hops=>qaK busy hops t) (some [(p0,-1)])=some s.2) (fun s=>rest.length-s.1) [] [] 1000 1000 ?_ ?_
  ·simp only[go_sem,seval]
   exact⟨(0,[(p0,-1)]),⟨by simp,base,rfl⟩,by simp⟩
  ·rintro⟨m,hops⟩ ⟨hm,hT,hfo⟩
   simp only at hm hT hfo
   by_cases hmt:m<rest.length
   ·have hrm:rest.getD m 0∈rest:=qak hmt
    have hrr:=hp _ (by rw[←hP9];exact List.mem_cons_of_mem _ hrm)
    have hpa:=Tryz.c_l8Path g hops (rest.getD m 0) busy hb hT hrr
    have hfs:=qaH (f:=fun(o:Option (List (Int×Int))) (t:Int)=>o.bind fun hops=>qaK busy hops t) (b:=some [(p0,-1)]) (0:Int) hmt
    rw[hfo] at hfs
    simp only[Option.bind_some] at hfs
    have hex:=@qf1 busy hops hT (rest.getD m 0) hrr
    have hsplit:rest.foldl (fun o t=>o.bind fun hops=>qaK busy hops t) (some [(p0,-1)])=(rest.drop (m+1)).foldl (fun o t=>o.bind fun hops=>qaK busy hops t) ((rest.take (m+1)).foldl (fun o t=>o.bind fun hops=>qaK busy hops t) (some [(p0,-1)])):=by
     rw[←List.foldl_append,List.take_append_drop]
    have hPm:=hPg m
    generalize rest.getD m 0=x at *
    cases he:qaK busy hops x with
    | none=>
     rw[he] at hpa hfs
     rw[hsplit,hfs,qkv]
     simp only[go_sem,seval,Tryz.results94,hPm,hPl]
     repeat' first|assumption|(simp (disch:=first|assumption|omega|(simp;done)|(simp;omega)) only[qaa,qac,List.take_of_length_le,qab,qae,qaf,qag,qah,qaj,qaa];try simp only[go_sem,seval,Tryz.results94,hPm,hPl])|(with_reducible refine And.intro ?_ ?_)|(with_reducible intro _)|((try rw[qad]);omega)
     refine qax hpa [0] (by simp only[go_sem,seval]) ?_
     rintro r0 H1 ⟨rfl,rfl⟩
     simp only[go_sem,seval,Tryz.results94,hPm,hPl]
     repeat' first|assumption|(simp (disch:=first|assumption|omega|(simp;done)|(simp;omega)) only[qaa,qac,List.take_of_length_le,qab,qae,qaf,qag,qah,qaj,qaa];try simp only[go_sem,seval,Tryz.results94,hPm,hPl])|(with_reducible refine And.intro ?_ ?_)|(with_reducible intro _)|((try rw[qad]);omega)
     refine qcJ (by simp) (by simp only[go_sem,seval]) ?_
     simp only[go_sem,seval]
     rfl
    | some h2=>
     rw[he] at hpa hfs
     obtain⟨q1,-,-⟩:=hex he
     simp only[go_sem,seval,Tryz.results94,hPm,hPl]
     repeat' first|assumption|(simp (disch:=first|assumption|omega|(simp;done)|(simp;omega)) only[qaa,qac,List.take_of_length_le,qab,qae,qaf,qag,qah,qaj,qaa];try simp only[go_sem,seval,Tryz.results94,hPm,hPl])|(with_reducible refine And.intro ?_ ?_)|(with_reducible intro _)|((try rw[qad]);omega)
     refine qax hpa [0] (by simp only[go_sem,seval]) ?_
     rintro r0 H1 ⟨rfl,rfl⟩
     simp only[go_sem,seval,Tryz.results94,hPm,hPl]
     repeat' first|assumption|(simp (disch:=first|assumption|omega|(simp;done)|(simp;omega)) only[qaa,qac,List.take_of_length_le,qab,qae,qaf,qag,qah,qaj,qaa];try simp only[go_sem,seval,Tryz.results94,hPm,hPl])|(with_reducible refine And.intro ?_ ?_)|(with_reducible intro _)|((try rw[qad]);omega)
     exact⟨(m+1,h2),⟨by simp only;omega,q1,hfs⟩,by simp only;omega,rfl,rfl⟩
   ·rw[show rest.take m=rest from List.take_of_length_le (by omega)] at hfo
    rw[hfo]
    simp only[go_sem,seval,Tryz.results94,hPl]
    repeat' first|assumption|(simp (disch:=first|assumption|omega|(simp;done)|(simp;omega)) only[qaa,qac,List.take_of_length_le,qab,qae,qaf,qag,qah,qaj,qaa];try simp only[go_sem,seval,Tryz.results94,hPl])|(with_reducible refine And.intro ?_ ?_)|(with_reducible intro _)|((try rw[qad]);omega)
    refine qcJ (by simp) (by simp only[go_sem,seval]) ?_
    simp only[go_sem,seval]
def netR (net:Int):Option (Nat×List (Int×Int))→D
 | some (t,h)=>dRt ⟨net,(t:Int),h⟩
 | none=>.agg [dI 0,dI 0,.nil]
theorem set_self {α : Type}{l:List α}{i:Nat}{z : α}(h:i<l.length):l.set i (l.getD i z)=l:=by
 refine List.ext_getElem (by simp) fun j h1 h2=>?_
 rw[List.getElem_set]
 split
 ·rename_i e;subst e;simp[List.getD,h]
 ·rfl
theorem Tryz.c_l8Net (g:Nat) (net:Int) (pins:List Int) (busy:List (List Bool)) (hb:BusyOk busy) (hp : ∀ t∈pins,0≤t∧t≤24) (hne:pins≠[]) (hpl:pins.length≤1000) :
  ICall Tryz.prog 73 [.d (dI net),.d (dIs pins),.sl 0 g 1 0 8] [.row g 1 true (busy.map fun x=>dBs x)] (fun r H'=>r=.d (.tup [netR net (netB pins busy 8 0),dB (netB pins busy 8 0).isSome])∧H'=[.row g 1 true (busy.map fun x=>dBs x)]):=by
 have hl:=hb.len
 refine qaJ (E:=Tryz.env 1) Tryz.tok rfl 1000 Tryz.func73 rfl rfl Tryz.ntmps73 (by simp) ?_
 simp only[go_sem,seval,Tryz.results73]
 repeat' first|assumption|(simp (disch:=first|assumption|omega|(simp;done)|(simp;omega)) only[qaa,qac,List.take_of_length_le,qab,qae,qaf,qag,qah,qaj,qaa];try simp only[go_sem,seval,Tryz.results73])|(with_reducible refine And.intro ?_ ?_)|(with_reducible intro _)|((try rw[qad]);omega)
 refine qaq (E:=Tryz.env 1) Tryz.tok (σ:=Nat) (fun t=>[(0,.d (dI net)),(1,.d (dIs pins)),(2,.sl 0 g 1 0 8),(6,.ptr 1 0),(7,.d (dB false)),(8,.d (dI t))]) (fun s=>[.row g 1 true (busy.map fun x=>dBs x),.box [.d (dI 0),.d (dI 0),.d .nil]]) (fun t=>t≤8∧netB pins busy (8-t) t=netB pins busy 8 0) (fun t=>8-t) [] [] 1000 1000 ?_ ?_
 ·simp only[go_sem,seval]
  exact⟨0,⟨by omega,rfl⟩,rfl⟩
 ·rintro t ⟨ht,hn⟩
  by_cases htt:t<8
  ·have hrl:=hb.row t htt
   have htr:=Tryz.c_l8Tree 1 pins (busy.getD t []) (hb.row t htt) hp hne hpl
   have hst:netB pins busy (8-t) t=match qea (busy.getD t []) pins with|some h=>some (t,h)|none=>netB pins busy (8-(t+1)) (t+1):=by
    rw[show 8-t=(8-(t+1))+1 by omega];rfl
   rw[hn] at hst
   cases he:qea (busy.getD t []) pins with
   | none=>
    rw[he] at hst htr
    simp only at hst
    simp only[go_sem,seval,Tryz.results73]
    repeat' first|assumption|(simp (disch:=first|assumption|omega|(simp;done)|(simp;omega)) only[qaa,qac,List.take_of_length_le,qab,qae,qaf,qag,qah,qaj,qaa];try simp only[go_sem,seval,Tryz.results73,hrl])|(with_reducible refine And.intro ?_ ?_)|(with_reducible intro _)|((try rw[qad]);omega)
    refine qax htr [2] (by simp only[go_sem,seval]) ?_
    rintro r0 H1 ⟨rfl,rfl⟩
    simp only[go_sem,seval,Tryz.results73,hrl]
    repeat' first|assumption|(simp (disch:=first|assumption|omega|(simp;done)|(simp;omega)) only[qaa,qac,List.take_of_length_le,qab,qae,qaf,qag,qah,qaj,qaa];try simp only[go_sem,seval,Tryz.results73,hrl])|(with_reducible refine And.intro ?_ ?_)|(with_reducible intro _)|((try rw[qad]);omega)
    refine⟨t+1,⟨by omega,hst.symm⟩,by omega,rfl,?_⟩
    exact(qeD (f:=fun x=>dBs x)).trans (by rw[set_self (by omega)])
   | some h=>
    rw[he] at hst htr
    simp only at hst
    rw[hst]
    simp only[go_sem,seval,Tryz.results73]
    repeat' first|assumption|(simp (disch:=first|assumption|omega|(simp;done)|(simp;omega)) only[qaa,qac,List.take_of_length_le,qab,qae,qaf,qag,qah,qaj,qaa];try simp only[go_sem,seval,Tryz.results73,hrl])|(with_reducible refine And.intro ?_ ?_)|(with_reducible intro _)|((try rw[qad]);omega)
    refine qax htr [2] (by simp only[go_sem,seval]) ?_
    rintro r0 H1 ⟨rfl,rfl⟩
    simp only[go_sem,seval,Tryz.results73,hrl]
    repeat' first|assumption|(simp (disch:=first|assumption|omega|(simp;done)|(simp;omega)) only[qaa,qac,List.take_of_length_le,qab,qae,qaf,qag,qah,qaj,qaa];try simp only[go_sem,seval,Tryz.results73,hrl])|(with_reducible refine And.intro ?_ ?_)|(with_reducible intro _)|((try rw[qad]);omega)
    have hpc:putC 1 (busy.map fun x=>dBs x) t 0 (D.lst 1 ((busy.getD t []).map D.bool))=busy.map fun x=>dBs x:=(qeD (f:=fun x=>dBs x)).trans (by rw[set_self (by omega)])
    have htk:List.take 25 ((busy.getD t []).map D.bool)=(busy.getD t []).map D.bool:=List.take_of_length_le (by rw[List.length_map];omega)
    refine qnA ?_
    simp only[go_sem,seval,Tryz.results73,hpc,htk]
    refine⟨by omega,?_⟩
    refine qcJ (by simp) (by simp only[go_sem,seval]) ?_
    simp only[go_sem,seval]
    rfl
  ·obtain rfl:t=8:=by omega
   have e:netB pins busy 8 0=none:=hn.symm
   rw[e]
   simp only[go_sem,seval,Tryz.results73]
   repeat' first|assumption|(simp (disch:=first|assumption|omega|(simp;done)|(simp;omega)) only[qaa,qac,List.take_of_length_le,qab,qae,qaf,qag,qah,qaj,qaa];try simp only[go_sem,seval,Tryz.results73])|(with_reducible refine And.intro ?_ ?_)|(with_reducible intro _)|((try rw[qad]);omega)
   refine qcJ (by simp) (by simp only[go_sem,seval]) ?_
   simp only[go_sem,seval]
   rfl
end Go.Proofs
