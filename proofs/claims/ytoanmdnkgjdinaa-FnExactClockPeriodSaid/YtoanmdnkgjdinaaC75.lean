/- Contracts, plain definitions and lemmas. Conditions: none; lemmas. -/
import Derived.Test.YtoanmdnkgjdinaaD9
import Derived.Test.YtoanmdnkgjdinaaD3
import Derived.Test.YtoanmdnkgjdinaaC10
set_option maxRecDepth 20000
set_option linter.unusedVariables false
set_option linter.unusedSimpArgs false
namespace Go.Proofs
open Go Go.VL
def qqx (busy:List (List Bool)) (o:Option (List (Int×Int))) (r:I) (H':List R):Prop:=
 match o with
 | none=>r=.tup [.d .nil,.d (dB false)]∧H'=[.box (bx (qca busy))]
 | some h=>∃ g,r=.tup [.sl 1 g 2 0 h.length,.d (dB true)]∧H'=[.box (bx (qca busy)),.row g 2 true (h.map fun x=>dP x)]
theorem Try.c_tree (busy:List (List Bool)) (tiles:List Int) (u:Nat) (hu:u<8) (hne:tiles≠[]) (hr : ∀ t∈tiles,0≤t∧t≤24) (htl:tiles.length≤1000) :
  ICall Try.prog 82 [.ptr 0 0,.d (dIs tiles),.d (dI u)] [.box (bx (qca busy))] (qqx busy (qen (busy.getD u []) tiles)):=by
 obtain⟨t0,l,rfl⟩ : ∃ t0 l,tiles=t0::l:=by
  cases tiles with
  | nil=>exact absurd rfl hne
  | cons t0 l=>exact⟨t0,l,rfl⟩
 have h0:=hr t0 (by simp)
 have hl:l.length≤1000:=by simp at htl;omega
 have hT:qen (busy.getD u []) (t0::l)=if(busy.getD u []).getD t0.toNat false=true then none else l.foldl (fun o t=>o.bind fun hops=>qaM (busy.getD u []) hops t) (some [(t0,-1)]):=rfl
 have hbx:(bx (qca busy)).getD (t0.toNat*8+u) I.junk=.d (.bool ((busy.getD u []).getD t0.toNat false)):=by
  rw[qaJ (by rw[qaY];omega),qkJ (by omega) hu]
 rw[hT]
 refine qaF (E:=Try.env 1) Try.tok rfl 1000 Try.func82 rfl rfl Try.ntmps82 (by simp) ?_
 simp only[go_sem,seval,Try.results82,hbx,Nat.mul_one,qaY]
 repeat' first|assumption|(simp (disch:=first|assumption|omega|(simp;done)|(simp;omega)) only[qaa,qac,List.take_of_length_le,qab,qaJ,qae,qaf,qag,qah,qas];try simp only[go_sem,seval,Try.results82,hbx,Nat.mul_one,qaY])|(with_reducible refine And.intro ?_ ?_)|(with_reducible intro _)|((with_reducible (show Region.lexB _ _=true));kernel_rfl)|((try rw[qad]);omega)
 ·rename_i hb
  rw[if_pos hb]
  exact qbB ⟨rfl,rfl⟩
 rename_i hb
 rw[if_neg (by rw[hb];simp)]
 have base:TreeOk (busy.getD u []) [(t0,-1)]:=by
  refine⟨fun x hx=>?_,by simp[qaq],fun x hx=>?_,by simp,fun j hj=>?_⟩
  ·obtain rfl:x=(t0,-1):=by simpa using hx
   exact h0
  ·obtain rfl:x=(t0,-1):=by simpa using hx
   simpa using hb
  ·obtain rfl:j=0:=by simpa using hj
   exact .inl ⟨rfl,rfl⟩
 have hrl : ∀ t∈l,0≤t∧t≤24:=fun t ht=>hr t (by simp[ht])
 refine qao (E:=Try.env 1) Try.tok (σ:=Nat×Nat×List (Int×Int)) (fun s=>[(0,.ptr 0 0),(2,.d (dI u)),(8,.sl 1 s.2.1 2 0 s.2.2.length),(29,.d (dIs l)),(30,.d (dI l.length)),(31,.d (dI s.1))])
  (fun s=>[.box (bx (qca busy)),.row s.2.1 2 true (s.2.2.map fun x=>dP x)]) (fun s=>s.1≤l.length∧TreeOk (busy.getD u []) s.2.2∧(l.take s.1).foldl (fun o t=>o.bind fun hops=>qaM (busy.getD u []) hops t) (some [(t0,-1)])=some s.2.2) (fun s=>l.length-s.1) [] [] 1000 1000 ?_ ?_
 ·simp only[go_sem,seval]
  exact⟨(0,0,[(t0,-1)]),⟨by simp,base,by simp⟩,by simp⟩
 ·rintro⟨i,g,hops⟩ ⟨hi,ht,hf⟩
  simp only at hi ht hf
  have hhl:=qdf ht
  by_cases hlt:i<l.length
  ·have hfs:=qaC (f:=fun(o:Option (List (Int×Int))) (t:Int)=>o.bind fun hops=>qaM (busy.getD u []) hops t) (b:=some [(t0,-1)]) (0:Int) hlt
   rw[hf,Option.bind_some] at hfs
   have htr:=hrl _ (qal hlt:l.getD i 0∈l)
   generalize hx9:l.getD i 0=x at *
   have hpa:=Try.c_path g busy hops x u hu ht htr
   have hdrop:l.foldl (fun o t=>o.bind fun hops=>qaM (busy.getD u []) hops t) (some [(t0,-1)])=(l.drop (i+1)).foldl (fun o t=>o.bind fun hops=>qaM (busy.getD u []) hops t) (qaM (busy.getD u []) hops x):=by
    conv=>lhs;rw[←List.take_append_drop (i+1) l]
    rw[List.foldl_append,hfs]
   simp only[go_sem,seval,Try.results82,hx9]
   repeat' first|assumption|(simp (disch:=first|assumption|omega|(simp;done)|(simp;omega)) only[qaa,qac,List.take_of_length_le,qab,qaJ,qae,qaf,qag,qah,qas];try simp only[go_sem,seval,Try.results82,hx9])|(with_reducible refine And.intro ?_ ?_)|(with_reducible intro _)|((with_reducible (show Region.lexB _ _=true));kernel_rfl)|((try rw[qad]);omega)
   refine qar hpa [0,1] (by simp only[go_sem,seval]) ?_
   rintro r0 H1 ⟨rfl,rfl⟩
   cases hex:qaM (busy.getD u []) hops x with
   | none=>
    rw[hex,qgg] at hdrop
    rw[hdrop]
    simp only[go_sem,seval,Try.results82]
    repeat' first|assumption|(simp (disch:=first|assumption|omega|(simp;done)|(simp;omega)) only[qaa,qac,List.take_of_length_le,qab,qaJ,qae,qaf,qag,qah,qas];try simp only[go_sem,seval,Try.results82])|(with_reducible refine And.intro ?_ ?_)|(with_reducible intro _)|((with_reducible (show Region.lexB _ _=true));kernel_rfl)|((try rw[qad]);omega)
    refine qa8 (r0:=.tup [.d .nil,.d (dB false)]) (H1:=[.box (bx (qca busy))]) ?_ ⟨rfl,rfl⟩
    simp only[go_sem,seval]
   | some h2=>
    obtain⟨a1,a2,r1,a3⟩:=qgf ht htr hex
    have hl2:=qdf a1
    rw[hex] at hfs
    subst a3
    simp only[go_sem,seval,Try.results82,Option.getD_some,List.drop_left]
    repeat' first|assumption|(simp (disch:=first|assumption|omega|(simp;done)|(simp;omega)) only[qaa,qac,List.take_of_length_le,qab,qaJ,qae,qaf,qag,qah,qas];try simp only[go_sem,seval,Try.results82,Option.getD_some,List.drop_left])|(with_reducible refine And.intro ?_ ?_)|(with_reducible intro _)|((with_reducible (show Region.lexB _ _=true));kernel_rfl)|((try rw[qad]);omega)
    ·have hll:(hops++r1).length=hops.length+r1.length:=List.length_append ..
     omega
    ·refine⟨(i+1,g+1,hops++r1),⟨by simp only;omega,a1,hfs⟩,by simp only;omega,⟨⟨rfl,by simp⟩,rfl⟩,rfl,rfl⟩
  ·obtain rfl:i=l.length:=by omega
   rw[List.take_length] at hf
   rw[hf]
   simp only[go_sem,seval,Try.results82]
   repeat' first|assumption|(simp (disch:=first|assumption|omega|(simp;done)|(simp;omega)) only[qaa,qac,List.take_of_length_le,qab,qaJ,qae,qaf,qag,qah,qas];try simp only[go_sem,seval,Try.results82])|(with_reducible refine And.intro ?_ ?_)|(with_reducible intro _)|((with_reducible (show Region.lexB _ _=true));kernel_rfl)|((try rw[qad]);omega)
   exact qbB ⟨_,rfl,rfl⟩
end Go.Proofs

set_option maxRecDepth 20000
set_option linter.unusedVariables false
set_option linter.unusedSimpArgs false
namespace Go.Proofs
open Go Go.VL
theorem qkP {α β : Type}{f : β→α→Option β} : ∀ (l:List α),l.foldl (fun o t=>o.bind fun h=>f h t) (none:Option β)=none
 | []=>rfl
 | x::l=>qkP l
theorem Try.c_l8Tree (g:Nat) (pins:List Int) (busy:List Bool) (hb:busy.length=25) (hp : ∀ t∈pins,0≤t∧t≤24) (hne:pins≠[]) (hpl:pins.length≤1000) :
  ICall Try.prog 88 [.d (dIs pins),.sl 0 g 1 0 25] [.row g 1 true (busy.map D.bool)] (fun r H'=>r=.d (.tup [dPs ((qen busy pins).getD []),dB (qen busy pins).isSome])∧H'=[.row g 1 true (busy.map D.bool)]):=by
 obtain⟨p0,rest,rfl⟩ : ∃ p0 rest,pins=p0::rest:=by
  cases pins with
  | nil=>exact absurd rfl hne
  | cons a l=>exact⟨a,l,rfl⟩
 have hp0:=hp p0 (by simp)
 have htd:qen busy (p0::rest)=if busy.getD p0.toNat false=true then none else rest.foldl (fun o t=>o.bind fun hops=>qaM busy hops t) (some [(p0,-1)]):=rfl
 have hg0:(p0::rest).getD 0 0=p0:=rfl
 by_cases hbz:busy.getD p0.toNat false=true
 ·rw[if_pos hbz] at htd
  rw[htd]
  refine qaF (E:=Try.env 1) Try.tok rfl 1000 Try.func88 rfl rfl Try.ntmps88 (by simp) ?_
  simp only[go_sem,seval,Try.results88,hg0,hbz]
  repeat' first|assumption|(simp (disch:=first|assumption|omega|(simp;done)|(simp;omega)) only[qaa,qac,List.take_of_length_le,qab,qae,qaf,qag,qah,qak,qaa];try simp only[go_sem,seval,Try.results88,hg0,hbz])|(with_reducible refine And.intro ?_ ?_)|(with_reducible intro _)|((try rw[qad]);omega)
  refine qcA (by simp) (by simp only[go_sem,seval]) ?_
  simp only[go_sem,seval]
  rfl
 ·rw[if_neg hbz] at htd
  rw[Bool.not_eq_true] at hbz
  have base:TreeOk busy [(p0,-1)]:=by
   refine⟨fun x hx=>?_,by simp[qaq],fun x hx=>?_,by simp,fun j hj=>?_⟩
   ·obtain rfl:x=(p0,-1):=by simpa using hx
    exact hp0
   ·obtain rfl:x=(p0,-1):=by simpa using hx
    exact hbz
   ·obtain rfl:j=0:=by simpa using hj
    exact .inl ⟨rfl,rfl⟩
  refine qaF (E:=Try.env 1) Try.tok rfl 1000 Try.func88 rfl rfl Try.ntmps88 (by simp) ?_
  simp only[go_sem,seval,Try.results88,hg0,hbz]
  repeat' first|assumption|(simp (disch:=first|assumption|omega|(simp;done)|(simp;omega)) only[qaa,qac,List.take_of_length_le,qab,qae,qaf,qag,qah,qak,qaa];try simp only[go_sem,seval,Try.results88,hg0,hbz])|(with_reducible refine And.intro ?_ ?_)|(with_reducible intro _)|((try rw[qad]);omega)
  rw[htd]
  generalize hP9:p0::rest=P at *
  have hPl:P.length=rest.length+1:=by rw[←hP9];rfl
  have hPg : ∀ m,P.getD (m+1) 0=rest.getD m 0:=fun m=>by rw[←hP9];rfl
  refine qao (E:=Try.env 1) Try.tok (σ:=Nat×List (Int×Int)) (fun s=>[(0,.d (dIs P)),(1,.sl 0 g 1 0 25),(6,.d (dPs s.2)),(7,.d (dI ((s.1+1:Nat):Int)))]) (fun s=>[.row g 1 true (busy.map D.bool)])
   (fun s=>s.1≤rest.length∧TreeOk busy s.2∧(rest.take s.1).foldl (fun o t=>o.bind fun hops=>qaM busy hops t) (some [(p0,-1)])=some s.2) (fun s=>rest.length-s.1) [] [] 1000 1000 ?_ ?_
  ·simp only[go_sem,seval]
   exact⟨(0,[(p0,-1)]),⟨by simp,base,rfl⟩,by simp⟩
  ·rintro⟨m,hops⟩ ⟨hm,hT,hfo⟩
   simp only at hm hT hfo
   by_cases hmt:m<rest.length
   ·have hrm:rest.getD m 0∈rest:=qal hmt
    have hrr:=hp _ (by rw[←hP9];exact List.mem_cons_of_mem _ hrm)
    have hpa:=Try.c_l8Path g hops (rest.getD m 0) busy hb hT hrr
    have hfs:=qaC (f:=fun(o:Option (List (Int×Int))) (t:Int)=>o.bind fun hops=>qaM busy hops t) (b:=some [(p0,-1)]) (0:Int) hmt
    rw[hfo] at hfs
    simp only[Option.bind_some] at hfs
    have hex:=@qgf busy hops hT (rest.getD m 0) hrr
    have hsplit:rest.foldl (fun o t=>o.bind fun hops=>qaM busy hops t) (some [(p0,-1)])=(rest.drop (m+1)).foldl (fun o t=>o.bind fun hops=>qaM busy hops t) ((rest.take (m+1)).foldl (fun o t=>o.bind fun hops=>qaM busy hops t) (some [(p0,-1)])):=by
     rw[←List.foldl_append,List.take_append_drop]
    have hPm:=hPg m
    generalize rest.getD m 0=x at *
    cases he:qaM busy hops x with
    | none=>
     rw[he] at hpa hfs
     rw[hsplit,hfs,qkP]
     simp only[go_sem,seval,Try.results88,hPm,hPl]
     repeat' first|assumption|(simp (disch:=first|assumption|omega|(simp;done)|(simp;omega)) only[qaa,qac,List.take_of_length_le,qab,qae,qaf,qag,qah,qak,qaa];try simp only[go_sem,seval,Try.results88,hPm,hPl])|(with_reducible refine And.intro ?_ ?_)|(with_reducible intro _)|((try rw[qad]);omega)
     refine qar hpa [0] (by simp only[go_sem,seval]) ?_
     rintro r0 H1 ⟨rfl,rfl⟩
     simp only[go_sem,seval,Try.results88,hPm,hPl]
     repeat' first|assumption|(simp (disch:=first|assumption|omega|(simp;done)|(simp;omega)) only[qaa,qac,List.take_of_length_le,qab,qae,qaf,qag,qah,qak,qaa];try simp only[go_sem,seval,Try.results88,hPm,hPl])|(with_reducible refine And.intro ?_ ?_)|(with_reducible intro _)|((try rw[qad]);omega)
     refine qcA (by simp) (by simp only[go_sem,seval]) ?_
     simp only[go_sem,seval]
     rfl
    | some h2=>
     rw[he] at hpa hfs
     obtain⟨q1,-,-⟩:=hex he
     simp only[go_sem,seval,Try.results88,hPm,hPl]
     repeat' first|assumption|(simp (disch:=first|assumption|omega|(simp;done)|(simp;omega)) only[qaa,qac,List.take_of_length_le,qab,qae,qaf,qag,qah,qak,qaa];try simp only[go_sem,seval,Try.results88,hPm,hPl])|(with_reducible refine And.intro ?_ ?_)|(with_reducible intro _)|((try rw[qad]);omega)
     refine qar hpa [0] (by simp only[go_sem,seval]) ?_
     rintro r0 H1 ⟨rfl,rfl⟩
     simp only[go_sem,seval,Try.results88,hPm,hPl]
     repeat' first|assumption|(simp (disch:=first|assumption|omega|(simp;done)|(simp;omega)) only[qaa,qac,List.take_of_length_le,qab,qae,qaf,qag,qah,qak,qaa];try simp only[go_sem,seval,Try.results88,hPm,hPl])|(with_reducible refine And.intro ?_ ?_)|(with_reducible intro _)|((try rw[qad]);omega)
     exact⟨(m+1,h2),⟨by simp only;omega,q1,hfs⟩,by simp only;omega,rfl,rfl⟩
   ·rw[show rest.take m=rest from List.take_of_length_le (by omega)] at hfo
    rw[hfo]
    simp only[go_sem,seval,Try.results88,hPl]
    repeat' first|assumption|(simp (disch:=first|assumption|omega|(simp;done)|(simp;omega)) only[qaa,qac,List.take_of_length_le,qab,qae,qaf,qag,qah,qak,qaa];try simp only[go_sem,seval,Try.results88,hPl])|(with_reducible refine And.intro ?_ ?_)|(with_reducible intro _)|((try rw[qad]);omega)
    refine qcA (by simp) (by simp only[go_sem,seval]) ?_
    simp only[go_sem,seval]
def netR (net:Int):Option (Nat×List (Int×Int))→D
 | some (t,h)=>dRt ⟨net,(t:Int),h⟩
 | none=>.agg [dI 0,dI 0,.nil]
theorem set_self {α : Type}{l:List α}{i:Nat}{z : α}(h:i<l.length):l.set i (l.getD i z)=l:=by
 refine List.ext_getElem (by simp) fun j h1 h2=>?_
 rw[List.getElem_set]
 split
 ·rename_i e;subst e;simp[List.getD,h]
 ·rfl
theorem Try.c_l8Net (g:Nat) (net:Int) (pins:List Int) (busy:List (List Bool)) (hb:BusyOk busy) (hp : ∀ t∈pins,0≤t∧t≤24) (hne:pins≠[]) (hpl:pins.length≤1000) :
  ICall Try.prog 71 [.d (dI net),.d (dIs pins),.sl 0 g 1 0 8] [.row g 1 true (busy.map fun x=>dBs x)] (fun r H'=>r=.d (.tup [netR net (netB pins busy 8 0),dB (netB pins busy 8 0).isSome])∧H'=[.row g 1 true (busy.map fun x=>dBs x)]):=by
 have hl:=hb.len
 refine qaF (E:=Try.env 1) Try.tok rfl 1000 Try.func71 rfl rfl Try.ntmps71 (by simp) ?_
 simp only[go_sem,seval,Try.results71]
 repeat' first|assumption|(simp (disch:=first|assumption|omega|(simp;done)|(simp;omega)) only[qaa,qac,List.take_of_length_le,qab,qae,qaf,qag,qah,qak,qaa];try simp only[go_sem,seval,Try.results71])|(with_reducible refine And.intro ?_ ?_)|(with_reducible intro _)|((try rw[qad]);omega)
 refine qao (E:=Try.env 1) Try.tok (σ:=Nat) (fun t=>[(0,.d (dI net)),(1,.d (dIs pins)),(2,.sl 0 g 1 0 8),(6,.ptr 1 0),(7,.d (dB false)),(8,.d (dI t))]) (fun s=>[.row g 1 true (busy.map fun x=>dBs x),.box [.d (dI 0),.d (dI 0),.d .nil]]) (fun t=>t≤8∧netB pins busy (8-t) t=netB pins busy 8 0) (fun t=>8-t) [] [] 1000 1000 ?_ ?_
 ·simp only[go_sem,seval]
  exact⟨0,⟨by omega,rfl⟩,rfl⟩
 ·rintro t ⟨ht,hn⟩
  by_cases htt:t<8
  ·have hrl:=hb.row t htt
   have htr:=Try.c_l8Tree 1 pins (busy.getD t []) (hb.row t htt) hp hne hpl
   have hst:netB pins busy (8-t) t=match qen (busy.getD t []) pins with|some h=>some (t,h)|none=>netB pins busy (8-(t+1)) (t+1):=by
    rw[show 8-t=(8-(t+1))+1 by omega];rfl
   rw[hn] at hst
   cases he:qen (busy.getD t []) pins with
   | none=>
    rw[he] at hst htr
    simp only at hst
    simp only[go_sem,seval,Try.results71]
    repeat' first|assumption|(simp (disch:=first|assumption|omega|(simp;done)|(simp;omega)) only[qaa,qac,List.take_of_length_le,qab,qae,qaf,qag,qah,qak,qaa];try simp only[go_sem,seval,Try.results71,hrl])|(with_reducible refine And.intro ?_ ?_)|(with_reducible intro _)|((try rw[qad]);omega)
    refine qar htr [2] (by simp only[go_sem,seval]) ?_
    rintro r0 H1 ⟨rfl,rfl⟩
    simp only[go_sem,seval,Try.results71,hrl]
    repeat' first|assumption|(simp (disch:=first|assumption|omega|(simp;done)|(simp;omega)) only[qaa,qac,List.take_of_length_le,qab,qae,qaf,qag,qah,qak,qaa];try simp only[go_sem,seval,Try.results71,hrl])|(with_reducible refine And.intro ?_ ?_)|(with_reducible intro _)|((try rw[qad]);omega)
    refine⟨t+1,⟨by omega,hst.symm⟩,by omega,rfl,?_⟩
    exact(qhU (f:=fun x=>dBs x)).trans (by rw[set_self (by omega)])
   | some h=>
    rw[he] at hst htr
    simp only at hst
    rw[hst]
    simp only[go_sem,seval,Try.results71]
    repeat' first|assumption|(simp (disch:=first|assumption|omega|(simp;done)|(simp;omega)) only[qaa,qac,List.take_of_length_le,qab,qae,qaf,qag,qah,qak,qaa];try simp only[go_sem,seval,Try.results71,hrl])|(with_reducible refine And.intro ?_ ?_)|(with_reducible intro _)|((try rw[qad]);omega)
    refine qar htr [2] (by simp only[go_sem,seval]) ?_
    rintro r0 H1 ⟨rfl,rfl⟩
    simp only[go_sem,seval,Try.results71,hrl]
    repeat' first|assumption|(simp (disch:=first|assumption|omega|(simp;done)|(simp;omega)) only[qaa,qac,List.take_of_length_le,qab,qae,qaf,qag,qah,qak,qaa];try simp only[go_sem,seval,Try.results71,hrl])|(with_reducible refine And.intro ?_ ?_)|(with_reducible intro _)|((try rw[qad]);omega)
    have hpc:putC 1 (busy.map fun x=>dBs x) t 0 (D.lst 1 ((busy.getD t []).map D.bool))=busy.map fun x=>dBs x:=(qhU (f:=fun x=>dBs x)).trans (by rw[set_self (by omega)])
    have htk:List.take 25 ((busy.getD t []).map D.bool)=(busy.getD t []).map D.bool:=List.take_of_length_le (by rw[List.length_map];omega)
    refine qn4 ?_
    simp only[go_sem,seval,Try.results71,hpc,htk]
    refine⟨by omega,?_⟩
    refine qcA (by simp) (by simp only[go_sem,seval]) ?_
    simp only[go_sem,seval]
    rfl
  ·obtain rfl:t=8:=by omega
   have e:netB pins busy 8 0=none:=hn.symm
   rw[e]
   simp only[go_sem,seval,Try.results71]
   repeat' first|assumption|(simp (disch:=first|assumption|omega|(simp;done)|(simp;omega)) only[qaa,qac,List.take_of_length_le,qab,qae,qaf,qag,qah,qak,qaa];try simp only[go_sem,seval,Try.results71])|(with_reducible refine And.intro ?_ ?_)|(with_reducible intro _)|((try rw[qad]);omega)
   refine qcA (by simp) (by simp only[go_sem,seval]) ?_
   simp only[go_sem,seval]
   rfl
end Go.Proofs
