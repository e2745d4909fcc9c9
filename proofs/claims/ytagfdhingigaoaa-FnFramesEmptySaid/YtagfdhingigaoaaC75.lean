/- Contracts: the reference's trees and routes. Conditions: none; lemmas. -/
import Derived.Test.YtagfdhingigaoaaC74
set_option maxRecDepth 20000
set_option linter.unusedVariables false
set_option linter.unusedSimpArgs false
namespace Go.Proofs
open Go Go.VL
theorem qi9 {α β : Type}{f : β→α→Option β} : ∀ (l:List α),l.foldl (fun o t=>o.bind fun h=>f h t) (none:Option β)=none
 | []=>rfl
 | x::l=>qi9 l
theorem Try.c_l8Tree (g:Nat) (pins:List Int) (busy:List Bool) (hb:busy.length=25) (hp : ∀ t∈pins,0≤t∧t≤24) (hne:pins≠[]) (hpl:pins.length≤1000) :
  ICall Try.prog 59 [.d (dIs pins),.sl 0 g 1 0 25] [.row g 1 true (busy.map D.bool)] (fun r H'=>r=.d (.tup [dPs ((qha busy pins).getD []),dB (qha busy pins).isSome])∧H'=[.row g 1 true (busy.map D.bool)]):=by
 obtain⟨p0,rest,rfl⟩ : ∃ p0 rest,pins=p0::rest:=by
  cases pins with
  | nil=>exact absurd rfl hne
  | cons a l=>exact⟨a,l,rfl⟩
 have hp0:=hp p0 (by simp)
 have htd:qha busy (p0::rest)=if busy.getD p0.toNat false=true then none else rest.foldl (fun o t=>o.bind fun hops=>qbs busy hops t) (some [(p0,-1)]):=rfl
 have hg0:(p0::rest).getD 0 0=p0:=rfl
 by_cases hbz:busy.getD p0.toNat false=true
 ·rw[if_pos hbz] at htd
  rw[htd]
  refine qco (E:=Try.env 1) Try.tok rfl 1000 Try.func59 rfl rfl Try.ntmps59 (by simp) ?_
  simp only[go_sem,seval,Try.results59,hg0,hbz]
  repeat' first|assumption|(simp (disch:=first|assumption|omega|(simp;done)|(simp;omega)) only[qaq,List.take_of_length_le,qaq];try simp only[go_sem,seval,Try.results59,hg0,hbz])|(with_reducible first|apply And.intro|intro _)|(refine qac ?_;simp only[go_sem,seval,Try.results59,hg0,hbz])|exact lexT|((try rw[qaa]);omega)
  refine qcR (by simp) (by simp only[go_sem,seval]) ?_
  simp only[go_sem,seval]
  rfl
 ·rw[if_neg hbz] at htd
  rw[Bool.not_eq_true] at hbz
  have base:TreeOk busy [(p0,-1)]:=by
   refine⟨fun x hx=>?_,by simp[qaA],fun x hx=>?_,by simp,fun j hj=>?_⟩
   ·obtain rfl:x=(p0,-1):=by simpa using hx
    exact hp0
   ·obtain rfl:x=(p0,-1):=by simpa using hx
    exact hbz
   ·obtain rfl:j=0:=by simpa using hj
    exact .inl ⟨rfl,rfl⟩
  refine qco (E:=Try.env 1) Try.tok rfl 1000 Try.func59 rfl rfl Try.ntmps59 (by simp) ?_
  simp only[go_sem,seval,Try.results59,hg0,hbz]
  repeat' first|assumption|(simp (disch:=first|assumption|omega|(simp;done)|(simp;omega)) only[qaq,List.take_of_length_le,qaq];try simp only[go_sem,seval,Try.results59,hg0,hbz])|(with_reducible first|apply And.intro|intro _)|(refine qac ?_;simp only[go_sem,seval,Try.results59,hg0,hbz])|exact lexT|((try rw[qaa]);omega)
  rw[htd]
  generalize hP9:p0::rest=P at *
  have hPl:P.length=rest.length+1:=by rw[←hP9];rfl
  have hPg : ∀ m,P.getD (m+1) 0=rest.getD m 0:=fun m=>by rw[←hP9];rfl
  refine qas (E:=Try.env 1) Try.tok (σ:=Nat×List (Int×Int)) (fun s=>[(0,.d (dIs P)),(1,.sl 0 g 1 0 25),(6,.d (dPs s.2)),(7,.d (dI ((s.1+1:Nat):Int)))]) (fun s=>[.row g 1 true (busy.map D.bool)])
   (fun s=>s.1≤rest.length∧TreeOk busy s.2∧(rest.take s.1).foldl (fun o t=>o.bind fun hops=>qbs busy hops t) (some [(p0,-1)])=some s.2) (fun s=>rest.length-s.1) [] [] 1000 1000 ?_ ?_
  ·simp only[go_sem,seval]
   exact⟨(0,[(p0,-1)]),⟨by simp,base,rfl⟩,by simp⟩
  ·rintro⟨m,hops⟩ ⟨hm,hT,hfo⟩
   simp only at hm hT hfo
   by_cases hmt:m<rest.length
   ·have hrm:rest.getD m 0∈rest:=qan hmt
    have hrr:=hp _ (by rw[←hP9];exact List.mem_cons_of_mem _ hrm)
    have hpa:=Try.c_l8Path g hops (rest.getD m 0) busy hb hT hrr
    have hfs:=qaR (f:=fun(o:Option (List (Int×Int))) (t:Int)=>o.bind fun hops=>qbs busy hops t) (b:=some [(p0,-1)]) (0:Int) hmt
    rw[hfo] at hfs
    simp only[Option.bind_some] at hfs
    have hex:=@qi5 busy hops hT (rest.getD m 0) hrr
    have hsplit:rest.foldl (fun o t=>o.bind fun hops=>qbs busy hops t) (some [(p0,-1)])=(rest.drop (m+1)).foldl (fun o t=>o.bind fun hops=>qbs busy hops t) ((rest.take (m+1)).foldl (fun o t=>o.bind fun hops=>qbs busy hops t) (some [(p0,-1)])):=by
     rw[←List.foldl_append,List.take_append_drop]
    have hPm:=hPg m
    generalize rest.getD m 0=x at *
    cases he:qbs busy hops x with
    | none=>
     rw[he] at hpa hfs
     rw[hsplit,hfs,qi9]
     simp only[go_sem,seval,Try.results59,hPm,hPl]
     repeat' first|assumption|(simp (disch:=first|assumption|omega|(simp;done)|(simp;omega)) only[qaq,List.take_of_length_le,qaq];try simp only[go_sem,seval,Try.results59,hPm,hPl])|(with_reducible first|apply And.intro|intro _)|(refine qac ?_;simp only[go_sem,seval,Try.results59,hPm,hPl])|exact lexT|((try rw[qaa]);omega)
     refine qaX hpa [0] (by simp only[go_sem,seval]) ?_
     rintro r0 H1 ⟨rfl,rfl⟩
     simp only[go_sem,seval,Try.results59,hPm,hPl]
     repeat' first|assumption|(simp (disch:=first|assumption|omega|(simp;done)|(simp;omega)) only[qaq,List.take_of_length_le,qaq];try simp only[go_sem,seval,Try.results59,hPm,hPl])|(with_reducible first|apply And.intro|intro _)|(refine qac ?_;simp only[go_sem,seval,Try.results59,hPm,hPl])|exact lexT|((try rw[qaa]);omega)
     refine qcR (by simp) (by simp only[go_sem,seval]) ?_
     simp only[go_sem,seval]
     rfl
    | some h2=>
     rw[he] at hpa hfs
     obtain⟨q1,-,-⟩:=hex he
     simp only[go_sem,seval,Try.results59,hPm,hPl]
     repeat' first|assumption|(simp (disch:=first|assumption|omega|(simp;done)|(simp;omega)) only[qaq,List.take_of_length_le,qaq];try simp only[go_sem,seval,Try.results59,hPm,hPl])|(with_reducible first|apply And.intro|intro _)|(refine qac ?_;simp only[go_sem,seval,Try.results59,hPm,hPl])|exact lexT|((try rw[qaa]);omega)
     refine qaX hpa [0] (by simp only[go_sem,seval]) ?_
     rintro r0 H1 ⟨rfl,rfl⟩
     simp only[go_sem,seval,Try.results59,hPm,hPl]
     repeat' first|assumption|(simp (disch:=first|assumption|omega|(simp;done)|(simp;omega)) only[qaq,List.take_of_length_le,qaq];try simp only[go_sem,seval,Try.results59,hPm,hPl])|(with_reducible first|apply And.intro|intro _)|(refine qac ?_;simp only[go_sem,seval,Try.results59,hPm,hPl])|exact lexT|((try rw[qaa]);omega)
     exact⟨(m+1,h2),⟨by simp only;omega,q1,hfs⟩,by simp only;omega,rfl,rfl⟩
   ·rw[show rest.take m=rest from List.take_of_length_le (by omega)] at hfo
    rw[hfo]
    simp only[go_sem,seval,Try.results59,hPl]
    repeat' first|assumption|(simp (disch:=first|assumption|omega|(simp;done)|(simp;omega)) only[qaq,List.take_of_length_le,qaq];try simp only[go_sem,seval,Try.results59,hPl])|(with_reducible first|apply And.intro|intro _)|(refine qac ?_;simp only[go_sem,seval,Try.results59,hPl])|exact lexT|((try rw[qaa]);omega)
    refine qcR (by simp) (by simp only[go_sem,seval]) ?_
    simp only[go_sem,seval]
def netR (net:Int):Option (Nat×List (Int×Int))→D
 | some (t,h)=>dRt ⟨net,(t:Int),h⟩
 | none=>.agg [dI 0,dI 0,.nil]
theorem set_self {α : Type}{l:List α}{i:Nat}{z : α}(h:i<l.length):l.set i (l.getD i z)=l:=by
 refine List.ext_getElem (by simp) fun j h1 h2=>?_
 rw[List.getElem_set]
 split
 ·rename_i e;subst e;simp[List.getD,h]
 ·rfl
theorem Try.c_l8Net (g:Nat) (net:Int) (pins:List Int) (busy:List (List Bool)) (hb:BusyOk busy) (hp : ∀ t∈pins,0≤t∧t≤24) (hne:pins≠[]) (hpl:pins.length≤1000) :
  ICall Try.prog 50 [.d (dI net),.d (dIs pins),.sl 0 g 1 0 8] [.row g 1 true (busy.map fun x=>dBs x)] (fun r H'=>r=.d (.tup [netR net (netB pins busy 8 0),dB (netB pins busy 8 0).isSome])∧H'=[.row g 1 true (busy.map fun x=>dBs x)]):=by
 have hl:=hb.len
 refine qco (E:=Try.env 1) Try.tok rfl 1000 Try.func50 rfl rfl Try.ntmps50 (by simp) ?_
 simp only[go_sem,seval,Try.results50]
 repeat' first|assumption|(simp (disch:=first|assumption|omega|(simp;done)|(simp;omega)) only[qaq,List.take_of_length_le,qaq];try simp only[go_sem,seval,Try.results50])|(with_reducible first|apply And.intro|intro _)|(refine qac ?_;simp only[go_sem,seval,Try.results50])|exact lexT|((try rw[qaa]);omega)
 refine qas (E:=Try.env 1) Try.tok (σ:=Nat) (fun t=>[(0,.d (dI net)),(1,.d (dIs pins)),(2,.sl 0 g 1 0 8),(6,.ptr 1 0),(7,.d (dB false)),(8,.d (dI t))]) (fun s=>[.row g 1 true (busy.map fun x=>dBs x),.box [.d (dI 0),.d (dI 0),.d .nil]]) (fun t=>t≤8∧netB pins busy (8-t) t=netB pins busy 8 0) (fun t=>8-t) [] [] 1000 1000 ?_ ?_
 ·simp only[go_sem,seval]
  exact⟨0,⟨by omega,rfl⟩,rfl⟩
 ·rintro t ⟨ht,hn⟩
  by_cases htt:t<8
  ·have hrl:=hb.row t htt
   have htr:=Try.c_l8Tree 1 pins (busy.getD t []) (hb.row t htt) hp hne hpl
   have hst:netB pins busy (8-t) t=match qha (busy.getD t []) pins with|some h=>some (t,h)|none=>netB pins busy (8-(t+1)) (t+1):=by
    rw[show 8-t=(8-(t+1))+1 by omega];rfl
   rw[hn] at hst
   cases he:qha (busy.getD t []) pins with
   | none=>
    rw[he] at hst htr
    simp only at hst
    simp only[go_sem,seval,Try.results50]
    repeat' first|assumption|(simp (disch:=first|assumption|omega|(simp;done)|(simp;omega)) only[qaq,List.take_of_length_le,qaq];try simp only[go_sem,seval,Try.results50,hrl])|(with_reducible first|apply And.intro|intro _)|(refine qac ?_;simp only[go_sem,seval,Try.results50,hrl])|exact lexT|((try rw[qaa]);omega)
    refine qaX htr [2] (by simp only[go_sem,seval]) ?_
    rintro r0 H1 ⟨rfl,rfl⟩
    simp only[go_sem,seval,Try.results50,hrl]
    repeat' first|assumption|(simp (disch:=first|assumption|omega|(simp;done)|(simp;omega)) only[qaq,List.take_of_length_le,qaq];try simp only[go_sem,seval,Try.results50,hrl])|(with_reducible first|apply And.intro|intro _)|(refine qac ?_;simp only[go_sem,seval,Try.results50,hrl])|exact lexT|((try rw[qaa]);omega)
    refine⟨t+1,⟨by omega,hst.symm⟩,by omega,rfl,?_⟩
    exact(qgI (f:=fun x=>dBs x)).trans (by rw[set_self (by omega)])
   | some h=>
    rw[he] at hst htr
    simp only at hst
    rw[hst]
    simp only[go_sem,seval,Try.results50]
    repeat' first|assumption|(simp (disch:=first|assumption|omega|(simp;done)|(simp;omega)) only[qaq,List.take_of_length_le,qaq];try simp only[go_sem,seval,Try.results50,hrl])|(with_reducible first|apply And.intro|intro _)|(refine qac ?_;simp only[go_sem,seval,Try.results50,hrl])|exact lexT|((try rw[qaa]);omega)
    refine qaX htr [2] (by simp only[go_sem,seval]) ?_
    rintro r0 H1 ⟨rfl,rfl⟩
    simp only[go_sem,seval,Try.results50,hrl]
    repeat' first|assumption|(simp (disch:=first|assumption|omega|(simp;done)|(simp;omega)) only[qaq,List.take_of_length_le,qaq];try simp only[go_sem,seval,Try.results50,hrl])|(with_reducible first|apply And.intro|intro _)|(refine qac ?_;simp only[go_sem,seval,Try.results50,hrl])|exact lexT|((try rw[qaa]);omega)
    have hpc:putC 1 (busy.map fun x=>dBs x) t 0 (D.lst 1 ((busy.getD t []).map D.bool))=busy.map fun x=>dBs x:=(qgI (f:=fun x=>dBs x)).trans (by rw[set_self (by omega)])
    have htk:List.take 25 ((busy.getD t []).map D.bool)=(busy.getD t []).map D.bool:=List.take_of_length_le (by rw[List.length_map];omega)
    refine qmB ?_
    simp only[go_sem,seval,Try.results50,hpc,htk]
    refine⟨by omega,?_⟩
    refine qcR (by simp) (by simp only[go_sem,seval]) ?_
    simp only[go_sem,seval]
    rfl
  ·obtain rfl:t=8:=by omega
   have e:netB pins busy 8 0=none:=hn.symm
   rw[e]
   simp only[go_sem,seval,Try.results50]
   repeat' first|assumption|(simp (disch:=first|assumption|omega|(simp;done)|(simp;omega)) only[qaq,List.take_of_length_le,qaq];try simp only[go_sem,seval,Try.results50])|(with_reducible first|apply And.intro|intro _)|(refine qac ?_;simp only[go_sem,seval,Try.results50])|exact lexT|((try rw[qaa]);omega)
   refine qcR (by simp) (by simp only[go_sem,seval]) ?_
   simp only[go_sem,seval]
   rfl
end Go.Proofs
