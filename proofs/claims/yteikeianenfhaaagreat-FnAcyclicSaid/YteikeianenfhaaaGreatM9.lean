/- Law: configured circuits have no combinational cycle. Conditions: none; lemmas. -/
import Derived.Test.YteikeianenfhaaaGreatM8
set_option maxRecDepth 20000
set_option linter.unusedVariables false
set_option linter.unusedSimpArgs false
set_option maxHeartbeats 2000000
namespace Go.Proofs
open Go Go.VL Tryz
variable {l:List Tcfg}{n i:Nat}{k:Kcfg}
def regT (t:Tcfg):Tcfg:=⟨t.table,t.select,true,t.drive⟩
def regL (l:List Tcfg) (n:Nat):List Tcfg:=(l.take n).map regT++l.drop n
theorem qhT (l:List Tcfg) (n:Nat):(regL l n).length=l.length:=by
 simp only[regL,yaf,yah,yaw,ybp];omega
theorem qnF (h:n<l.length):(regL l n).getD n tc0=l.getD n tc0:=by
 have e:((l.take n).map regT).length=n:=by rw[yah,yaw];omega
 rw[regL,List.getD_eq_getElem?_getD,List.getElem?_append_right (by omega),e,Nat.sub_self,List.getElem?_drop,ybe,<-List.getD_eq_getElem?_getD]
theorem qrX (h:n<l.length):(regL l n).set n (regT (l.getD n tc0))=regL l (n+1):=by
 have e:((l.take n).map regT).length=n:=by rw[yah,yaw];omega
 rw[regL,List.set_append_right _ _ (by omega),e,Nat.sub_self,yaM h,List.set_cons_zero,regL,yaI h,yaA,yap];simp[List.getD,h]
theorem qrY (l:List Tcfg):regL l l.length=l.map regT:=by simp[regL]
def regK (k:Kcfg):Kcfg:=⟨k.tiles.map regT,k.pads⟩
theorem qnG (h:i<k.tiles.length):(regK k).tiles.getD i tc0=regT (k.tiles.getD i tc0):=by simp[regK,List.getD,h]
theorem regK_ok (h:k.ok):(regK k).ok:=by
 refine⟨by show(k.tiles.map regT).length=25;rw[yah];exact h.1,h.2.1,fun i hi=>?_⟩;have hi2:i<k.tiles.length:=by have:i<(k.tiles.map regT).length:=hi;rwa [yah] at this
 rw[qnG hi2];exact h.2.2 i hi2
theorem regK_wf (hk:k.ok) (h:Wf k):Wf (regK k):=by
 intro w hw;have key : ∀ w,Acc (Rel k) w->wOk w->Acc (Rel (regK k)) w:=by
  intro w ha;induction ha with
  | intro w _ ih=>
   intro hw;have hg:=qnG (k:=k) (i:=w.1.toNat) (by have:=hk.1;have:=hw.1;omega);have hd:drv (regK k) w=drv k w:=by unfold drv;rw[hg];rfl
   have hno:=qfr hk hw;have hsub : ∀ x∈qa3 (regK k) w,x∈qa3 k w:=fun x hx=>by
    unfold qa3 at hx ⊢;rw[hd,hg] at hx;split at hx
    ·rename_i h1;rw[if_pos h1];exact hx
    ·rw[if_neg (fun h=>by cases h.2)] at hx;cases hx
   exact⟨_,fun x hx=>ih x (hsub x hx) (hno x (hsub x hx))⟩
 exact key w (h w hw) hw
abbrev emptyK:Kcfg:=⟨List.replicate 25 emptyT,List.replicate 3 (15,false)⟩
theorem qj2 (i:Nat) (h:i<25):emptyK.tiles.getD i tc0=emptyT:=by
 show(List.replicate 25 emptyT).getD i tc0=_
 rw[List.getD_eq_getElem?_getD,List.getElem?_replicate,if_pos h];rfl
theorem qp9:emptyK.ok:=by
 refine⟨by simp,⟨by simp,fun o ho=>?_⟩,fun i hi=>?_⟩
 ·have:(List.replicate 3 ((15:Int),false)).getD o (0,false)=(15,false):=by
   rw[List.getD_eq_getElem?_getD,List.getElem?_replicate,if_pos (by simpa using ho)];rfl
  rw[this];decide
 ·rw[qj2 i (by simpa using hi)];refine Tcfg.ok_iff.2 ⟨by decide,rfl,rfl,?_,?_⟩
  ·intro j hj;have hj3:j<3:=hj;obtain rfl|rfl|rfl:j=0∨j=1∨j=2:=by omega
   all_goals rfl
  ·intro j hj;have hj8:j<8:=hj;have e:emptyT.drive.getD j 0=0:=by
    obtain rfl|rfl|rfl|rfl|rfl|rfl|rfl|rfl:j=0∨j=1∨j=2∨j=3∨j=4∨j=5∨j=6∨j=7:=by omega
    all_goals rfl
   rw[e];simp[qaV]
theorem qqa:Wf emptyK:=by
 intro w hw;refine⟨_,fun x hx=>?_⟩;have hg:=qj2 w.1.toNat (by have:=hw.1;omega);have hd:drv emptyK w=0:=by
  unfold drv;rw[hg];have:=hw.2;obtain h|h|h|h|h|h|h|h:w.2.toNat=0∨w.2.toNat=1∨w.2.toNat=2∨w.2.toNat=3∨w.2.toNat=4∨w.2.toNat=5∨w.2.toNat=6∨w.2.toNat=7:=by omega
  all_goals rw[h];rfl
 unfold Rel qa3 at hx;rw[hd,if_neg (by omega),if_neg (by omega)] at hx;cases hx
theorem qoq {c:Circ}{list:List (Int×Int)}(h:qb4 c list=some k):k.ok/\Wf k:=by
 obtain⟨-,-,rs,R,-,rfl⟩:=qlY h;exact⟨R.ok,R.wf⟩
theorem qnH (h:i<l.length) {d:D}(hd:d=dTc (regT (l.getD i tc0))):(List.map (fun x=>dTc x) (regL l i)).set i d=List.map (fun x=>dTc x) (regL l (i+1)):=by
 rw[hd,<-qrX h,ybj]
theorem qqb (l:List Tcfg):List.take l.length (List.map (fun x=>dTc x) (regL l l.length))=List.map (fun x=>dTc x) (l.map regT):=by
 rw[qrY,yaa (by simp)]
theorem tc_nsc (h:0<l.length):scalars (List.map dTc l)=false:=by
 cases l with
 | nil=>cases h
 | cons t r=>simp[scalars,dTc,D.cells,D.scalar]
theorem Tryz.c_FnAcyclic (code:List Int):Pure prog 9 [dUs code] (.bool true):=by
 refine qaC func9 rfl ntmps9 fun ok=>?_
 simp only[go_sem,seval,-List.reduceReplicate] at ok;simp only[go_sem,seval,-List.reduceReplicate];refine fun h0=>qlf (c_DrawConfigAcyclic code) ?_
 rintro x ⟨k,rfl,hks⟩;simp only[go_sem,seval,-List.reduceReplicate]
 repeat' first|assumption|(simp (disch:=first|assumption|omega|(simp;done)|(simp;omega)) only[yaa,qag];try simp only[go_sem,seval,-List.reduceReplicate])|(with_reducible first|apply And.intro|intro _)|((try rw[qaa]);omega)
 refine qlf (c_DrawCircuit code) ?_;rintro x ⟨c,rfl,hcc⟩;have hi:=c_ConfigAcyclic k;have hs:=c_sConfigAcyclic k;have he:=c_EmptyConfig;have hea:=c_ConfigAcyclic emptyK;rw[decide_eq_true ⟨qp9,qqa⟩] at hea;have hcf:=c_Configure c;have hsz : ∀ x,qb4 c []=some x->x.ok/\Wf x:=fun x h=>qoq h
 simp only[go_sem,seval,-List.reduceReplicate];by_cases hA:k.ok/\Wf k
 ·rw[decide_eq_true hA] at hi hs;have hra:=c_ConfigAcyclic (regK k);rw[decide_eq_true ⟨regK_ok hA.1,regK_wf hA.1 hA.2⟩] at hra;have hkl:=hA.1.1;have hnsc:scalars (List.map dTc k.tiles)=false:=tc_nsc (by omega);have hnsc2:scalars (k.tiles.map fun x=>dTc x)=false:=hnsc;have fin : ∀ (x:Option Kcfg) (b:Bool),qb4 c []=x->Pure prog 51 [dC c] (.tup [dK (x.getD kz),dB x.isSome]):=fun x _ h=>by rw[<-h];exact hcf
  cases ho:qb4 c [] with
  | none=>
   have hcf2:=fin _ true ho;simp only[ybg,Option.isSome_none] at hcf2
   repeat' first|assumption|(simp (disch:=first|assumption|omega|(simp;done)|(simp;omega)) only[yaa,qag];try simp only[go_sem,seval,-List.reduceReplicate,hnsc,hnsc2])|(with_reducible first|apply And.intro|intro _)|(refine qad hi ?_;simp only[go_sem,seval,-List.reduceReplicate,hnsc,hnsc2])|(refine qad hs ?_;simp only[go_sem,seval,-List.reduceReplicate,hnsc,hnsc2])|(refine qaK (fun _=>he) ?_;simp only[go_sem,seval,-List.reduceReplicate,hnsc,hnsc2])|(refine qaK (fun _=>hea) ?_;simp only[go_sem,seval,-List.reduceReplicate,hnsc,hnsc2])|(refine qad hcf2 ?_;simp only[go_sem,seval,-List.reduceReplicate,hnsc,hnsc2])|(refine qaK (x:=.bool true) (fun h=>by cases h) ?_;simp only[go_sem,seval,-List.reduceReplicate,hnsc,hnsc2])|((try rw[qaa]);omega)
   refine qaB (E:=env 0) tok (σ:=Nat) (fun i=>[(8,.ptr 3 0),(9,.d (dI i))])
    (fun i=>[.box [.d (dTcs k.tiles),.d (dQs k.pads)],.box [.d (dI c.inputs),.d (dIs c.next),.d (dPs c.gates),.d (dIs c.outs)],.box [.d (dTcs kz.tiles),.d (dQs kz.pads)],.box [.sl 4 1 4 0 k.tiles.length,.d (dQs k.pads)],.row 1 4 false ((regL k.tiles i).map fun x=>dTc x)])
    (fun i=>i<=k.tiles.length) (fun i=>k.tiles.length-i) [] 1000 1000 ?_ ?_ ?_
   ·simp only[go_sem,seval,-List.reduceReplicate]
   ·simp only[go_sem,seval,-List.reduceReplicate];exact⟨0,by omega,by simp[regL],rfl⟩
   ·intro i hi9;by_cases hlt:i<k.tiles.length
    ·simp only[go_sem,seval,-List.reduceReplicate]
     repeat' first|assumption|(simp (disch:=first|assumption|omega|(simp;done)|(simp;omega)) only[yaa,qag];try simp only[go_sem,seval,-List.reduceReplicate])|(with_reducible first|apply And.intro|intro _)|((try rw[qaa]);omega)
     ·rw[qhT];exact hlt
     ·refine⟨i+1,by omega,by omega,rfl,qnH hlt ?_⟩;rw[qag (by rw[qhT];exact hlt),qnF hlt];rfl
    ·obtain rfl:i=k.tiles.length:=by omega
     simp only[go_sem,seval,-List.reduceReplicate]
     repeat' first|assumption|(simp (disch:=first|assumption|omega|(simp;done)|(simp;omega)) only[yaa,qag];try simp only[go_sem,seval,-List.reduceReplicate])|(with_reducible first|apply And.intro|intro _)|((try rw[qaa]);omega)
     rw[qqb];refine qad hra ?_;simp only[go_sem,seval,-List.reduceReplicate]
     repeat' first|assumption|(simp (disch:=first|assumption|omega|(simp;done)|(simp;omega)) only[yaa,qag];try simp only[go_sem,seval,-List.reduceReplicate])|(with_reducible first|apply And.intro|intro _)|((try rw[qaa]);omega)
  | some x=>
   have hcf2:=fin _ true ho;simp only[yav,Option.isSome_some] at hcf2;have hxa:=c_ConfigAcyclic x;rw[decide_eq_true (hsz x ho)] at hxa
   repeat' first|assumption|(simp (disch:=first|assumption|omega|(simp;done)|(simp;omega)) only[yaa,qag];try simp only[go_sem,seval,-List.reduceReplicate,hnsc,hnsc2])|(with_reducible first|apply And.intro|intro _)|(refine qad hi ?_;simp only[go_sem,seval,-List.reduceReplicate,hnsc,hnsc2])|(refine qad hs ?_;simp only[go_sem,seval,-List.reduceReplicate,hnsc,hnsc2])|(refine qaK (fun _=>he) ?_;simp only[go_sem,seval,-List.reduceReplicate,hnsc,hnsc2])|(refine qaK (fun _=>hea) ?_;simp only[go_sem,seval,-List.reduceReplicate,hnsc,hnsc2])|(refine qad hcf2 ?_;simp only[go_sem,seval,-List.reduceReplicate,hnsc,hnsc2])|(refine qaK (fun _=>hxa) ?_;simp only[go_sem,seval,-List.reduceReplicate,hnsc,hnsc2])|((try rw[qaa]);omega)
   refine qaB (E:=env 0) tok (σ:=Nat) (fun i=>[(8,.ptr 3 0),(9,.d (dI i))])
    (fun i=>[.box [.d (dTcs k.tiles),.d (dQs k.pads)],.box [.d (dI c.inputs),.d (dIs c.next),.d (dPs c.gates),.d (dIs c.outs)],.box [.d (dTcs x.tiles),.d (dQs x.pads)],.box [.sl 4 1 4 0 k.tiles.length,.d (dQs k.pads)],.row 1 4 false ((regL k.tiles i).map fun x=>dTc x)])
    (fun i=>i<=k.tiles.length) (fun i=>k.tiles.length-i) [] 1000 1000 ?_ ?_ ?_
   ·simp only[go_sem,seval,-List.reduceReplicate]
   ·simp only[go_sem,seval,-List.reduceReplicate];exact⟨0,by omega,by simp[regL],rfl⟩
   ·intro i hi9;by_cases hlt:i<k.tiles.length
    ·simp only[go_sem,seval,-List.reduceReplicate]
     repeat' first|assumption|(simp (disch:=first|assumption|omega|(simp;done)|(simp;omega)) only[yaa,qag];try simp only[go_sem,seval,-List.reduceReplicate])|(with_reducible first|apply And.intro|intro _)|((try rw[qaa]);omega)
     ·rw[qhT];exact hlt
     ·refine⟨i+1,by omega,by omega,rfl,qnH hlt ?_⟩;rw[qag (by rw[qhT];exact hlt),qnF hlt];rfl
    ·obtain rfl:i=k.tiles.length:=by omega
     simp only[go_sem,seval,-List.reduceReplicate]
     repeat' first|assumption|(simp (disch:=first|assumption|omega|(simp;done)|(simp;omega)) only[yaa,qag];try simp only[go_sem,seval,-List.reduceReplicate])|(with_reducible first|apply And.intro|intro _)|((try rw[qaa]);omega)
     rw[qqb];refine qad hra ?_;simp only[go_sem,seval,-List.reduceReplicate]
     repeat' first|assumption|(simp (disch:=first|assumption|omega|(simp;done)|(simp;omega)) only[yaa,qag];try simp only[go_sem,seval,-List.reduceReplicate])|(with_reducible first|apply And.intro|intro _)|((try rw[qaa]);omega)
 ·rw[decide_eq_false hA] at hi hs;have fin : ∀ (x:Option Kcfg) (b:Bool),qb4 c []=x->Pure prog 51 [dC c] (.tup [dK (x.getD kz),dB x.isSome]):=fun x _ h=>by rw[<-h];exact hcf
  cases ho:qb4 c [] with
  | none=>
   have hcf2:=fin _ true ho;simp only[ybg,Option.isSome_none] at hcf2
   repeat' first|assumption|(simp (disch:=first|assumption|omega|(simp;done)|(simp;omega)) only[yaa,qag];try simp only[go_sem,seval,-List.reduceReplicate])|(with_reducible first|apply And.intro|intro _)|(refine qad hi ?_;simp only[go_sem,seval,-List.reduceReplicate])|(refine qad hs ?_;simp only[go_sem,seval,-List.reduceReplicate])|(refine qaK (fun _=>he) ?_;simp only[go_sem,seval,-List.reduceReplicate])|(refine qaK (fun _=>hea) ?_;simp only[go_sem,seval,-List.reduceReplicate])|(refine qad hcf2 ?_;simp only[go_sem,seval,-List.reduceReplicate])|(refine qaK (x:=.bool true) (fun h=>by cases h) ?_;simp only[go_sem,seval,-List.reduceReplicate])|((try rw[qaa]);omega)
  | some x=>
   have hcf2:=fin _ true ho;simp only[yav,Option.isSome_some] at hcf2;have hxa:=c_ConfigAcyclic x;rw[decide_eq_true (hsz x ho)] at hxa
   repeat' first|assumption|(simp (disch:=first|assumption|omega|(simp;done)|(simp;omega)) only[yaa,qag];try simp only[go_sem,seval,-List.reduceReplicate])|(with_reducible first|apply And.intro|intro _)|(refine qad hi ?_;simp only[go_sem,seval,-List.reduceReplicate])|(refine qad hs ?_;simp only[go_sem,seval,-List.reduceReplicate])|(refine qaK (fun _=>he) ?_;simp only[go_sem,seval,-List.reduceReplicate])|(refine qaK (fun _=>hea) ?_;simp only[go_sem,seval,-List.reduceReplicate])|(refine qad hcf2 ?_;simp only[go_sem,seval,-List.reduceReplicate])|(refine qaK (fun _=>hxa) ?_;simp only[go_sem,seval,-List.reduceReplicate])|((try rw[qaa]);omega)
end Go.Proofs
