/- Laws: generated circuits run on the fabric. Conditions: none; lemmas. -/
import Derived.Test.YteikeianenfhaaaGreatQ4
import Derived.Test.YteikeianenfhaaaGreatC7
import Derived.Test.YteikeianenfhaaaGreatC10
set_option maxRecDepth 20000
set_option linter.unusedVariables false
set_option linter.unusedSimpArgs false
set_option maxHeartbeats 2000000
namespace Go.Proofs
open Go Go.VL Tryz
def genL (m:Nat):List Circ:=[qjI 1,cnC 1,cnC 2,qfi 3,decC 2 (m:Int)]
theorem qpa : ∀ m,m<4->∀ i,i<5->((genL m).getD i Circ.zero).Valid:=by
 intro m hm i hi;obtain rfl|rfl|rfl|rfl:m=0∨m=1∨m=2∨m=3:=by omega
 all_goals
  obtain rfl|rfl|rfl|rfl|rfl:i=0∨i=1∨i=2∨i=3∨i=4:=by omega
  all_goals (constructor <;> decide +kernel)
theorem qrv {l:List Circ}{i:Nat}{z:D}(h:i<l.length):(l.map fun c=>dC c).getD i z=dC (l.getD i Circ.zero):=getD_lt _ _ _ _ _ h
def genR (code:List Int) (n i:Nat):List Bool:=bitsOf (if i<code.length then code.getD i 0 else(i:Int)) n
def genT (code:List Int) (n i:Nat):List (List Bool):=(List.range i).map (genR code n)
theorem qtH {code:List Int}{n i:Nat}:(genT code n i).length=i:=by simp[genT]
theorem qrw (code:List Int) (n i:Nat):genT code n (i+1)=genT code n i ++ [genR code n i]:=by rw[genT,yaO,yaE];rfl
theorem Tryz.c_FnGenerated (code:List Int):Pure prog 7 [dUs code] (.bool true):=by
 refine qav func7 rfl ntmps7 fun ok=>?_
 simp only[go_sem,seval,-List.reduceReplicate] at ok;simp only[go_sem,seval,-List.reduceReplicate];obtain⟨m,hm4,hm⟩ : ∃ m:Nat,m<4/\((code.length:Int)%4)=(m:Int):=⟨code.length%4,by omega,by omega⟩;have h5:((code.length:Int)%5).toNat<5:=by omega
 have hv:=qpa m hm4 _ h5;have gx : ∀ z:D,([dC (qjI 1),dC (cnC 1),dC (cnC 2),dC (qfi 3),dC (decC 2 (m:Int))]:List D).getD ((code.length:Int)%5).toNat z=dC ((genL m).getD ((code.length:Int)%5).toNat Circ.zero):=fun z=>qrv (l:=genL m) h5
 generalize (genL m).getD ((code.length:Int)%5).toNat Circ.zero=c at *
 have hi0:=hv.i0;have hi1:=hv.i1
 repeat' first|assumption|(simp (disch:=first|assumption|omega|(simp;done)|(simp;omega)) only[qaC,qaj];try simp only[go_sem,seval,-List.reduceReplicate,hm,gx])|(with_reducible first|apply And.intro|intro _)|(refine qab (c_Adder 1) ?_;simp only[go_sem,seval,-List.reduceReplicate,hm,gx])|(refine qab (c_Counter 1) ?_;simp only[go_sem,seval,-List.reduceReplicate,hm,gx])|(refine qab (c_Counter 2) ?_;simp only[go_sem,seval,-List.reduceReplicate,hm,gx])|(refine qab (c_ShiftRegister 3) ?_;simp only[go_sem,seval,-List.reduceReplicate,hm,gx])|(refine qab (c_Decoder 2 (m:Int)) ?_;simp only[go_sem,seval,-List.reduceReplicate,hm,gx])|((try rw[qaa]);omega)
 have hby:Bytes code:=fun x hx=>by
  have:=ok.2 x hx;rw[inK_u8] at this;omega
 have hgl:=@qtH code c.inputs.toNat;have hgs:=qrw code c.inputs.toNat;refine qay (E:=env 0) tok (σ:=Nat) (fun i=>[(0,.d (dUs code)),(4,.ptr 1 0),(5,.sl 2 i 1 0 i),(6,.d (dI i))])
  (fun i=>[.row 0 4 false [dC (qjI 1),dC (cnC 1),dC (cnC 2),dC (qfi 3),dC (decC 2 (m:Int))],.box [.d (dI c.inputs),.d (dIs c.next),.d (dPs c.gates),.d (dIs c.outs)],.row i 1 false ((genT code c.inputs.toNat i).map fun x=>dBs x)])
  (fun i=>i<=8) (fun i=>8-i) [] 1000 1000 ?_ ?_ ?_
 ·simp only[go_sem,seval,-List.reduceReplicate]
 ·simp only[go_sem,seval,-List.reduceReplicate];exact⟨0,by omega,⟨rfl,rfl⟩,rfl,rfl⟩
 ·intro i hi;by_cases hlt:i<8
  ·have hs:=hgs i;have hl:=@hgl i;generalize genT code c.inputs.toNat i=T at *
   by_cases hc:i<code.length
   ·have hx:=byte_get hby i;rw[genR,if_pos hc] at hs;have hbt:=c_bits (code.getD i 0) c.inputs hx.1 (by omega);generalize bitsOf (code.getD i 0) c.inputs.toNat=q at *
    simp only[go_sem,seval,-List.reduceReplicate,hl]
    repeat' first|assumption|(simp (disch:=first|assumption|omega|(simp;done)|(simp;omega)) only[qaC,qaj];try simp only[go_sem,seval,-List.reduceReplicate,hl])|(with_reducible first|apply And.intro|intro _)|(refine qab hbt ?_;simp only[go_sem,seval,-List.reduceReplicate,hl])|((try rw[qaa]);omega)
    exact⟨i+1,by omega,by omega,rfl,rfl,hs.symm⟩
   ·rw[genR,if_neg hc] at hs;have hbt:=c_bits (i:Int) c.inputs (by omega) (by omega);generalize bitsOf (i:Int) c.inputs.toNat=q at *
    simp only[go_sem,seval,-List.reduceReplicate,hl]
    repeat' first|assumption|(simp (disch:=first|assumption|omega|(simp;done)|(simp;omega)) only[qaC,qaj];try simp only[go_sem,seval,-List.reduceReplicate,hl])|(with_reducible first|apply And.intro|intro _)|(refine qab hbt ?_;simp only[go_sem,seval,-List.reduceReplicate,hl])|((try rw[qaa]);omega)
    exact⟨i+1,by omega,by omega,rfl,rfl,hs.symm⟩
  ·obtain rfl:i=8:=by omega
   have hl:=@hgl 8;have hrr : ∀ r∈genT code c.inputs.toNat 8,(r.length:Int)=c.inputs:=fun r hr=>by
    obtain⟨i,-,rfl⟩:=List.mem_map.1 hr;rw[genR];simp[bitsOf];omega
   have hcc:=c_Compile c;have hcv:=c_CircuitValid c;rw[decide_eq_true hv] at hcv;generalize genT code c.inputs.toNat 8=rows at *
   cases ho:qnf c with
   | none=>
    rw[ho] at hcc;simp only[go_sem,seval,-List.reduceReplicate]
    repeat' first|assumption|(simp (disch:=first|assumption|omega|(simp;done)|(simp;omega)) only[qaC,qaj];try simp only[go_sem,seval,-List.reduceReplicate])|(with_reducible first|apply And.intro|intro _)|(refine qab hcc ?_;simp only[go_sem,seval,-List.reduceReplicate])|(refine qab hcv ?_;simp only[go_sem,seval,-List.reduceReplicate])|((try rw[qaa]);omega)
   | some b=>
    rw[ho] at hcc;simp only[yaf,Option.isSome_some] at hcc;have hrl:rows.length=8:=hl;obtain⟨k,rfl,-,hk,hw,V,hV,hout⟩:=qru ho hrr;have hsim:=c_SimulateS 8 c rows ⟨hv,by omega,hrr⟩;have hrun:=c_RunBitstreamS 8 k hk hw rows (by omega) (fun r hr=>by have:=hrr r hr;omega) V hV;have hsl:=qkV c rows rows.length;have hrl2:=qha k V rows.length;have hso:=fun i (h:i<rows.length)=>qtG c rows h
    have hro:=fun i (h:i<rows.length)=>qo9 k V h
    generalize simO c rows rows.length=so at *
    generalize qea k V rows.length=ro at *
    rw[hrl] at hsim hrun hsl hrl2 hso hro hout;generalize encC k=b at *
    simp only[go_sem,seval,-List.reduceReplicate]
    repeat' first|assumption|(simp (disch:=first|assumption|omega|(simp;done)|(simp;omega)) only[qaC,qaj];try simp only[go_sem,seval,-List.reduceReplicate])|(with_reducible first|apply And.intro|intro _)|(refine qab hcc ?_;simp only[go_sem,seval,-List.reduceReplicate])|(refine qab hcv ?_;simp only[go_sem,seval,-List.reduceReplicate])|((try rw[qaa]);omega)
    refine qal hsim [2] (by simp only[go_sem,seval,-List.reduceReplicate]) ?_;rintro r0 H1 ⟨rfl,rfl⟩;simp only[go_sem,seval,-List.reduceReplicate]
    repeat' first|assumption|(simp (disch:=first|assumption|omega|(simp;done)|(simp;omega)) only[qaC,qaj];try simp only[go_sem,seval,-List.reduceReplicate])|(with_reducible first|apply And.intro|intro _)|((try rw[qaa]);omega)
    refine qal hrun [2] (by simp only[go_sem,seval,-List.reduceReplicate]) ?_;rintro r0 H1 ⟨rfl,rfl⟩;simp only[go_sem,seval,-List.reduceReplicate,hsl,hrl2]
    repeat' first|assumption|(simp (disch:=first|assumption|omega|(simp;done)|(simp;omega)) only[qaC,qaj];try simp only[go_sem,seval,-List.reduceReplicate,hsl,hrl2])|(with_reducible first|apply And.intro|intro _)|((try rw[qaa]);omega)
    refine qay (E:=env 0) tok (σ:=Nat) (fun i=>[(10,.d (dBss so)),(11,.d (dBss ro)),(12,.d (dI i))])
     (fun _=>[]) (fun i=>i<=8) (fun i=>8-i) [] 1000 1000 ?_ ?_ ?_
    ·simp only[go_sem,seval,-List.reduceReplicate]
    ·simp only[go_sem,seval,-List.reduceReplicate];exact⟨0,by omega,rfl⟩
    ·intro i hi;by_cases hlt:i<8
     ·have e1:=hso i hlt;have e2:=hro i hlt;have hov:(qbs (qda c rows i) c.outs).length<=3:=by rw[qdV];exact hv.lo
      have hpd:=c_padded _ hov;rw[hout i hlt] at e2;have hsb:=c_sameBools (padR (qbs (qda c rows i) c.outs)) (padR (qbs (qda c rows i) c.outs));rw[decide_eq_true rfl] at hsb;generalize qbs (qda c rows i) c.outs=q at *
      simp only[go_sem,seval,-List.reduceReplicate,e1,e2,hsl]
      repeat' first|assumption|(simp (disch:=first|assumption|omega|(simp;done)|(simp;omega)) only[qaC,qaj];try simp only[go_sem,seval,-List.reduceReplicate,e1,e2,hsl])|(with_reducible first|apply And.intro|intro _)|((try rw[qaa]);omega)
      refine qaP (n:=0) [] (fsts [0,1,2,4,5,6,3,7] (.one 8 (.one 9 (.fst 10 .done)))) ?_;simp only[go_sem,seval,-List.reduceReplicate,e1,e2,hsl]
      repeat' first|assumption|(simp (disch:=first|assumption|omega|(simp;done)|(simp;omega)) only[qaC,qaj];try simp only[go_sem,seval,-List.reduceReplicate,e1,e2,hsl])|(with_reducible first|apply And.intro|intro _)|(refine qab hpd ?_;simp only[go_sem,seval,-List.reduceReplicate,e1,e2,hsl])|(refine qab hsb ?_;simp only[go_sem,seval,-List.reduceReplicate,e1,e2,hsl])|((try rw[qaa]);omega)
      all_goals exact⟨i+1,by omega,by omega,rfl⟩
     ·obtain rfl:i=8:=by omega
      simp only[go_sem,seval,-List.reduceReplicate,hsl]
      repeat' first|assumption|(simp (disch:=first|assumption|omega|(simp;done)|(simp;omega)) only[qaC,qaj];try simp only[go_sem,seval,-List.reduceReplicate,hsl])|(with_reducible first|apply And.intro|intro _)|((try rw[qaa]);omega)
end Go.Proofs
