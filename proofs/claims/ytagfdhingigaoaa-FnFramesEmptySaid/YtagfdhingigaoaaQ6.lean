/- Laws: equal configurations differ in no frame. Conditions: none; lemmas. -/
import Derived.Test.YtagfdhingigaoaaP1
import Derived.Test.YtagfdhingigaoaaC77
import Derived.Test.YtagfdhingigaoaaQ1
set_option maxRecDepth 20000
set_option linter.unusedVariables false
set_option linter.unusedSimpArgs false
namespace Go.Proofs
open Go Go.VL
theorem qjh {a b:Kcfg}(ha:a.tiles.length=25) (hb:b.tiles.length=25):qca a b 25=[]↔a.tiles=b.tiles:=by
 constructor
 ·intro h
  refine qmW (by rw[ha,hb]) fun j hj=>?_
  have:=qfP (a:=a) (b:=b) hj 25
  rw[h,if_pos (by omega)] at this
  exact this
 ·intro h
  have key : ∀ n,qca a b n=[]:=by
   intro n
   induction n with
   | zero=>rfl
   | succ n ih=>rw[qoz (by rw[h]),ih]
  exact key 25
def padE (a b:Kcfg) (i:Nat):Bool:=decide (∀ j,j<i→a.pads.getD j (0,false)=b.pads.getD j (0,false))
theorem qm6 (a b:Kcfg) (i:Nat):padE a b (i+1)=(padE a b i&&decide (a.pads.getD i (0,false)=b.pads.getD i (0,false))):=by
 rw[padE,padE,←Bool.decide_and]
 refine decide_eq_decide.2 ⟨fun h=>⟨fun j hj=>h j (by omega),h i (by omega)⟩,fun h j hj=>?_⟩
 by_cases e:j=i
 ·subst e;exact h.2
 ·exact h.1 j (by omega)
theorem qoC {a b:Kcfg}(ha:a.ok) (hb:b.ok):decide (encC a=encC b)=(decide ((qb8 a b).length=0)&&padE a b 3):=by
 have hd:qb8 a b=qca a b 25:=if_pos ⟨ha,hb⟩
 have hn:=qjh ha.1 hb.1
 rw[hd,padE,←Bool.decide_and]
 refine decide_eq_decide.2 ⟨fun h=>?_,fun⟨h1,h2⟩=>?_⟩
 ·obtain rfl:=qoB ha hb h
  exact⟨by rw[hn.2 rfl];rfl,fun _ _=>rfl⟩
 ·have e1:=hn.1 (List.eq_nil_of_length_eq_zero h1)
  have e2:a.pads=b.pads:=qcP (0,false) (by rw[ha.2.1.1,hb.2.1.1]) fun j hj=>h2 j (by have:=ha.2.1.1;omega)
  cases a;cases b
  simp only at e1 e2
  rw[e1,e2]
theorem qji {a:Kcfg}(ha:a.ok):(qb8 a a).length=0:=by
 have hd:qb8 a a=qca a a 25:=if_pos ⟨ha,ha⟩
 rw[hd,(qjh ha.1 ha.1).2 rfl];rfl
theorem Try.c_FnFramesEmpty (code:List Int):Pure Try.prog 3 [dUs code] (.bool true):=by
 refine qat (E:=Try.env 0) Try.tok rfl 1000 Try.func3 rfl rfl Try.ntmps3 (by simp) fun ok=>?_
 simp only[go_sem,seval] at ok
 simp only[go_sem,seval,Try.results3]
 refine fun h0=>qml (Try.c_DrawDiffFrames code) ?_
 rintro x ⟨a,b,rfl,ha,hb⟩
 have hd:=Try.c_DiffFrames a b
 have hs:=Try.c_sDiffFrames a b
 have hca:=Try.c_sConfigValid a
 have hcb:=Try.c_sConfigValid b
 have hal:=Try.c_alive
 have hLn:=qj0 a b
 have hse:=fun h1 h2=>qoC (a:=a) (b:=b) h1 h2
 generalize qb8 a b=L at *
 simp only[go_sem,seval,Try.results3]
 repeat' first|assumption|(simp (disch:=first|assumption|omega|(simp;done)|(simp;omega)) only[];try simp only[go_sem,seval,Try.results3])|(with_reducible first|apply And.intro|intro _)|(refine qag hd ?_;simp only[go_sem,seval,Try.results3])|(refine qcO hs ?_;simp only[go_sem,seval,Try.results3])|(refine qag hca ?_;simp only[go_sem,seval,Try.results3])|(refine qb4 (fun _=>hcb) ?_;simp only[go_sem,seval,Try.results3])|(refine qag hal ?_;simp only[go_sem,seval,Try.results3])|(refine qac ?_;simp only[go_sem,seval,Try.results3])|exact lexT|((try rw[qaa]);omega)
 rename_i h9
 have hA:a.ok:=by simp_all
 have hB:b.ok:=by simp_all
 have hse:=hse hA hB
 have hd2:=Try.c_DiffFrames a a
 have hz:=qji hA
 generalize qb8 a a=L2 at *
 have hea:=Try.c_EncodeConfig a
 have heb:=Try.c_EncodeConfig b
 rw[if_pos hA] at hea
 rw[if_pos hB] at heb
 have hst:=str_eq (qm4 hA) (qm4 hB)
 have hpl:=hA.2.1.1
 have hpl2:=hB.2.1.1
 refine qaH (E:=Try.env 0) Try.tok (σ:=Nat) (fun i=>[(3,.ptr 0 0),(4,.ptr 1 0),(5,.d (dI L.length)),(6,.d (dB (padE a b i))),(7,.d (dI i))]) (fun _=>[.box [.d (dTcs a.tiles),.d (dQs a.pads)],.box [.d (dTcs b.tiles),.d (dQs b.pads)]])
  (fun i=>i≤3) (fun i=>3-i) [] 1000 1000 ?_ ?_ ?_
 ·simp only[go_sem,seval]
 ·simp only[go_sem,seval]
  exact⟨0,by omega,⟨rfl,rfl⟩⟩
 ·intro i hi
  by_cases hlt:i<3
  ·have gx:=qaj (z:=D.agg [D.int .i64 0,.bool false]) (show i<a.pads.length by omega)
   have gy:=qaj (z:=D.agg [D.int .i64 0,.bool false]) (show i<b.pads.length by omega)
   have hs:=qm6 a b i
   generalize a.pads.getD i (0,false)=x at *
   generalize b.pads.getD i (0,false)=y at *
   generalize padE a b i=p at *
   obtain⟨x1,x2⟩:=x
   obtain⟨y1,y2⟩:=y
   simp only[go_sem,seval,Try.results3,gx,gy,hpl,hpl2]
   repeat' first|assumption|(simp (disch:=first|assumption|omega|(simp;done)|(simp;omega)) only[];try simp only[go_sem,seval,Try.results3,gx,gy,hpl,hpl2])|(with_reducible first|apply And.intro|intro _)|(refine qac ?_;simp only[go_sem,seval,Try.results3,gx,gy,hpl,hpl2])|exact lexT|((try rw[qaa]);omega)
   refine⟨i+1,by omega,by omega,?_,rfl⟩
   rw[hs]
   cases p <;> by_cases h1:x1=y1 <;> cases x2 <;> cases y2 <;> simp[h1]
  ·obtain rfl:i=3:=by omega
   simp only[go_sem,seval,Try.results3,hpl,hst]
   repeat' first|assumption|(simp (disch:=first|assumption|omega|(simp;done)|(simp;omega)) only[];try simp only[go_sem,seval,Try.results3,hpl,hst])|(with_reducible first|apply And.intro|intro _)|(refine qac ?_;simp only[go_sem,seval,Try.results3,hpl,hst])|exact lexT|((try rw[qaa]);omega)
   refine qau (E:=Try.env 0) Try.tok Try.follows 1000 1000 [] (fsts [0,3] (.one 1 (.two 2 (.one 4 (.one 5 (fsts [6,7] .done))) 4 (.two 2 (.one 5 (fsts [6,7] .done)) 5 (.one 2 (fsts [6,7] .done)))))) (by kernel_rfl) ?_
   simp only[go_sem,seval,Try.results3,hpl,hst]
   repeat' first|assumption|(simp (disch:=first|assumption|omega|(simp;done)|(simp;omega)) only[];try simp only[go_sem,seval,Try.results3,hpl,hst])|(with_reducible first|apply And.intro|intro _)|(refine qag hea ?_;simp only[go_sem,seval,Try.results3,hpl,hst])|(refine qag heb ?_;simp only[go_sem,seval,Try.results3,hpl,hst])|(refine qag hd2 ?_;simp only[go_sem,seval,Try.results3,hpl,hst])|(refine qac ?_;simp only[go_sem,seval,Try.results3,hpl,hst])|exact lexT|((try rw[qaa]);omega)
   all_goals (
    rw[hse]
    congr 1
    exact decide_eq_decide.2 (by omega))
end Go.Proofs
