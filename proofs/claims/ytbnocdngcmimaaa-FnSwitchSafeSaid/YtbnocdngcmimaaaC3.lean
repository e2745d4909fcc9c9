/- Contracts: lists of defects. Conditions: none; lemmas. -/
import Derived.Test.YtbnocdngcmimaaaC2
set_option maxRecDepth 20000
set_option linter.unusedVariables false
set_option linter.unusedSimpArgs false
namespace Go.Proofs
open Go Go.VL
def Try.defectOk (d:Int×Int):Bool:=(decide (0≤d.1)&&decide (d.1≤24))&&(decide (0≤d.2)&&decide (d.2≤7))
theorem Try.defectOk_iff {d:Int×Int}:Try.defectOk d=true↔(0≤d.1∧d.1≤24)∧0≤d.2∧d.2≤7:=by simp[Try.defectOk]
theorem Try.defectOk_no {d:Int×Int}(h : ¬ ((0≤d.1∧d.1≤24)∧0≤d.2∧d.2≤7)):Try.defectOk d=false:=by
 rw[Bool.eq_false_iff]
 exact fun e=>h (Try.defectOk_iff.1 e)
def Try.defectsValid (l:List (Int×Int)):Bool:=decide (l.length≤12)&&l.all Try.defectOk
theorem qcy {α : Type}(p : α→Bool) (l:List α) (z : α):l.all p=true↔∀ j,j<l.length→p (l.getD j z)=true:=by
 rw[List.all_eq_true]
 constructor
 ·intro h j hj
  exact h _ (by simp[List.getD,hj])
 ·intro h x hx
  obtain⟨j,hj,rfl⟩:=List.getElem_of_mem hx
  have:=h j hj
  simpa [List.getD,hj] using this
theorem qjW {α : Type}{p : α→Bool}{l:List α}{z : α}{j:Nat}(hj:j<l.length) (h:p (l.getD j z)=false):l.all p=false:=by
 rw[Bool.eq_false_iff]
 intro ha
 have:=(qcy p l z).1 ha j hj
 rw[h] at this
 exact absurd this (by simp)
theorem Try.c_DefectsValid (l:List (Int×Int)):Pure Try.prog 73 [dPs l] (.bool (Try.defectsValid l)):=by
 refine qap (E:=Try.env 0) Try.tok rfl 1000 Try.func73 rfl rfl Try.ntmps73 (by simp) fun ok=>?_
 simp only[go_sem,seval] at ok
 simp only[go_sem,seval,Try.results73]
 refine⟨fun h=>by simp[Try.defectsValid];omega,fun h=>?_⟩
 refine qaB (E:=Try.env 0) Try.tok (σ:=Nat) (fun i=>[(8,.d (dPs l)),(9,.d (dI l.length)),(10,.d (dI i))]) (fun i=>[]) (fun i=>i≤l.length∧∀ j,j<i→Try.defectOk (l.getD j (0,0))=true) (fun i=>l.length-i) [] 1000 1000 ?_ ?_ ?_
 ·simp only[go_sem,seval]
 ·simp only[go_sem,seval]
  exact⟨0,by simp⟩
 ·rintro i ⟨hi,hinv⟩
  simp only[go_sem,seval,Try.results73]
  refine⟨fun h1=>⟨h1,fun h2=>?_,fun h2=>⟨by rw[qae];omega,i+1,⟨by omega,fun j hj=>?_⟩,by omega,rfl⟩⟩,fun h1=>?_⟩
  ·have:Try.defectOk (l.getD i (0,0))=false:=Try.defectOk_no (by omega)
   simp[Try.defectsValid,qjW h1 this]
  ·by_cases hji:j=i
   ·subst hji;exact Try.defectOk_iff.2 (by omega)
   ·exact hinv j (by omega)
  ·have:l.all Try.defectOk=true:=(qcy _ _ (0,0)).2 fun j hj=>hinv j (by omega)
   simp[Try.defectsValid,this];omega
theorem Try.c_sDefectsValid (l:List (Int×Int)):Pure Try.prog 54 [dPs l] (.bool (Try.defectsValid l)):=by
 refine qap (E:=Try.env 0) Try.tok rfl 1000 Try.func54 rfl rfl Try.ntmps54 (by simp) fun ok=>?_
 simp only[go_sem,seval] at ok
 simp only[go_sem,seval,Try.results54]
 refine qaB (E:=Try.env 0) Try.tok (σ:=Nat) (fun i=>[(0,.d (dPs l)),(3,.d (dI i))]) (fun i=>[]) (fun i=>i≤l.length∧∀ j,j<i→Try.defectOk (l.getD j (0,0))=true) (fun i=>l.length-i) [] 1000 1000 ?_ ?_ ?_
 ·simp only[go_sem,seval]
 ·simp only[go_sem,seval]
  exact⟨0,by simp⟩
 ·rintro i ⟨hi,hinv⟩
  simp only[go_sem,seval,Try.results54]
  refine⟨fun h1=>⟨h1,qaj (Try.c_l1In _ _ _) ?_⟩,fun h1=>?_⟩
  ·simp only[go_sem,seval,Try.results54]
   refine⟨fun h2=>⟨h2,h1⟩,qaC (fun _=>Try.c_l1In _ _ _) ?_⟩
   simp only[go_sem,seval,Try.results54]
   refine⟨fun h2=>?_,fun h2=>⟨by rw[qae];omega,i+1,⟨by omega,fun j hj=>?_⟩,by omega,rfl⟩⟩
   ·have:Try.defectOk (l.getD i (0,0))=false:=Try.defectOk_no (by omega)
    simp[Try.defectsValid,qjW h1 this]
   ·by_cases hji:j=i
    ·subst hji;exact Try.defectOk_iff.2 (by omega)
    ·exact hinv j (by omega)
  ·have:l.all Try.defectOk=true:=(qcy _ _ (0,0)).2 fun j hj=>hinv j (by omega)
   simp[Try.defectsValid,this];omega
end Go.Proofs
