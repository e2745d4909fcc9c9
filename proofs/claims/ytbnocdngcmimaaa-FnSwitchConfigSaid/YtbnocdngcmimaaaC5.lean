/- Contracts: what is drawn. Conditions: none; lemmas. -/
import Derived.Test.YtbnocdngcmimaaaC4
set_option maxRecDepth 20000
set_option linter.unusedVariables false
set_option linter.unusedSimpArgs false
namespace Go.Proofs
open Go Go.VL
theorem Try.bytes_of {code:List Int}(h : ∀ x∈code,InK .u8 x) (n:Nat):Try.Bytes (code.take n):=fun x hx=>by
 have:=h x (List.mem_of_mem_take hx)
 rwa [inK_u8] at this
theorem Try.pick_at {b:List Int}(hb:Try.Bytes b) {p n:Int}(hp:0≤p∧p≤1000000000) {T:List R}{K:I→List R→Prop}(hk : ∀ x,0≤x∧(x<n∨x=0)→K (.d (dI x)) (Try.rd b (p+1)::T)) :
  ICall Try.prog 94 [.ptr 0 0,.d (dI n)] (Try.rd b p::T) K:=by
 refine qaD (Try.c_pick b p n hb hp) [0] (by simp only[go_sem,seval]) ?_
 rintro r0 H1 ⟨x,hx,rfl,rfl⟩
 have:=hk x hx
 simp only[go_sem,seval]
 simpa using this
theorem Try.c_odd (b:List Int) (p n:Int) (hb:Try.Bytes b) (hp:0≤p∧p≤1000000000) (hn:0≤n∧n≤1000) :
  ICall Try.prog 106 [.ptr 0 0,.d (dI n)] [Try.rd b p] (fun r H'=>∃ x q,(p≤q∧q≤p+1)∧(n=0→x=false)∧r=.d (.bool x)∧H'=[Try.rd b q]):=by
 refine qbV (E:=Try.env 1) Try.tok rfl 1000 Try.func106 rfl rfl Try.ntmps106 (by simp) ?_
 simp only[go_sem,seval,Try.results106]
 refine⟨fun h=>⟨.d (dI 0),?_⟩,fun h=>?_⟩
 ·simp only[go_sem,seval,Try.results106]
  simp only[h,decide_false,go_sem,Bool.false_eq_true,false_imp_iff,true_and,↓reduceIte,reduceCtorEq]
  exact qeA ⟨false,p,by omega,by simp,by simp,rfl⟩
 ·refine⟨h,qaD (Try.c_pick b p n hb hp) [0] (by simp only[go_sem,seval]) ?_⟩
  rintro r0 H1 ⟨x,hx,rfl,rfl⟩
  simp only[go_sem,seval,Try.results106]
  simp only[h,qae,decide_true,go_sem,true_imp_iff,↓reduceIte]
  refine⟨by omega,qeA ⟨_,p+1,by omega,by omega,rfl,rfl⟩⟩
theorem Try.odd_at {b:List Int}(hb:Try.Bytes b) {p n:Int}(hp:0≤p∧p≤1000000000) (hn:0≤n∧n≤1000) {T:List R}{K:I→List R→Prop}(hk : ∀ x q,p≤q∧q≤p+1→(n=0→x=false)→K (.d (.bool x)) (Try.rd b q::T)) :
  ICall Try.prog 106 [.ptr 0 0,.d (dI n)] (Try.rd b p::T) K:=by
 refine qaD (Try.c_odd b p n hb hp hn) [0] (by simp only[go_sem,seval]) ?_
 rintro r0 H1 ⟨x,q,hq,hx,rfl,rfl⟩
 have:=hk x q hq hx
 simp only[go_sem,seval]
 simpa using this
theorem Try.c_l20Defects (b:List Int) (p n:Int) (hb:Try.Bytes b) (hp:0≤p∧p≤1000000) (hn:0≤n∧n≤1000) :
  ICall Try.prog 97 [.ptr 0 0,.d (dI n)] [Try.rd b p] (fun r H'=>∃ (l:List (Int×Int)) (q:Int),(p≤q∧q≤p+40)∧l.length≤14∧r=.d (dPs l)∧H'=[Try.rd b q]):=by
 refine qbV (E:=Try.env 1) Try.tok rfl 1000 Try.func97 rfl rfl Try.ntmps97 (by simp) ?_
 simp only[go_sem,seval,Try.results97]
 refine qaD (Try.c_pick b p 13 hb (by omega)) [0] (by simp only[go_sem,seval]) ?_
 rintro r0 H1 ⟨x,hx,rfl,rfl⟩
 simp only[go_sem,seval,Try.results97]
 refine qaB (E:=Try.env 1) Try.tok (σ:=List (Int×Int)×Int×Int) (fun s=>[(0,.ptr 0 0),(1,.d (dI n)),(5,.sl 1 s.1.length 2 0 s.1.length),(6,.d (dI s.2.1))]) (fun s=>[Try.rd b s.2.2,.row s.1.length 2 true (s.1.map dP)]) (fun s=>0≤s.2.1∧s.1.length+s.2.1≤12∧p+1≤s.2.2∧s.2.2≤p+1+2*s.1.length) (fun s=>s.2.1.toNat) [] 1000 1000 ?_ ?_ ?_
 ·simp only[go_sem,seval]
 ·simp only[go_sem,seval]
  exact⟨([],x,p+1),by simp;omega,by simp⟩
 ·rintro⟨l,k,q⟩ hi
  simp only at hi
  simp only[go_sem,seval,Try.results97]
  refine⟨fun h1=>?_,fun h1=>?_⟩
  ·refine qaD (Try.c_pick b q 25 hb (by omega)) [0] (by simp only[go_sem,seval]) ?_
   rintro r0 H1 ⟨x1,hx1,rfl,rfl⟩
   simp only[go_sem,seval,Try.results97]
   refine qaD (Try.c_pick b (q+1) 8 hb (by omega)) [0] (by simp only[go_sem,seval]) ?_
   rintro r0 H1 ⟨x2,hx2,rfl,rfl⟩
   simp only[go_sem,seval,Try.results97]
   rw[qae]
   exact⟨by omega,by omega,(l ++ [(x1,x2)],k-1,q+1+1),by simp;omega,by simp;omega,by simp,by simp,by simp⟩
  ·refine qaD (Try.c_odd b q n hb (by omega) hn) [0] (by simp only[go_sem,seval]) ?_
   rintro r0 H1 ⟨y,q1,hq1,hy,rfl,rfl⟩
   simp only[go_sem,seval,Try.results97]
   have fin : ∀ (l:List (Int×Int)) (q2:Int) (U:List R),p≤q2→q2≤p+40→l.length≤14→endI 1 (fun r H'=>∃ (l:List (Int×Int)) (q:Int),(p≤q∧q≤p+40)∧l.length≤14∧r=.d (dPs l)∧H'=[Try.rd b q]) (I.sl 1 l.length 2 0 l.length) (Try.rd b q2::.row l.length 2 true (l.map dP)::U):=by
    intro l q2 U h3 h4 h5
    refine qc9 (by simp) (by simp[go_sem]) ?_
    simp only[go_sem,seval]
    exact⟨l,q2,⟨h3,h4⟩,h5,rfl,rfl⟩
   refine⟨fun h2=>?_,fun h2=>fin l q1 [] (by omega) (by omega) (by omega)⟩
   refine qaD (Try.c_pick b q1 3 hb (by omega)) [0] (by simp only[go_sem,seval]) ?_
   rintro r0 H1 ⟨x1,hx1,rfl,rfl⟩
   simp only[go_sem,seval,Try.results97]
   refine⟨fun h3=>?_,fun h3=>?_⟩
   ·refine qaB (E:=Try.env 1) Try.tok (σ:=List (Int×Int)) (fun s=>[(0,.ptr 0 0),(1,.d (dI n)),(5,.sl 1 s.length 2 0 s.length)]) (fun s=>[Try.rd b (q1+1),.row s.length 2 true (s.map dP)]) (fun s=>s.length≤13) (fun s=>13-s.length) [] 1000 1000 ?_ ?_ ?_
    ·simp only[go_sem,seval]
    ·simp only[go_sem,seval]
     exact⟨l,by omega,by simp⟩
    ·intro l2 hl2
     simp only[go_sem,seval,Try.results97]
     refine⟨fun h4=>⟨by omega,l2 ++ [(0,0)],by simp;omega,by simp;omega,by simp,by simp,by simp⟩,fun h4=>fin l2 (q1+1) [] (by omega) (by omega) (by omega)⟩
   ·refine qaD (Try.c_pick b (q1+1) 4 hb (by omega)) [0] (by simp only[go_sem,seval]) ?_
    rintro r0 H1 ⟨x2,hx2,rfl,rfl⟩
    simp only[go_sem,seval,Try.results97]
    have e : ∀ m:Nat,([D.agg [dI (-1),dI 0],D.agg [dI 0,dI 8],D.agg [dI 25,dI 0],D.agg [dI 0,dI (-1)]]:List D).getD m (D.agg [dI 0,dI 0])=dP (([(-1,0),(0,8),(25,0),(0,-1)]:List (Int×Int)).getD m (0,0)):=fun m=>qdi dP [(-1,0),(0,8),(25,0),(0,-1)] m (0,0)
    simp only[e]
    generalize ([(-1,0),(0,8),(25,0),(0,-1)]:List (Int×Int)).getD x2.toNat (0,0)=d
    simp only[go_sem,seval,Try.results97]
    refine⟨by omega,by omega,by omega,?_⟩
    have:=fin (l ++ [d]) (q1+1+1)
    simp only[List.length_append,List.length_cons,List.length_nil,qoV] at this
    exact this _ (by omega) (by omega) (by omega)
end Go.Proofs
