/- Contracts, plain definitions and lemmas. Conditions: none; lemmas. -/
import Derived.Test.YteikeianenfhaaaGreatK3
import Derived.Test.YteikeianenfhaaaGreatC53
import Derived.Test.YteikeianenfhaaaGreatK9
import Derived.Test.YteikeianenfhaaaGreatC92
import Derived.Test.YteikeianenfhaaaGreatC36
import Derived.Test.YteikeianenfhaaaGreatC32
set_option maxRecDepth 20000
set_option linter.unusedSimpArgs false
set_option linter.unusedVariables false
set_option maxHeartbeats 2000000
namespace Go.Proofs
set_option linter.defProp false
open Go Go.VL Tryz
variable {c:ac}{place:List Int}{rs:List Rt}{list:List (Int×Int)}{k:bu}{n:Nat}{l:List (Int×Bool)}
def NE (hc:c.Valid) : ∀ x∈ax c,∀ v∈x.inputs,0<=v/\v<c.vars:=by
 intro x hx v hv;have hf:=hc.am;have hvv:c.vars=c.first+(c.gates.length:Int):=rfl
 rcases List.mem_append.1 hx with h|h
 ·obtain⟨i,hi,rfl⟩:=List.mem_map.1 h;have hi':i<c.next.length:=List.mem_range.1 hi;have hn:=hc.n _ (aP hi':c.next.getD i 0∈c.next);unfold bj at hn;unfold iU at hv;split at hv
  ·rw[List.mem_singleton.1 hv];omega
  ·cases hv
 ·obtain⟨l,hl,rfl⟩:=List.mem_map.1 h;obtain⟨m,hm,rfl⟩:=(ro hc).each l hl;have:=(p6 hc hm).2.2 v hv;omega
def Mi (hc:c.Valid) {cells:List bR}(hp:ay cells.length place) (h:kh c cells place jv=some rs) :
  (∀ r∈rs,0<=r.net/\r.net<c.vars/\0<=r.track/\r.track<=7/\∀ h∈r.ab,0<=h.1/\h.1<=24)/\∀ r∈rs,r.ab.length<=1000:=by
 have hf:=hc.am;have hv:=hc.aM;have hrc:kh c cells place jv=(kG c cells place jv (c.vars.toNat-1)).map (·.2):=rfl;rw[hrc] at h;obtain⟨⟨busy,out⟩,h1,rfl⟩:=Option.map_eq_some_iff.1 h;have hR:=AO hc hp jA _ h1;constructor
 ·intro r hr;have e:=hR.each r hr;have e1:=e.net;have e2:=e.track;exact⟨by omega,by omega,by omega,by omega,e.tree.rng⟩
 ·intro r hr;have:=ru (hR.each r hr).tree;omega
noncomputable def yp (c:ac):Option bu:=if c.Valid then(kh c (ax c) (j7 c (ax c)) jv).map (tW c (ax c) (j7 c (ax c))) else none
def kz:bu:=⟨[],[]⟩
def Tryz.kN (c:ac):Pure prog 50 [dC c] (.tup [dK ((yp c).getD kz),dB (yp c).isSome]):=by
 have hcv:=cR c;unfold yp;by_cases hc:c.Valid
 ·rw[if_pos hc];rw[decide_eq_true hc] at hcv;have h1:=oy c hc;have hcl:=qf hc;have hci:=Ox hc;have hcx:=NE hc;generalize ax c=cells at *
  have h2:=n9 c hc cells (by omega) hci;have hp:=Eg (c:=c) (cells:=cells) (by omega);generalize j7 c cells=place at *
  have h3:=oN c hc cells (by omega) hci place hp;cases hro:kh c cells place jv with
  | none=>
   rw[hro] at h3;refine l4 (E:=env 0) tok rfl 1000 func50 rfl rfl ntmps50 (by simp) fun ok=>?_
   simp only[go_sem,seval,-List.reduceReplicate] at ok
   repeat' first|assumption|simp (disch:=first|assumption|omega|simp;try omega) only[go_sem,seval,-List.reduceReplicate]|(with_reducible first|apply aa|intro)|(refine aA hcv ?_)|(refine aA h1 ?_)|(refine kA h2 ?_)|(refine kA h3 ?_)|(try rw[ae]);omega
   all_goals first|rfl|simp[fY,iW,fQ,kz]
  | some rs=>
   rw[hro] at h3;obtain⟨hr1,hr2⟩:=Mi hc hp hro;have h4:=ot c hc cells (by omega) hci place hp hcx rs hr1 hr2;refine l4 (E:=env 0) tok rfl 1000 func50 rfl rfl ntmps50 (by simp) fun ok=>?_
   simp only[go_sem,seval,-List.reduceReplicate] at ok
   repeat' first|assumption|simp (disch:=first|assumption|omega|simp;try omega) only[go_sem,seval,-List.reduceReplicate]|(with_reducible first|apply aa|intro)|(refine aA hcv ?_)|(refine aA h1 ?_)|(refine kA h2 ?_)|(refine kA h3 ?_)|(refine lu h4 ?_)|(try rw[ae]);omega
   all_goals first|rfl|simp[fY,iW,fQ]
 ·rw[if_neg hc];rw[decide_eq_false hc] at hcv;refine l4 (E:=env 0) tok rfl 1000 func50 rfl rfl ntmps50 (by simp) fun ok=>?_
  simp only[go_sem,seval,-List.reduceReplicate] at ok
  repeat' first|assumption|simp (disch:=first|assumption|omega|simp;try omega) only[go_sem,seval,-List.reduceReplicate]|(with_reducible first|apply aa|intro)|(refine aA hcv ?_)|(try rw[ae]);omega
  all_goals first|rfl|simp[fY,iW,fQ,kz]

def Fb (hc:c.Valid) (hp:ay (ax c).length place) {busy0:List (List Bool)}(hb:da busy0) (h:kh c (ax c) place busy0=some rs):aq c place rs/\rs.length<=1000/\∀ r∈rs,r.ab.length<=1000:=by
 have hf:=hc.am;have hv:=hc.aM;have hrc:kh c (ax c) place busy0=(kG c (ax c) place busy0 (c.vars.toNat-1)).map (·.2):=rfl;rw[hrc] at h;obtain⟨⟨busy,out⟩,h1,rfl⟩:=Option.map_eq_some_iff.1 h;have hR:=AO hc hp hb _ h1;refine⟨⟨hc,hp,busy0,busy,hR⟩,?_,fun r hr=>?_⟩
 ·have h2:=(DR (c:=c) (cells:=ax c) (place:=place) (c.vars.toNat-1)).2.2;rw[<-hR.nets,ie] at h2;show out.length<=1000
  omega
 ·have:=(hR.each r hr).len;omega
noncomputable def i7 (c:ac) (list:List (Int×Int)):Option bu:=open Classical in if c.Valid/\uP list then(kh c (ax c) (j7 c (ax c)) (jt list)).map (tW c (ax c) (j7 c (ax c))) else none
def Mb:uP []:=⟨by simp,by simp⟩
def N8 (c:ac):i7 c []=yp c:=by
 classical
 unfold i7 yp;by_cases h:c.Valid
 ·rw[if_pos ⟨h,Mb⟩,if_pos h];rfl
 ·rw[if_neg (fun h2=>h h2.1),if_neg h]
def LV (h:i7 c list=some k):c.Valid/\uP list/\∃ rs,aq c (j7 c (ax c)) rs/\kh c (ax c) (j7 c (ax c)) (jt list)=some rs/\k=bK c (j7 c (ax c)) rs:=by
 classical
 unfold i7 at h;split at h
 ·rename_i hv;obtain⟨rs,h1,rfl⟩:=Option.map_eq_some_iff.1 h;have hcl:=qf hv.1;exact⟨hv.1,hv.2,rs,(Fb hv.1 (Eg (by omega)) (Em list) h1).1,h1,rfl⟩
 ·cases h
def Tryz.gh (c:ac) (list:List (Int×Int)):Pure prog 13 [dC c,aO list] (.tup [dK ((i7 c list).getD kz),dB (i7 c list).isSome]):=by
 classical
 have hcv:=a8 c;have hdv:=e7 list;by_cases hc:c.Valid
 ·rw[decide_eq_true hc] at hcv;by_cases hd:uP list
  ·rw[(iS list).2 hd] at hdv;have hA:i7 c list=(kh c (ax c) (j7 c (ax c)) (jt list)).map (tW c (ax c) (j7 c (ax c))):=if_pos ⟨hc,hd⟩;have hcl:=qf hc;have hp:ay (ax c).length (j7 c (ax c)):=Eg (by omega);have hpl:=se c hc;have hra:=jU c (j7 c (ax c)) list;rw[show tb c (j7 c (ax c)) list=kh c (ax c) (j7 c (ax c)) (jt list) by rw[tb,if_pos ⟨⟨hc,hp⟩,hd⟩]] at hra;rw[hA];cases hro:kh c (ax c) (j7 c (ax c)) (jt list) with
   | none=>
    rw[hro] at hra;simp only[vN] at hra;rw[j6];refine l4 (E:=env 0) tok rfl 1000 func13 rfl rfl ntmps13 (by simp) fun ok=>?_
    simp only[go_sem,seval,-List.reduceReplicate] at ok
    repeat' first|assumption|simp (disch:=first|assumption|omega|simp;try omega) only[go_sem,seval,-List.reduceReplicate]|(with_reducible first|apply aa|intro)|(refine aA hcv ?_)|(refine io (fun _=>hdv) ?_)|(refine kA hpl ?_)|(refine aA hra ?_)|(try rw[ae]);omega
    all_goals first|rfl|simp[fY,iW,fQ,kz]
   | some rs=>
    rw[hro] at hra;simp only[vN] at hra;rw[k6];obtain⟨R,h1,h2⟩:=Fb hc hp (Em list) hro;have hcf:=mn c hc (j7 c (ax c)) hp rs (fun r hr=>⟨(R.bd r hr).1.1,(R.bd r hr).1.2,(R.bd r hr).2.1.1,(R.bd r hr).2.1.2,(R.bd r hr).2.2.1⟩) h2 h1 R.nd (fun x hx v hv=>by
     obtain⟨i,hi,rfl⟩:=fO bI hx;obtain⟨r,hr,e,-⟩:=R.input hi hv;exact⟨r,hr,e⟩) (fun l hl hv=>by
     obtain⟨o,ho,rfl⟩:=fO (0:Int) hl;obtain⟨r,hr,e,-⟩:=R.pad ho (by omega);exact⟨r,hr,e⟩)
    refine l4 (E:=env 0) tok rfl 1000 func13 rfl rfl ntmps13 (by simp) fun ok=>?_
    simp only[go_sem,seval,-List.reduceReplicate] at ok
    repeat' first|assumption|simp (disch:=first|assumption|omega|simp;try omega) only[go_sem,seval,-List.reduceReplicate]|(with_reducible first|apply aa|intro)|(refine aA hcv ?_)|(refine io (fun _=>hdv) ?_)|(refine kA hpl ?_)|(refine aA hra ?_)|(refine lu hcf ?_)|(try rw[ae]);omega
    all_goals first|rfl|simp[fY,iW,fQ,kz]
  ·rw[show bp list=false from Bool.eq_false_iff.2 (fun h=>hd ((iS list).1 h))] at hdv;rw[show i7 c list=none from if_neg (fun h=>hd h.2)];refine l4 (E:=env 0) tok rfl 1000 func13 rfl rfl ntmps13 (by simp) fun ok=>?_
   simp only[go_sem,seval,-List.reduceReplicate] at ok
   repeat' first|assumption|simp (disch:=first|assumption|omega|simp;try omega) only[go_sem,seval,-List.reduceReplicate]|(with_reducible first|apply aa|intro)|(refine aA hcv ?_)|(refine io (fun _=>hdv) ?_)|(try rw[ae]);omega
   all_goals first|rfl|simp[fY,iW,fQ,kz]
 ·rw[decide_eq_false hc] at hcv;rw[show i7 c list=none from if_neg (fun h=>hc h.1)];refine l4 (E:=env 0) tok rfl 1000 func13 rfl rfl ntmps13 (by simp) fun ok=>?_
  simp only[go_sem,seval,-List.reduceReplicate] at ok
  repeat' first|assumption|simp (disch:=first|assumption|omega|simp;try omega) only[go_sem,seval,-List.reduceReplicate]|(with_reducible first|apply aa|intro)|(refine aA hcv ?_)|(refine io (x:=.nil) (fun h=>by cases h) ?_)|(try rw[ae]);omega
  all_goals first|rfl|simp[fY,iW,fQ,kz]
def Tryz.ip (c:ac):Pure prog 51 [dC c] (.tup [dK ((i7 c []).getD kz),dB (i7 c []).isSome]):=by
 have hca:Pure prog 13 [dC c,.nil] (.tup [dK ((i7 c []).getD kz),dB (i7 c []).isSome]):=(gh c []).wk (by simp[og,fY,fQ,iW]);generalize (i7 c []).getD kz=k at *
 generalize (i7 c []).isSome=b at *
 refine l4 (E:=env 0) tok rfl 1000 func51 rfl rfl ntmps51 (by simp) fun ok=>?_
 simp only[go_sem,seval,-List.reduceReplicate] at ok
 repeat' first|assumption|simp (disch:=first|assumption|omega|simp;try omega) only[go_sem,seval,-List.reduceReplicate]|(with_reducible first|apply aa|intro)|(refine lu hca ?_)|(try rw[ae]);omega

def mL (b:Bool):Int:=if b then 1 else 0
def hZ (t:az):List Int:=t.table::(t.select++(mL t.ge::t.drive))
def fN (l:List az) (n:Nat):List Int:=(l.take n).flatMap hZ
def iE (l:List (Int×Bool)) (n:Nat):List Int:=(l.take n).flatMap fun p=>[p.1,mL p.2]
def dq (l:List Int):Int:=l.foldl (fun s b=>(s*257+b+1)%65521) 1
def jh (k:bu):List Int:=
 let out:=fN k.tiles k.tiles.length++iE k.pads k.pads.length
 out ++ [dq out/256%256,dq out%256]
def Tryz.qs (b:Bool):Pure prog 156 [dB b] (.int .u8 (mL b)):=by
 refine bw func156 rfl ntmps156 fun ok=>?_
 simp only[go_sem,seval] at ok⊢;cases b <;> simp[mL]
def BH (l:List Int) (n:Nat):0<=dq (l.take n)/\dq (l.take n)<65521:=by
 induction n with
 | zero=>simp[dq]
 | succ n ih=>
  by_cases h:n<l.length
  ·have e:dq (l.take (n+1))=(dq (l.take n)*257+l[n]+1)%65521:=by
    rw[m6 h,dq,mM];rfl
   rw[e];exact⟨Int.emod_nonneg _ (by decide),Int.emod_lt_of_pos _ (by decide)⟩
  ·rw[ag (by omega)] at ih ⊢;exact ih
def FS (l:List Int) (h:n<l.length):dq (l.take (n+1))=(dq (l.take n)*257+l.getD n 0+1)%65521:=by
 rw[m6 h,dq,mM];simp[List.getD,h,dq]
def Tryz.mZ (l:List Int) (hl : ∀ x∈l,0<=x/\x<=255) (hn:l.length<=1000000):Pure prog 157 [mW l] (dI (dq l)):=by
 refine bw func157 rfl ntmps157 fun ok=>?_
 simp only[go_sem,seval] at ok⊢
 repeat' first|assumption|simp (disch:=first|assumption|omega|simp;try omega) only[ag,aB];try simp only[go_sem,seval]|(with_reducible first|apply aa|intro)|(try rw[ae]);omega
 refine ce (E:=env 0) tok (σ:=Nat) (fun i=>[(3,.d (dI (dq (l.take i)))),(6,.d (mW l)),(7,.d (dI l.length)),(8,.d (dI i))]) (fun _=>[]) (fun i=>i<=l.length) (fun i=>l.length-i) [] 1000 1000 ?_ ?_ ?_
 ·simp only[go_sem,seval]
 ·simp only[go_sem,seval];exact⟨0,by omega,rfl,rfl⟩
 ·intro i hi;have hs:=BH l i;by_cases hlt:i<l.length
  ·have hb:=hl _ (aP hlt:l.getD i 0∈l);have hss:=FS l hlt;generalize dq (l.take i)=s at *
   generalize hb9:l.getD i 0=b at *
   simp only[go_sem,seval,hb9]
   repeat' first|assumption|simp (disch:=first|assumption|omega|simp;try omega) only[ag,aB];try simp only[go_sem,seval,hb9]|(with_reducible first|apply aa|intro)|(try rw[ae]);omega
   all_goals first|(rw[ae];omega)|skip
   refine⟨i+1,by omega,by omega,?_,rfl⟩;rw[hss]
  ·obtain rfl:i=l.length:=by omega
   simp only[go_sem,seval]
   repeat' first|assumption|simp (disch:=first|assumption|omega|simp;try omega) only[ag,aB];try simp only[go_sem,seval]|(with_reducible first|apply aa|intro)|(try rw[ae]);omega
def yR {l:List az}(h : ∀ j,j<l.length->(l.getD j bE).select.length=3/\(l.getD j bE).drive.length=8) : ∀ n,(fN l n).length<=13*n
 | 0=>by simp[fN]
 | n+1=>by
  have ih:=yR h n;by_cases hn:n<l.length
  ·have:=h n hn;have e:l.getD n bE=l[n]:=by simp[List.getD,hn]
   unfold fN at *
   rw[m6 hn,List.flatMap_append,cr];rw[e] at this;simp only[mA,List.flatMap_nil,jN,hZ,cU,cr];omega
  ·unfold fN at *
   rw[ag (by omega)] at ih ⊢;omega
def E4 {l:List az}(h:n<l.length):fN l (n+1)=fN l n++hZ (l.getD n bE):=by
 unfold fN;rw[m6 h,List.flatMap_append];simp[List.getD,h]
def Cc (h:n<l.length):iE l (n+1)=iE l n ++ [(l.getD n (0,false)).1,mL (l.getD n (0,false)).2]:=by
 unfold iE;rw[m6 h,List.flatMap_append];simp[List.getD,h]
def fh {l:List Int}{j:Nat}(h:j<l.length):l.take (j+1)=l.take j ++ [l.getD j 0]:=by
 rw[m6 h];simp[List.getD,h]
def Ca (h:n<=l.length):(iE l n).length=2*n:=by
 induction n with
 | zero=>simp[iE]
 | succ n ih=>
  rw[Cc (by omega),cr,ih (by omega)];simp;omega
def AK (b:Bool):0<=mL b/\mL b<=1:=by cases b <;> simp[mL]
def G7 (hk:k.ok) : ∀ x∈fN k.tiles 25,0<=x/\x<=255:=by
 intro x hx;obtain⟨t,ht,hx⟩:=List.mem_flatMap.1 hx;obtain⟨i,hi,rfl⟩:=fO bE (jX ht);have hto:=az.cA.1 (hk.2.2 i hi);generalize k.tiles.getD i bE=t at *
 obtain⟨⟨a1,a2⟩,_,_,h3,h4⟩:=hto;unfold hZ at hx;rcases List.mem_cons.1 hx with rfl|hx
 ·omega
 rcases List.mem_append.1 hx with hx|hx
 ·obtain⟨j,hj,rfl⟩:=fO (0:Int) hx;have:=h3 j hj;simp only[jR,oD,gN,decide_eq_true_eq] at this;omega
 rcases List.mem_cons.1 hx with rfl|hx
 ·have:=AK t.ge;omega
 ·obtain⟨j,hj,rfl⟩:=fO (0:Int) hx;have:=h4 j hj;simp only[fH,decide_eq_true_eq] at this;omega
def Kt (hk:k.ok) : ∀ x∈iE k.pads 3,0<=x/\x<=255:=by
 intro x hx;obtain⟨p,hp,hx⟩:=List.mem_flatMap.1 hx;obtain⟨i,hi,rfl⟩:=fO (0,false) (jX hp);have:=hk.2.1.2 i hi;generalize k.pads.getD i (0,false)=p at *
 simp only[jR,oD,gN,decide_eq_true_eq] at this;have h2:=AK p.2;simp at hx;rcases hx with rfl|rfl <;> omega
def Tryz.ji (k:bu):Pure prog 89 [dK k] (mW (if k.ok then jh k else [])):=by
 have hc:=jV k;refine bw func89 rfl ntmps89 fun ok=>?_
 simp only[go_sem,seval] at ok⊢
 repeat' first|assumption|simp (disch:=first|assumption|omega|simp;try omega) only[ag,aB];try simp only[go_sem,seval]|(with_reducible first|apply aa|intro)|(refine aA hc ?_;simp only[go_sem,seval])|(try rw[ae]);omega
 ·rename_i h;rw[if_neg (by simpa using h)];rfl
 rename_i h;have hk:k.ok:=by simpa using h
 have hla:k.tiles.length=25:=hk.1;rw[if_pos hk];refine bt (E:=env 0) tok (σ:=Nat) (fun i=>[(1,.ptr 0 0),(3,.sl 1 (fN k.tiles i).length 1 0 (fN k.tiles i).length),(17,.d (fq k.tiles)),(18,.d (dI k.tiles.length)),(19,.d (dI i))])
  (fun i=>[.box [.d (fq k.tiles),.d (mE k.pads)],.row (fN k.tiles i).length 1 true ((fN k.tiles i).map (D.int .u8))]) (fun i=>i<=25) (fun i=>25-i) [] [(3,1,true)] 1000 1000 ?_ ?_
 ·simp only[go_sem,seval];exact⟨0,by omega,by simp[fN]⟩
 ·intro i hi;by_cases hlt:i<25
  ·have hqs:=E4 (l:=k.tiles) (n:=i) (by omega);have hql:=yR (l:=k.tiles) (fun j hj=>bu.eS hk (by omega)) i;have hto:=az.cA.1 (hk.2.2 i (by omega));have gx:=bV (z:=D.agg [D.int .i64 0,.nil,.bool false,.nil]) (show i<k.tiles.length by omega);have hfl:=qs (k.tiles.getD i bE).ge;generalize fN k.tiles i=q at *
   generalize k.tiles.getD i bE=t at *
   obtain⟨t1,t2,t3,t4⟩:=t;obtain⟨⟨ht1,ht2⟩,hs1,hs2,hs3,hs4⟩:=hto;simp only at ht1 ht2 hs1 hs2 hs3 hs4 hfl;have hm1:t1%256=t1:=by omega
   simp only[go_sem,seval,gx,hla,hm1]
   repeat' first|assumption|simp (disch:=first|assumption|omega|simp;try omega) only[ag,aB];try simp only[go_sem,seval,gx,hla,hm1]|(with_reducible first|apply aa|intro)|(try rw[ae]);omega
   refine bt (E:=env 0) tok (σ:=Nat) (fun j=>[(1,.ptr 0 0),(3,.sl 1 (q++t1::t2.take j).length 1 0 (q++t1::t2.take j).length),(5,.ptr 2 0),(17,.d (fq k.tiles)),(18,.d (dI 25)),(19,.d (dI i)),(30,.d (ai t2)),(31,.d (dI t2.length)),(32,.d (dI j))])
    (fun j=>[.box [.d (fq k.tiles),.d (mE k.pads)],.row (q++t1::t2.take j).length 1 true ((q++t1::t2.take j).map (D.int .u8)),.box [.d (dI t1),.d (ai t2),.d (dB t3),.d (ai t4)]]) (fun j=>j<=3) (fun j=>3-j) [] [] 1000 1000 ?_ ?_
   ·simp only[go_sem,seval];exact⟨0,by omega,by simp⟩
   ·intro j hj;by_cases hlj:j<3
    ·have htk:=fh (l:=t2) (j:=j) (by omega);have hsj:=hs3 j (by omega);simp only[jR,oD,gN,decide_eq_true_eq] at hsj;generalize hv9:t2.getD j 0=v at *
     have hm9:v%256=v:=by omega
     simp only[go_sem,seval,hv9,hs1,hm9]
     repeat' first|assumption|simp (disch:=first|assumption|omega|simp;try omega) only[ag,aB];try simp only[go_sem,seval,hv9,hs1,hm9]|(with_reducible first|apply aa|intro)|(try rw[ae]);omega
     ·have:(t2.take j).length<=3:=by rw[fW];omega
      omega
     ·have e1:(t2.take j).length=j:=by rw[fW];omega
      have e2:(t2.take (j+1)).length=j+1:=by rw[fW];omega
      refine⟨j+1,by omega,by omega,⟨by rw[e1,e2];omega,rfl⟩,by rw[e1,e2];omega,?_⟩;rw[htk];simp
    ·obtain rfl:j=3:=by omega
     simp only[go_sem,seval,hs1]
     repeat' first|assumption|simp (disch:=first|assumption|omega|simp;try omega) only[ag,aB];try simp only[go_sem,seval,hs1]|(with_reducible first|apply aa|intro)|(refine aA hfl ?_;simp only[go_sem,seval,hs1])|(try rw[ae]);omega
     refine bt (E:=env 0) tok (σ:=Nat) (fun j=>[(1,.ptr 0 0),(3,.sl 1 (q.length+5+j) 1 0 (q.length+5+j)),(17,.d (fq k.tiles)),(18,.d (dI 25)),(19,.d (dI i)),(49,.d (ai t4)),(50,.d (dI t4.length)),(51,.d (dI j))])
      (fun j=>[.box [.d (fq k.tiles),.d (mE k.pads)],.row (q.length+5+j) 1 true ((q++t1::t2 ++ [mL t3]++t4.take j).map (D.int .u8))]) (fun j=>j<=8) (fun j=>8-j) [] [] 1000 1000 ?_ ?_
     ·simp only[go_sem,seval];exact⟨0,by omega,by simp⟩
     ·intro j hj;by_cases hlj:j<8
      ·have htk:=fh (l:=t4) (j:=j) (by omega);have hsj:=hs4 j (by omega);simp only[fH,decide_eq_true_eq] at hsj;generalize hv9:t4.getD j 0=v at *
       have htl:(t4.take j).length=j:=by rw[fW];omega
       have hm9:v%256=v:=by omega
       simp only[go_sem,seval,hv9,hs2,hs1,htl,hm9]
       repeat' first|assumption|simp (disch:=first|assumption|omega|simp;try omega) only[ag,aB];try simp only[go_sem,seval,hv9,hs2,hs1,htl,hm9]|(with_reducible first|apply aa|intro)|(try rw[ae]);omega
       ·refine⟨j+1,by omega,by omega,⟨by omega,rfl⟩,by omega,?_⟩;rw[htk];simp
      ·obtain rfl:j=8:=by omega
       have htl:t4.take 8=t4:=ag (by omega);simp only[go_sem,seval,hs2,htl]
       repeat' first|assumption|simp (disch:=first|assumption|omega|simp;try omega) only[ag,aB];try simp only[go_sem,seval,hs2,htl]|(with_reducible first|apply aa|intro)|(try rw[ae]);omega
       refine⟨i+1,by omega,by omega,⟨?_,rfl⟩,?_,?_⟩
       ·rw[hqs];simp[hZ];omega
       ·rw[hqs];simp[hZ];omega
       ·rw[hqs];simp[hZ]
  ·obtain rfl:i=25:=by omega
   have hql:=yR (l:=k.tiles) (fun j hj=>bu.eS hk (by omega)) 25;have hpl:=hk.2.1.1;have hqb:=G7 hk;have hcd:jh k=(fN k.tiles 25++iE k.pads 3) ++ [dq (fN k.tiles 25++iE k.pads 3)/256%256,dq (fN k.tiles 25++iE k.pads 3)%256]:=by
    unfold jh;rw[hla,hpl]
   have hpt:=fun j (hj:j<3)=>hk.2.1.2 j (by omega)
   generalize fN k.tiles 25=q at *
   simp only[go_sem,seval]
   repeat' first|assumption|simp (disch:=first|assumption|omega|simp;try omega) only[ag,aB];try simp only[go_sem,seval]|(with_reducible first|apply aa|intro)|(try rw[ae]);omega
   refine bt (E:=env 0) tok (σ:=Nat) (fun j=>[(3,.sl 1 (q.length+j) 1 0 (q.length+2*j)),(63,.d (mE k.pads)),(64,.d (dI k.pads.length)),(65,.d (dI j))])
    (fun j=>[.box [.d (fq k.tiles),.d (mE k.pads)],.row (q.length+j) 1 true ((q++iE k.pads j).map (D.int .u8))]) (fun j=>j<=3) (fun j=>3-j) [] [] 1000 1000 ?_ ?_
   ·simp only[go_sem,seval];exact⟨0,by omega,by simp[iE]⟩
   ·intro j hj;have hel:=Ca (l:=k.pads) (n:=j) (by omega);by_cases hlj:j<3
    ·have hes:=Cc (l:=k.pads) (n:=j) (by omega);have gy:=bU (z:=D.agg [D.int .i64 0,.bool false]) (show j<k.pads.length by omega);have hsj:=hpt j hlj;have hfl:=qs (k.pads.getD j (0,false)).2;generalize k.pads.getD j (0,false)=p at *
     obtain⟨p1,p2⟩:=p;simp only[jR,oD,gN,decide_eq_true_eq] at hsj;have hm9:p1%256=p1:=by omega
     simp only[go_sem,seval,gy,hpl,hel,hm9]
     repeat' first|assumption|simp (disch:=first|assumption|omega|simp;try omega) only[ag,aB];try simp only[go_sem,seval,gy,hpl,hel,hm9]|(with_reducible first|apply aa|intro)|(try rw[ae]);omega
     refine cg (n:=0) [8] (aw [0,1,4,2,3,5] (.one 6 (.one 7 (.one 8 (.fst 9 .done))))) ?_;simp only[go_sem,seval,gy,hpl,hel,hm9]
     repeat' first|assumption|simp (disch:=first|assumption|omega|simp;try omega) only[ag,aB];try simp only[go_sem,seval,gy,hpl,hel,hm9]|(with_reducible first|apply aa|intro)|(refine aA hfl ?_;simp only[go_sem,seval,gy,hpl,hel,hm9])|(try rw[ae]);omega
     exact⟨j+1,by omega,by omega,⟨⟨by omega,by omega⟩,rfl⟩,by omega,by rw[hes];simp⟩
    ·obtain rfl:j=3:=by omega
     have hbd : ∀ x∈q++iE k.pads 3,0<=x/\x<=255:=fun x hx=>by
      rcases List.mem_append.1 hx with h|h
      ·exact hqb x h
      ·exact Kt hk x h
     have hck:=mZ (q++iE k.pads 3) hbd (by simp[hel];omega);have hsb:=BH (q++iE k.pads 3) (q++iE k.pads 3).length;rw[iA] at hsb;simp only[go_sem,seval,hpl,hel]
     repeat' first|assumption|simp (disch:=first|assumption|omega|simp;try omega) only[ag,aB];try simp only[go_sem,seval,hpl,hel]|(with_reducible first|apply aa|intro)|(refine aA hck ?_;simp only[go_sem,seval,hpl,hel])|(try rw[ae]);omega
     rw[hcd];simp

def IX {α : Type}{f : α->List Int}{n:Nat} : ∀ {l:List α},(∀ x∈l,(f x).length=n)->(l.flatMap f).length=n*l.length
 | [],_=>rfl
 | x::l,h=>by
  rw[mA,cr,h x (ld ..),IX fun y hy=>h y (fP _ hy),cU,Nat.mul_succ];omega
def LP {t:az}(h:t.select.length=3/\t.drive.length=8):(hZ t).length=13:=by
 simp[hZ,h.1,h.2]
def Nd (hk:k.ok) : ∀ t∈k.tiles,(hZ t).length=13:=fun t ht=>by
 obtain⟨i,hi,rfl⟩:=fO bE ht;exact LP (bu.eS hk (by have:=hk.1;omega))
def Lz (hk:k.ok):(fN k.tiles 25).length=325:=by
 unfold fN;rw[ag (by have:=hk.1;omega),IX (Nd hk),hk.1]
def E5 (hk:k.ok):jh k=(fN k.tiles 25++iE k.pads 3) ++ [dq (fN k.tiles 25++iE k.pads 3)/256%256,dq (fN k.tiles 25++iE k.pads 3)%256]:=by
 unfold jh;rw[hk.1,hk.2.1.1]
def NX (hk:k.ok):(jh k).length=333:=by
 rw[E5 hk,cr,cr,Lz hk,Ca (by have:=hk.2.1.1;omega)];rfl

def Tryz.nU (b:Bool):Pure prog 153 [dB b] (dI (mL b)):=by
 refine bw func153 rfl ntmps153 fun ok=>?_
 simp only[go_sem,seval] at ok⊢;cases b <;> simp[mL]
def Tryz.rI (l:List Int) (hl : ∀ x∈l,0<=x/\x<=255) (hn:l.length<=1000000):Pure prog 154 [mW l] (dI (dq l)):=by
 refine bw func154 rfl ntmps154 fun ok=>?_
 simp only[go_sem,seval] at ok⊢
 repeat' first|assumption|simp (disch:=first|assumption|omega|simp;try omega) only[ag,aB];try simp only[go_sem,seval]|(with_reducible first|apply aa|intro)|(try rw[ae]);omega
 refine ce (E:=env 0) tok (σ:=Nat) (fun i=>[(0,.d (mW l)),(3,.d (dI (dq (l.take i)))),(4,.d (dI i))]) (fun _=>[]) (fun i=>i<=l.length) (fun i=>l.length-i) [] 1000 1000 ?_ ?_ ?_
 ·simp only[go_sem,seval]
 ·simp only[go_sem,seval];exact⟨0,by omega,rfl,rfl⟩
 ·intro i hi;have hs:=BH l i;by_cases hlt:i<l.length
  ·have hb:=hl _ (aP hlt:l.getD i 0∈l);have hss:=FS l hlt;generalize dq (l.take i)=s at *
   generalize hb9:l.getD i 0=b at *
   simp only[go_sem,seval,hb9]
   repeat' first|assumption|simp (disch:=first|assumption|omega|simp;try omega) only[ag,aB];try simp only[go_sem,seval,hb9]|(with_reducible first|apply aa|intro)|(try rw[ae]);omega
   all_goals first|(rw[ae];omega)|skip
   refine⟨i+1,by omega,by omega,?_,rfl⟩;rw[hss]
  ·obtain rfl:i=l.length:=by omega
   simp only[go_sem,seval]
   repeat' first|assumption|simp (disch:=first|assumption|omega|simp;try omega) only[ag,aB];try simp only[go_sem,seval]|(with_reducible first|apply aa|intro)|(try rw[ae]);omega
def Tryz.iM (k:bu) (hk:k.ok):Pure prog 86 [dK k] (mW (jh k)):=by
 have hc:=jB k;refine bw func86 rfl ntmps86 fun ok=>?_
 simp only[go_sem,seval] at ok⊢
 repeat' first|assumption|simp (disch:=first|assumption|omega|simp;try omega) only[ag,aB];try simp only[go_sem,seval]|(with_reducible first|apply aa|intro)|(refine aA hc ?_;simp only[go_sem,seval])|(try rw[ae]);omega
 ·rename_i h;exact absurd hk (by simpa using h)
 have hla:k.tiles.length=25:=hk.1;have hpl:=hk.2.1.1;refine bt (E:=env 0) tok (σ:=Nat) (fun i=>[(1,.ptr 0 0),(3,.sl 1 (fN k.tiles i).length 1 0 (fN k.tiles i).length),(4,.d (dI i))])
  (fun i=>[.box [.d (fq k.tiles),.d (mE k.pads)],.row (fN k.tiles i).length 1 true ((fN k.tiles i).map (D.int .u8))]) (fun i=>i<=25) (fun i=>25-i) [] [] 1000 1000 ?_ ?_
 ·simp only[go_sem,seval];exact⟨0,by omega,by simp[fN]⟩
 ·intro i hi;by_cases hlt:i<25
  ·have hqs:=E4 (l:=k.tiles) (n:=i) (by omega);have hql:=yR (l:=k.tiles) (fun j hj=>bu.eS hk (by omega)) i;have hto:=az.cA.1 (hk.2.2 i (by omega));have gx:=bV (z:=D.agg [D.int .i64 0,.nil,.bool false,.nil]) (show i<k.tiles.length by omega);have hfl:=nU (k.tiles.getD i bE).ge;generalize fN k.tiles i=q at *
   generalize k.tiles.getD i bE=t at *
   obtain⟨t1,t2,t3,t4⟩:=t;obtain⟨⟨ht1,ht2⟩,hs1,hs2,hs3,hs4⟩:=hto;simp only at ht1 ht2 hs1 hs2 hs3 hs4 hfl;have hm1:t1%256=t1:=by omega
   simp only[go_sem,seval,gx,hla,hm1]
   repeat' first|assumption|simp (disch:=first|assumption|omega|simp;try omega) only[ag,aB];try simp only[go_sem,seval,gx,hla,hm1]|(with_reducible first|apply aa|intro)|(try rw[ae]);omega
   refine bt (E:=env 0) tok (σ:=Nat) (fun j=>[(1,.ptr 0 0),(3,.sl 1 (q++t1::t2.take j).length 1 0 (q++t1::t2.take j).length),(4,.d (dI i)),(5,.ptr 2 0),(6,.d (dI j))])
    (fun j=>[.box [.d (fq k.tiles),.d (mE k.pads)],.row (q++t1::t2.take j).length 1 true ((q++t1::t2.take j).map (D.int .u8)),.box [.d (dI t1),.d (ai t2),.d (dB t3),.d (ai t4)]]) (fun j=>j<=3) (fun j=>3-j) [] [] 1000 1000 ?_ ?_
   ·simp only[go_sem,seval];exact⟨0,by omega,by simp⟩
   ·intro j hj;by_cases hlj:j<3
    ·have htk:=fh (l:=t2) (j:=j) (by omega);have hsj:=hs3 j (by omega);simp only[jR,oD,gN,decide_eq_true_eq] at hsj;generalize hv9:t2.getD j 0=v at *
     have hm9:v%256=v:=by omega
     simp only[go_sem,seval,hv9,hs1,hm9]
     repeat' first|assumption|simp (disch:=first|assumption|omega|simp;try omega) only[ag,aB];try simp only[go_sem,seval,hv9,hs1,hm9]|(with_reducible first|apply aa|intro)|(try rw[ae]);omega
     ·have:(t2.take j).length<=3:=by rw[fW];omega
      omega
     ·have e1:(t2.take j).length=j:=by rw[fW];omega
      have e2:(t2.take (j+1)).length=j+1:=by rw[fW];omega
      refine⟨j+1,by omega,by omega,⟨by rw[e1,e2];omega,rfl⟩,by rw[e1,e2];omega,?_⟩;rw[htk];simp
    ·obtain rfl:j=3:=by omega
     have hb9:=AK t3;have hmb:mL t3%256=mL t3:=by omega
     simp only[go_sem,seval,hs1]
     repeat' first|assumption|simp (disch:=first|assumption|omega|simp;try omega) only[ag,aB];try simp only[go_sem,seval,hs1,hmb]|(with_reducible first|apply aa|intro)|(refine aA hfl ?_;simp only[go_sem,seval,hs1,hmb])|(try rw[ae]);omega
     refine bt (E:=env 0) tok (σ:=Nat) (fun j=>[(1,.ptr 0 0),(3,.sl 1 (q.length+5+j) 1 0 (q.length+5+j)),(4,.d (dI i)),(5,.ptr 2 0),(7,.d (dI j))])
      (fun j=>[.box [.d (fq k.tiles),.d (mE k.pads)],.row (q.length+5+j) 1 true ((q++t1::t2 ++ [mL t3]++t4.take j).map (D.int .u8)),.box [.d (dI t1),.d (ai t2),.d (dB t3),.d (ai t4)]]) (fun j=>j<=8) (fun j=>8-j) [] [] 1000 1000 ?_ ?_
     ·simp only[go_sem,seval];exact⟨0,by omega,by simp⟩
     ·intro j hj;by_cases hlj:j<8
      ·have htk:=fh (l:=t4) (j:=j) (by omega);have hsj:=hs4 j (by omega);simp only[fH,decide_eq_true_eq] at hsj;generalize hv9:t4.getD j 0=v at *
       have htl:(t4.take j).length=j:=by rw[fW];omega
       have hm9:v%256=v:=by omega
       simp only[go_sem,seval,hv9,hs2,hs1,htl,hm9]
       repeat' first|assumption|simp (disch:=first|assumption|omega|simp;try omega) only[ag,aB];try simp only[go_sem,seval,hv9,hs2,hs1,htl,hm9]|(with_reducible first|apply aa|intro)|(try rw[ae]);omega
       refine⟨j+1,by omega,by omega,⟨by omega,rfl⟩,by omega,?_⟩;rw[htk];simp
      ·obtain rfl:j=8:=by omega
       have htl:t4.take 8=t4:=ag (by omega);simp only[go_sem,seval,hs2,htl]
       repeat' first|assumption|simp (disch:=first|assumption|omega|simp;try omega) only[ag,aB];try simp only[go_sem,seval,hs2,htl]|(with_reducible first|apply aa|intro)|(try rw[ae]);omega
       refine⟨i+1,by omega,by omega,⟨?_,rfl⟩,?_,?_⟩
       ·rw[hqs];simp[hZ];omega
       ·rw[hqs];simp[hZ];omega
       ·rw[hqs];simp[hZ]
  ·obtain rfl:i=25:=by omega
   have hql:=yR (l:=k.tiles) (fun j hj=>bu.eS hk (by omega)) 25;have hqb:=G7 hk;have hcd:=E5 hk;have hpt:=fun j (hj:j<3)=>hk.2.1.2 j (by omega)
   generalize fN k.tiles 25=q at *
   simp only[go_sem,seval]
   repeat' first|assumption|simp (disch:=first|assumption|omega|simp;try omega) only[ag,aB];try simp only[go_sem,seval]|(with_reducible first|apply aa|intro)|(try rw[ae]);omega
   refine bt (E:=env 0) tok (σ:=Nat) (fun j=>[(1,.ptr 0 0),(3,.sl 1 (q.length+j) 1 0 (q.length+2*j)),(8,.d (dI j))])
    (fun j=>[.box [.d (fq k.tiles),.d (mE k.pads)],.row (q.length+j) 1 true ((q++iE k.pads j).map (D.int .u8))]) (fun j=>j<=3) (fun j=>3-j) [] [] 1000 1000 ?_ ?_
   ·simp only[go_sem,seval];exact⟨0,by omega,by simp[iE]⟩
   ·intro j hj;have hel:=Ca (l:=k.pads) (n:=j) (by omega);by_cases hlj:j<3
    ·have hes:=Cc (l:=k.pads) (n:=j) (by omega);have gy:=bU (z:=D.agg [D.int .i64 0,.bool false]) (show j<k.pads.length by omega);have hsj:=hpt j hlj;have hfl:=nU (k.pads.getD j (0,false)).2;generalize k.pads.getD j (0,false)=p at *
     obtain⟨p1,p2⟩:=p;simp only[jR,oD,gN,decide_eq_true_eq] at hsj;have hm9:p1%256=p1:=by omega
     have hb9:=AK p2;have hmb:mL p2%256=mL p2:=by omega
     simp only[go_sem,seval,gy,hpl,hel,hm9]
     repeat' first|assumption|simp (disch:=first|assumption|omega|simp;try omega) only[ag,aB];try simp only[go_sem,seval,gy,hpl,hel,hm9]|(with_reducible first|apply aa|intro)|(try rw[ae]);omega
     refine cg (n:=0) [17] (aw [0,1,3,8,10,2,4,5,6,7,9,11,12,13] (.one 14 (.fst 15 (.one 16 (.one 17 (.fst 18 .done)))))) ?_;simp only[go_sem,seval,gy,hpl,hel,hm9]
     repeat' first|assumption|simp (disch:=first|assumption|omega|simp;try omega) only[ag,aB];try simp only[go_sem,seval,gy,hpl,hel,hm9,hmb]|(with_reducible first|apply aa|intro)|(refine aA hfl ?_;simp only[go_sem,seval,gy,hpl,hel,hm9,hmb])|(try rw[ae]);omega
     exact⟨j+1,by omega,by omega,⟨⟨by omega,by omega⟩,rfl⟩,by omega,by rw[hes];simp⟩
    ·obtain rfl:j=3:=by omega
     have hbd : ∀ x∈q++iE k.pads 3,0<=x/\x<=255:=fun x hx=>by
      rcases List.mem_append.1 hx with h|h
      ·exact hqb x h
      ·exact Kt hk x h
     have hck:=rI (q++iE k.pads 3) hbd (by simp[hel];omega);have hsb:=BH (q++iE k.pads 3) (q++iE k.pads 3).length;rw[iA] at hsb;simp only[go_sem,seval,hpl,hel]
     repeat' first|assumption|simp (disch:=first|assumption|omega|simp;try omega) only[ag,aB];try simp only[go_sem,seval,hpl,hel]|(with_reducible first|apply aa|intro)|(refine aA hck ?_;simp only[go_sem,seval,hpl,hel])|(try rw[ae]);omega
     rw[hcd];simp

noncomputable def nI (c:ac):Option (List Int):=open Classical in if c.Valid then(i7 (cB c) []).map jh else none
def EH (h:i7 c list=some k):k.ok:=by
 obtain⟨-,-,rs,R,-,rfl⟩:=LV h;exact R.ok
def Tryz.oG (c:ac):Pure prog 26 [dC c] (.tup [mW ((nI c).getD []),dB (nI c).isSome]):=by
 classical
 have hcv:=a8 c;have ho:=zV c;by_cases hv:c.Valid
 ·rw[decide_eq_true hv] at hcv;rw[if_pos hv] at ho;have hR:=ip (cB c);have e:nI c=(i7 (cB c) []).map jh:=if_pos hv;rw[e];cases hA:i7 (cB c) [] with
  | none=>
   rw[hA] at hR;rw[j6];refine l4 (E:=env 0) tok rfl 1000 func26 rfl rfl ntmps26 (by simp) fun ok=>?_
   simp only[go_sem,seval,-List.reduceReplicate] at ok;simp only[go_sem,seval,-List.reduceReplicate]
   repeat' first|assumption|simp (disch:=first|assumption|omega|simp;try omega) only[];try simp only[go_sem,seval,-List.reduceReplicate]|(with_reducible first|apply aa|intro)|(refine aA ho ?_;simp only[go_sem,seval,-List.reduceReplicate])|(refine aA hR ?_;simp only[go_sem,seval,-List.reduceReplicate])|(refine io (x:=.nil) (fun h=>by cases h) ?_;simp only[go_sem,seval,-List.reduceReplicate])|(try rw[ae]);omega
   all_goals first|rfl|simp[fY,iW,fQ,kz]
  | some k=>
   rw[hA] at hR;have hE:=ji k;rw[if_pos (EH hA)] at hE;rw[k6];refine l4 (E:=env 0) tok rfl 1000 func26 rfl rfl ntmps26 (by simp) fun ok=>?_
   simp only[go_sem,seval,-List.reduceReplicate] at ok;simp only[go_sem,seval,-List.reduceReplicate]
   repeat' first|assumption|simp (disch:=first|assumption|omega|simp;try omega) only[];try simp only[go_sem,seval,-List.reduceReplicate]|(with_reducible first|apply aa|intro)|(refine aA ho ?_;simp only[go_sem,seval,-List.reduceReplicate])|(refine aA hR ?_;simp only[go_sem,seval,-List.reduceReplicate])|(refine io (fun _=>hcv) ?_;simp only[go_sem,seval,-List.reduceReplicate])|(refine lu hE ?_;simp only[go_sem,seval,-List.reduceReplicate])|(try rw[ae]);omega
   all_goals first|rfl|simp[fY,iW,fQ,kz]
 ·rw[decide_eq_false hv] at hcv;rw[if_neg hv] at ho;have hR:=ip ac.zero;generalize (i7 ac.zero []).isSome=b at *
  generalize (i7 ac.zero []).getD kz=k at *
  have e:nI c=none:=if_neg hv;rw[e];cases b with
  | false=>
   refine l4 (E:=env 0) tok rfl 1000 func26 rfl rfl ntmps26 (by simp) fun ok=>?_
   simp only[go_sem,seval,-List.reduceReplicate] at ok;simp only[go_sem,seval,-List.reduceReplicate]
   repeat' first|assumption|simp (disch:=first|assumption|omega|simp;try omega) only[];try simp only[go_sem,seval,-List.reduceReplicate]|(with_reducible first|apply aa|intro)|(refine aA ho ?_;simp only[go_sem,seval,-List.reduceReplicate])|(refine aA hR ?_;simp only[go_sem,seval,-List.reduceReplicate])|(refine io (x:=.nil) (fun h=>by cases h) ?_;simp only[go_sem,seval,-List.reduceReplicate])|(try rw[ae]);omega
   all_goals first|rfl|simp[fY,iW,fQ,kz]
  | true=>
   refine l4 (E:=env 0) tok rfl 1000 func26 rfl rfl ntmps26 (by simp) fun ok=>?_
   simp only[go_sem,seval,-List.reduceReplicate] at ok;simp only[go_sem,seval,-List.reduceReplicate]
   repeat' first|assumption|simp (disch:=first|assumption|omega|simp;try omega) only[];try simp only[go_sem,seval,-List.reduceReplicate]|(with_reducible first|apply aa|intro)|(refine aA ho ?_;simp only[go_sem,seval,-List.reduceReplicate])|(refine aA hR ?_;simp only[go_sem,seval,-List.reduceReplicate])|(refine io (fun _=>hcv) ?_;simp only[go_sem,seval,-List.reduceReplicate])|(try rw[ae]);omega
   all_goals first|rfl|simp[fY,iW,fQ,kz]
def Tryz.nA (c:ac):Pure prog 24 [dC c] (.tup [mW ((nI c).getD []),dB (nI c).isSome]):=by
 classical
 have hcv:=cR c;by_cases hv:c.Valid
 ·rw[decide_eq_true hv] at hcv;have ho:=lD c hv (Cx hv);have hR:=kN (cB c);rw[<-N8] at hR;have e:nI c=(i7 (cB c) []).map jh:=if_pos hv;rw[e];cases hA:i7 (cB c) [] with
  | none=>
   rw[hA] at hR;rw[j6];refine l4 (E:=env 0) tok rfl 1000 func24 rfl rfl ntmps24 (by simp) fun ok=>?_
   simp only[go_sem,seval,-List.reduceReplicate] at ok;simp only[go_sem,seval,-List.reduceReplicate]
   repeat' first|assumption|simp (disch:=first|assumption|omega|simp;try omega) only[];try simp only[go_sem,seval,-List.reduceReplicate]|(with_reducible first|apply aa|intro)|(refine aA hcv ?_;simp only[go_sem,seval,-List.reduceReplicate])|(refine kA ho ?_;simp only[go_sem,seval,-List.reduceReplicate])|(refine aA hR ?_;simp only[go_sem,seval,-List.reduceReplicate])|(try rw[ae]);omega
   all_goals first|rfl|simp[fY,iW,fQ,kz]
  | some k=>
   rw[hA] at hR;have hE:=iM k (EH hA);rw[k6];refine l4 (E:=env 0) tok rfl 1000 func24 rfl rfl ntmps24 (by simp) fun ok=>?_
   simp only[go_sem,seval,-List.reduceReplicate] at ok;simp only[go_sem,seval,-List.reduceReplicate]
   repeat' first|assumption|simp (disch:=first|assumption|omega|simp;try omega) only[];try simp only[go_sem,seval,-List.reduceReplicate]|(with_reducible first|apply aa|intro)|(refine aA hcv ?_;simp only[go_sem,seval,-List.reduceReplicate])|(refine kA ho ?_;simp only[go_sem,seval,-List.reduceReplicate])|(refine aA hR ?_;simp only[go_sem,seval,-List.reduceReplicate])|(refine lu hE ?_;simp only[go_sem,seval,-List.reduceReplicate])|(try rw[ae]);omega
   all_goals first|rfl|simp[fY,iW,fQ,kz]
 ·rw[decide_eq_false hv] at hcv;have e:nI c=none:=if_neg hv;rw[e];refine l4 (E:=env 0) tok rfl 1000 func24 rfl rfl ntmps24 (by simp) fun ok=>?_
  simp only[go_sem,seval,-List.reduceReplicate] at ok;simp only[go_sem,seval,-List.reduceReplicate]
  repeat' first|assumption|simp (disch:=first|assumption|omega|simp;try omega) only[];try simp only[go_sem,seval,-List.reduceReplicate]|(with_reducible first|apply aa|intro)|(refine aA hcv ?_;simp only[go_sem,seval,-List.reduceReplicate])|(try rw[ae]);omega
  all_goals first|rfl|simp[fY,iW,fQ,kz]

def Tryz.oF (a b:List Int):Pure prog 27 [mW a,mW b] (.bool (decide (a=b))):=by
 refine bw func27 rfl ntmps27 fun ok=>?_
 simp only[go_sem,seval] at ok⊢;refine⟨fun h=>?_,fun hlen=>?_⟩
 ·simp only[false_eq_decide_iff];rintro rfl;exact h rfl
 refine ce (E:=env 0) tok (σ:=Nat) (fun i=>[(0,.d (mW a)),(1,.d (mW b)),(5,.d (dI i))]) (fun _=>[]) (fun i=>i<=a.length/\∀ j,j<i->a.getD j 0=b.getD j 0) (fun i=>a.length-i) [] 1000 1000 ?_ ?_ ?_
 ·simp only[go_sem,seval]
 ·simp only[go_sem,seval];exact⟨0,⟨by omega,by omega⟩,rfl⟩
 ·intro i hi;simp only[go_sem,seval];refine⟨fun h1=>⟨by kernel_rfl,h1,by omega,fun h2=>?_,fun h2=>⟨by rw[ae];omega,i+1,⟨by omega,?_⟩,by omega,rfl⟩⟩,fun h1=>?_⟩
  ·simp only[false_eq_decide_iff];rintro rfl;exact h2 rfl
  ·intro j hj;by_cases hji:j=i
   ·subst hji;exact h2
   ·exact hi.2 j (by omega)
  ·simp only[true_eq_decide_iff];refine sq hlen fun j h3 h4=>?_
   have:=hi.2 j (by omega);simpa [List.getD,h3,h4] using this
def rn (k:Int) (m:Nat):List Int:=(List.range m).map fun(j:Nat)=>(k+(j:Int))%256
def Tryz.eW:List Int->Int->Int
 | [],k=>k
 | x::r,k=>if x=k%256 then eW r (k+1) else -1
def Tryz.im (k:Int) : ∀ (m s:Nat),eW ((List.range' s m).map fun(j:Nat)=>(k+(j:Int))%256) (k+(s:Int))=k+((s+m:Nat):Int)
 | 0,s=>by simp[eW]
 | m+1,s=>by
  have:=im k m (s+1);simp only[List.range'_succ,jC,eW,if_true];have e:k+(s:Int)+1=k+((s+1:Nat):Int):=by omega
  rw[e,this];omega
def Tryz.mR (k:Int) (m:Nat):eW (rn k m) k=k+(m:Int):=by
 have:=im k m 0;rw[<-List.range_eq_range'] at this;simpa [rn] using this
def Tryz.l9 (a:List Int) (k:Int) (hk:0<=k/\k+a.length<=9000000000000000000):Pure prog 31 [mW a,dI k] (dI (eW a k)):=by
 refine bw func31 rfl ntmps31 fun ok=>?_
 simp only[go_sem,seval] at ok⊢;refine ce (E:=env 0) tok (σ:=Nat) (fun i=>[(0,.d (mW a)),(1,.d (dI (k+(i:Int)))),(5,.d (dI i))]) (fun _=>[]) (fun i=>i<=a.length/\eW a k=eW (a.drop i) (k+(i:Int))) (fun i=>a.length-i) [] 1000 1000 ?_ ?_ ?_
 ·simp only[go_sem,seval]
 ·simp only[go_sem,seval];exact⟨0,by simp⟩
 ·rintro i ⟨hi,hinv⟩;simp only[go_sem,seval]
  repeat' first|assumption|simp (disch:=first|assumption|omega|simp;try omega) only[];try simp only[go_sem,seval]|(with_reducible first|apply aa|intro)|(try rw[ae]);omega
  ·rename_i h1 h2;rw[hinv,FR 0 h1,eW,if_neg h2]
  ·rename_i h1 h2;refine⟨i+1,⟨by omega,?_⟩,by omega,by omega,rfl⟩;rw[hinv,FR 0 h1,eW,if_pos h2];congr 1;omega
  ·rw[hinv,rm (by omega),eW]
def Tryz.lX (g:Nat) (a:List Int) (k:Int) (hk:0<=k/\k+a.length<=9000000000000000000) (ha:a.length<=281474976710656) :
  la prog 30 [.sl 0 g 1 0 a.length,.d (dI k)] [.row g 1 true (a.map (D.int .u8))] (.d (dI (k+(a.length:Int)))) [.row g 1 true ((rn k a.length).map (D.int .u8))]:=by
 refine xU (E:=env 1) tok rfl 1000 func30 rfl rfl ntmps30 (by simp) ?_;simp only[go_sem,seval];refine ce (E:=env 1) tok (σ:=Nat×List Int) (fun s=>[(0,.sl 0 g 1 0 a.length),(1,.d (dI (k+(s.1:Int)))),(5,.d (dI s.1))]) (fun s=>[.row g 1 true (s.2.map (D.int .u8))]) (fun s=>s.1<=a.length/\s.2.length=a.length/\∀ (j:Nat),j<s.1->s.2.getD j 0=(k+(j:Int))%256) (fun s=>a.length-s.1) [] 1000 1000 ?_ ?_ ?_
 ·simp only[go_sem,seval]
 ·simp only[go_sem,seval];exact⟨(0,a),⟨by omega,rfl,fun j hj=>by simp at hj⟩,by simp⟩
 ·rintro⟨i,b⟩ ⟨hi,hb,hinv⟩;simp only at hi hb hinv;simp only[go_sem,seval]
  repeat' first|assumption|simp (disch:=first|assumption|omega|simp;try omega) only[];try simp only[go_sem,seval]|(with_reducible first|apply aa|intro)|(try rw[ae]);omega
  ·refine⟨(i+1,b.set i ((k+(i:Int))%256)),⟨by omega,by simpa using hb,?_⟩,by omega,by omega,rfl⟩;intro j hj;simp only at hj ⊢;by_cases hji:j=i
   ·subst hji;rw[xO _ (by omega)]
   ·rw[zl _ (by omega)];exact hinv j (by omega)
  ·refine oK 0 (by simpa [rn] using hb) fun j hj=>?_
   rw[hinv j (by omega)];simp[rn,List.getD,show j<a.length by omega]
end Go.Proofs
