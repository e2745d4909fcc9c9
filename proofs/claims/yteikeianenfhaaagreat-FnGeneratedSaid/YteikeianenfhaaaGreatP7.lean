/- Contracts, plain definitions and lemmas. Conditions: none; lemmas. -/
import Derived.Test.YteikeianenfhaaaGreatC7
import Derived.Test.YteikeianenfhaaaGreatP5
set_option maxRecDepth 20000
set_option linter.unusedSimpArgs false
set_option linter.unusedVariables false
set_option maxHeartbeats 2000000
namespace Go.Proofs
open Go Go.VL Tryz
@[go_sem] theorem xBin_str {T:Nat->Option TI}{H:List R}{op:BinOp}{a b:ByteArray}{sz bt:Nat}{z:D}:xBin T H op (.d (.raw (.string a))) (.d (.raw (.string b))) (some ⟨.string,sz,bt,z⟩)=xBT a b op:=rfl
theorem baL (bs:ByteArray) : ∀ (n i:Nat) (r:List UInt8),n=bs.size-i->ByteArray.toList.loop bs i r=r.reverse++bs.data.toList.drop i
 | n,i,r,h=>by
  unfold ByteArray.toList.loop;split
  ·rename_i h1;have h1':i<bs.data.size:=h1;have h2:i<bs.data.toList.length:=by rw[Array.length_toList];exact h1'
   rw[baL bs (n-1) (i+1) _ (by omega),List.reverse_cons,yaq,yaN h2];have e:bs.get! i=bs.data.toList[i]'h2:=by
    show bs.data[i]! = _
    rw[getElem!_pos bs.data i h1',Array.getElem_toList]
   rw[e];rfl
  ·rename_i h1;have h1' : ¬ i<bs.data.size:=h1;rw[yba (by rw[Array.length_toList];omega),yaL]
theorem qro (bs:ByteArray):bs.toList=bs.data.toList:=by
 show ByteArray.toList.loop bs 0 []=_
 rw[baL bs _ 0 [] rfl];simp
theorem qod : ∀ (l:List Int) (r:ByteArray),(l.foldl (fun r n=>r.push (UInt8.ofNat n.toNat)) r).data.toList=r.data.toList++l.map fun n=>UInt8.ofNat n.toNat
 | [],r=>by simp
 | x::l,r=>by rw[yap,qod l,ByteArray.data_push,Array.toList_push,yaq];rfl
theorem qmj (l:List Int):(bsOf l).toList=l.map fun n=>UInt8.ofNat n.toNat:=by rw[qro,bsOf,qod];rfl
theorem quL : ∀ {l m:List Int},(∀ x∈l,0<=x/\x<=255)->(∀ x∈m,0<=x/\x<=255)->(l.map fun n=>UInt8.ofNat n.toNat)=(m.map fun n=>UInt8.ofNat n.toNat)->l=m
 | [],[],_,_,_=>rfl
 | [],y::m,_,_,h=>by simp at h
 | x::l,[],_,_,h=>by simp at h
 | x::l,y::m,hl,hm,h=>by
  rw[yaI,yaI,List.cons.injEq] at h;have h1:=hl x (yaw ..);have h2:=hm y (yaw ..);have h3:=congrArg UInt8.toNat h.1;rw[UInt8.toNat_ofNat',UInt8.toNat_ofNat'] at h3;rw[quL (fun z hz=>hl z (yai _ hz)) (fun z hz=>hm z (yai _ hz)) h.2,show x=y by omega]
theorem str_eq {l m:List Int}(hl : ∀ x∈l,0<=x/\x<=255) (hm : ∀ x∈m,0<=x/\x<=255):((bsOf l).toList == (bsOf m).toList)=decide (l=m):=by
 rw[qmj,qmj];by_cases h:l=m
 ·subst h;simp
 ·rw[decide_eq_false h,beq_eq_false_iff_ne];exact fun h2=>h (quL hl hm h2)
theorem Tryz.c_bytesEqual (l m:List Int) (hl : ∀ x∈l,0<=x/\x<=255) (hm : ∀ x∈m,0<=x/\x<=255):Pure prog 168 [dUs l,dUs m] (.bool (decide (l=m))):=by
 have hs:=str_eq hl hm;refine qav func168 rfl ntmps168 fun ok=>?_
 simp only[go_sem,seval] at ok;simp only[go_sem,seval,hs]
 repeat' first|assumption|(simp (disch:=first|assumption|omega|(simp;done)|(simp;omega)) only[];try simp only[go_sem,seval,hs])|(with_reducible first|apply And.intro|intro _)|((try rw[qaa]);omega)

abbrev rdr (l:List Int):R:=.box [.d (dUs l),.d (dB false)]
theorem qbw {l:List Int}{i:Nat}(h:i<l.length):l.drop i=l.getD i 0::l.drop (i+1):=by
 rw[yaN h];simp[List.getD,h]
theorem Tryz.c_rnext (x:Int) (l:List Int) (hx:0<=x/\x<=255):ICall prog 165 [.ptr 0 0] [rdr (x::l)] (fun r H'=>r=.d (dI x)/\H'=[rdr l]):=by
 refine qau (E:=env 1) tok rfl 1000 func165 rfl rfl ntmps165 (by simp) ?_;simp only[go_sem,seval]
 repeat' first|assumption|(simp (disch:=first|assumption|omega|(simp;done)|(simp;omega)) only[yaa];try simp only[go_sem,seval])|(with_reducible first|apply And.intro|intro _)|((try rw[qaa]);omega)
 refine qaH (r0:=.d (dI x)) (H1:=[rdr l]) ?_ ⟨rfl,rfl⟩;simp only[go_sem,seval]
theorem Tryz.c_rflag (x:Int) (l:List Int) (hx:0<=x/\x<=255):ICall prog 167 [.ptr 0 0] [rdr (x::l)] (fun r H'=>r=.d (dB (decide (x=1)))/\H'=[rdr l]):=by
 refine qau (E:=env 1) tok rfl 1000 func167 rfl rfl ntmps167 (by simp) ?_;simp only[go_sem,seval]
 repeat' first|assumption|(simp (disch:=first|assumption|omega|(simp;done)|(simp;omega)) only[yaa];try simp only[go_sem,seval])|(with_reducible first|apply And.intro|intro _)|((try rw[qaa]);omega)
 refine qal (c_rnext x l hx) [0] (by simp only[go_sem,seval]) ?_;rintro r0 H1 ⟨rfl,rfl⟩;simp only[go_sem,seval];refine qaH (r0:=.d (dB (decide (x=1)))) (H1:=[rdr l]) ?_ ⟨rfl,rfl⟩;simp only[go_sem,seval]
theorem Tryz.c_rmany (n:Nat) (l:List Int) (hn:n<=100) (hl:n<=l.length) (hx : ∀ x∈l,0<=x/\x<=255):ICall prog 166 [.ptr 0 0,.d (dI n)] [rdr l] (fun r H'=>r=.d (dIs (l.take n))/\H'=[rdr (l.drop n)]):=by
 refine qau (E:=env 1) tok rfl 1000 func166 rfl rfl ntmps166 (by simp) ?_;simp only[go_sem,seval]
 repeat' first|assumption|(simp (disch:=first|assumption|omega|(simp;done)|(simp;omega)) only[yaa];try simp only[go_sem,seval])|(with_reducible first|apply And.intro|intro _)|((try rw[qaa]);omega)
 refine qay (E:=env 1) tok (σ:=Nat) (fun i=>[(0,.ptr 0 0),(5,.sl 1 i 1 0 i),(8,.d (dI n)),(9,.d (dI i))]) (fun i=>[rdr (l.drop i),.row i 1 true ((l.take i).map (D.int .i64))]) (fun i=>i<=n) (fun i=>n-i) [] 1000 1000 ?_ ?_ ?_
 ·simp only[go_sem,seval]
 ·simp only[go_sem,seval];exact⟨0,by omega,⟨rfl,rfl⟩,by simp⟩
 ·intro i hi;have htl:(l.take i).length=i:=by rw[yaB];omega
  by_cases hlt:i<n
  ·have htk:=take_snoc (l:=l) (j:=i) (by omega);have hb:=hx _ (qac (show i<l.length by omega):l.getD i 0∈l);have hdr:=qbw (l:=l) (i:=i) (by omega);generalize hx9:l.getD i 0=x at *
   simp only[go_sem,seval,htl]
   repeat' first|assumption|(simp (disch:=first|assumption|omega|(simp;done)|(simp;omega)) only[yaa];try simp only[go_sem,seval,htl])|(with_reducible first|apply And.intro|intro _)|((try rw[qaa]);omega)
   rw[hdr];refine qal (c_rnext x (l.drop (i+1)) hb) [0] (by simp only[go_sem,seval]) ?_;rintro r0 H1 ⟨rfl,rfl⟩;simp only[go_sem,seval,htl]
   repeat' first|assumption|(simp (disch:=first|assumption|omega|(simp;done)|(simp;omega)) only[yaa];try simp only[go_sem,seval,htl])|(with_reducible first|apply And.intro|intro _)|((try rw[qaa]);omega)
   exact⟨i+1,by omega,by omega,rfl,by rw[htk];simp⟩
  ·obtain rfl:i=n:=by omega
   simp only[go_sem,seval,htl]
   repeat' first|assumption|(simp (disch:=first|assumption|omega|(simp;done)|(simp;omega)) only[yaa];try simp only[go_sem,seval,htl])|(with_reducible first|apply And.intro|intro _)|((try rw[qaa]);omega)
   refine qaH (r0:=.d (dIs (l.take i))) (H1:=[rdr (l.drop i)]) ?_ ⟨rfl,rfl⟩;simp only[go_sem,seval];rw[List.take_take,Nat.min_self]
theorem take3 {l:List Int}{a:Nat}(h:a+3<=l.length):(l.drop a).take 3=dec3 l a:=by
 rw[qbw (show a<l.length by omega),qbw (show a+1<l.length by omega),qbw (show a+1+1<l.length by omega)];rfl
theorem take8 {l:List Int}{a:Nat}(h:a+8<=l.length):(l.drop a).take 8=dec8 l a:=by
 rw[qbw (show a<l.length by omega),qbw (show a+1<l.length by omega),qbw (show a+1+1<l.length by omega),qbw (show a+1+1+1<l.length by omega),qbw (show a+1+1+1+1<l.length by omega),qbw (show a+1+1+1+1+1<l.length by omega),qbw (show a+1+1+1+1+1+1<l.length by omega),qbw (show a+1+1+1+1+1+1+1<l.length by omega)];rfl
theorem snocT {l:List Tcfg}{j:Nat}(h:j<l.length):l.take (j+1)=l.take j ++ [l.getD j tc0]:=by
 rw[yal h];simp[List.getD,h]
theorem snocP {l:List (Int×Bool)}{j:Nat}(h:j<l.length):l.take (j+1)=l.take j ++ [l.getD j (0,false)]:=by
 rw[yal h];simp[List.getD,h]
theorem Tryz.c_DecodeConfig (k:Kcfg) (hk:k.ok):PureF prog 96 [dUs (encC k)] (.tup [dK k,dB true]):=by
 have hE:=c_EncodeConfig k;rw[if_pos hk] at hE;have hlen:=qtE hk;have hbd:=encC_bd hk;have hT:=fun i (hi:i<25)=>decT_eq hk hi
 have hP:=fun o (ho:o<3)=>decP_eq hk ho
 have h25:=hk.1;have h3:=hk.2.1.1;generalize encC k=l at *
 have hx:=fun a (ha:a<333)=>hbd _ (qac (show a<l.length by omega):l.getD a 0∈l)
 have hxd:=fun a (x:Int) (h:x∈l.drop a)=>hbd x (yaM h)
 refine qe0 (E:=env 0) tok rfl 1000 func96 rfl rfl ntmps96 (by simp) fun ok=>?_
 simp only[go_sem,seval] at ok⊢
 repeat' first|assumption|(simp (disch:=first|assumption|omega|(simp;done)|(simp;omega)) only[yaa];try simp only[go_sem,seval])|(with_reducible first|apply And.intro|intro _)|((try rw[qaa]);omega)
 refine qdD (E:=env 0) tok (σ:=Nat) (fun i=>[(0,.d (dUs l)),(2,.ptr 0 0),(4,.ptr 1 0),(5,.ptr 2 0),(11,.d (dI i))])
  (fun i=>[.box [.d .nil,.d .nil],rdr (l.drop (13*i)),.box [.sl 3 i 4 0 i,.d .nil],.row i 4 false ((k.tiles.take i).map fun x=>dTc x)])
  (fun i=>i<=25) (fun i=>25-i) [(2,0,4,false)] [] 1000 1000 ?_ ?_ ?_ ?_
 ·simp only[go_sem,seval]
 ·simp only[go_sem,seval]
 ·simp only[go_sem,seval];exact⟨0,by omega,rfl,rfl,rfl,rfl,rfl⟩
 ·intro i hi;have htl:(k.tiles.take i).length=i:=by rw[yaB];omega
  by_cases hlt:i<25
  ·have htk:=snocT (l:=k.tiles) (j:=i) (by omega);rw[<-hT i hlt,decT] at htk;simp only[go_sem,seval,htl]
   repeat' first|assumption|(simp (disch:=first|assumption|omega|(simp;done)|(simp;omega)) only[yaa];try simp only[go_sem,seval,htl])|(with_reducible first|apply And.intro|intro _)|((try rw[qaa]);omega)
   rw[qbw (show 13*i<l.length by omega)];refine qal (c_rnext (l.getD (13*i) 0) (l.drop (13*i+1)) (hx _ (by omega))) [1] (by simp only[go_sem,seval]) ?_;rintro r0 H1 ⟨rfl,rfl⟩;simp only[go_sem,seval,htl]
   repeat' first|assumption|(simp (disch:=first|assumption|omega|(simp;done)|(simp;omega)) only[yaa];try simp only[go_sem,seval,htl])|(with_reducible first|apply And.intro|intro _)|((try rw[qaa]);omega)
   have q3:=c_rmany 3 (l.drop (13*i+1)) (by omega) (by rw[List.length_drop];omega) (hxd _);rw[take3 (by omega),List.drop_drop] at q3;refine qal q3 [1] (by simp only[go_sem,seval]) ?_;rintro r0 H1 ⟨rfl,rfl⟩;simp only[go_sem,seval,htl]
   repeat' first|assumption|(simp (disch:=first|assumption|omega|(simp;done)|(simp;omega)) only[yaa];try simp only[go_sem,seval,htl])|(with_reducible first|apply And.intro|intro _)|((try rw[qaa]);omega)
   rw[show 13*i+1+3=13*i+4 from rfl,qbw (show 13*i+4<l.length by omega)];refine qal (c_rflag (l.getD (13*i+4) 0) (l.drop (13*i+4+1)) (hx _ (by omega))) [1] (by simp only[go_sem,seval]) ?_;rintro r0 H1 ⟨rfl,rfl⟩;simp only[go_sem,seval,htl]
   repeat' first|assumption|(simp (disch:=first|assumption|omega|(simp;done)|(simp;omega)) only[yaa];try simp only[go_sem,seval,htl])|(with_reducible first|apply And.intro|intro _)|((try rw[qaa]);omega)
   have q8:=c_rmany 8 (l.drop (13*i+5)) (by omega) (by rw[List.length_drop];omega) (hxd _);rw[take8 (by omega),List.drop_drop] at q8;refine qal q8 [1] (by simp only[go_sem,seval]) ?_;rintro r0 H1 ⟨rfl,rfl⟩;simp only[go_sem,seval,htl]
   repeat' first|assumption|(simp (disch:=first|assumption|omega|(simp;done)|(simp;omega)) only[yaa];try simp only[go_sem,seval,htl])|(with_reducible first|apply And.intro|intro _)|((try rw[qaa]);omega)
   refine⟨i+1,by omega,by omega,rfl,by rw[show 13*i+5+8=13*(i+1) by omega],rfl,rfl,by rw[htk];simp⟩
  ·obtain rfl:i=25:=by omega
   simp only[go_sem,seval,htl]
   repeat' first|assumption|(simp (disch:=first|assumption|omega|(simp;done)|(simp;omega)) only[yaa];try simp only[go_sem,seval,htl])|(with_reducible first|apply And.intro|intro _)|((try rw[qaa]);omega)
   have tk25:k.tiles.take 25=k.tiles:=yaa (by omega);refine qdD (E:=env 0) tok (σ:=Nat) (fun o=>[(0,.d (dUs l)),(2,.ptr 0 0),(4,.ptr 1 0),(5,.ptr 2 0),(29,.d (dI o))])
    (fun o=>[.box [.d .nil,.d .nil],rdr (l.drop (325+2*o)),.box [.sl 3 25 4 0 25,.sl 4 o 2 0 o],.row 25 4 false (k.tiles.map fun x=>dTc x),.row o 2 true ((k.pads.take o).map fun x=>dQ x)])
    (fun o=>o<=3) (fun o=>3-o) [(2,1,2,true)] [] 1000 1000 ?_ ?_ ?_ ?_
   ·simp only[go_sem,seval]
   ·simp only[go_sem,seval]
   ·simp only[go_sem,seval];exact⟨0,by omega,rfl,rfl,rfl,rfl,rfl⟩
   ·intro o ho;have hpl:(k.pads.take o).length=o:=by rw[yaB];omega
    by_cases hlo:o<3
    ·have hpk:=snocP (l:=k.pads) (j:=o) (by omega);rw[<-hP o hlo,decP] at hpk;have hd1:=qbw (show 325+2*o<l.length by omega);have hd2:=qbw (show 325+2*o+1<l.length by omega);have cN:=c_rnext (l.getD (325+2*o) 0) (l.drop (325+2*o+1)) (hx _ (by omega));have cF:=c_rflag (l.getD (325+2*o+1) 0) (l.drop (325+2*o+1+1)) (hx _ (by omega));simp only[go_sem,seval,hpl,h25]
     repeat' first|assumption|(simp (disch:=first|assumption|omega|(simp;done)|(simp;omega)) only[yaa];try simp only[go_sem,seval,hpl,h25])|(with_reducible first|apply And.intro|intro _)|((try rw[qaa]);omega)
     refine qaP (n:=0) [3,5,8,10] (fsts [0,2,4] (.two 1 (.one 3 (.one 5 (.fst 6 (.one 7 (.one 8 (.fst 9 (.one 10 .done))))))) 3 (.two 1 (.one 5 (.fst 6 (.one 7 (.one 8 (.fst 9 (.one 10 .done)))))) 5 (.fst 6 (.two 1 (.one 7 (.one 8 (.fst 9 (.one 10 .done)))) 7 (.one 1 (.one 8 (.fst 9 (.one 10 .done))))))))) ?_;simp only[go_sem,seval,hpl,h25]
     repeat' first|assumption|(simp (disch:=first|assumption|omega|(simp;done)|(simp;omega)) only[yaa];try simp only[go_sem,seval,hpl,h25])|(with_reducible first|apply And.intro|intro _)|((try rw[qaa]);omega)
     all_goals (
      rw[hd1];refine qal cN [1] (by simp only[go_sem,seval]) ?_;rintro r0 H1 ⟨rfl,rfl⟩;simp only[go_sem,seval,hpl,h25]
      repeat' first|assumption|(simp (disch:=first|assumption|omega|(simp;done)|(simp;omega)) only[yaa];try simp only[go_sem,seval,hpl,h25])|(with_reducible first|apply And.intro|intro _)|((try rw[qaa]);omega))
     all_goals (
      rw[hd2];refine qal cF [1] (by simp only[go_sem,seval]) ?_;rintro r0 H1 ⟨rfl,rfl⟩;simp only[go_sem,seval,hpl,h25]
      repeat' first|assumption|(simp (disch:=first|assumption|omega|(simp;done)|(simp;omega)) only[yaa];try simp only[go_sem,seval,hpl,h25])|(with_reducible first|apply And.intro|intro _)|((try rw[qaa]);omega))
     all_goals exact⟨o+1,by omega,by omega,rfl,by rw[show 325+2*o+1+1=325+2*(o+1) by omega],rfl,rfl,by rw[hpk];simp⟩
    ·obtain rfl:o=3:=by omega
     have tk3:k.pads.take 3=k.pads:=yaa (by omega);have hbe:=c_bytesEqual l l hbd hbd;rw[decide_eq_true rfl] at hbe;simp only[go_sem,seval,hpl,h25]
     repeat' first|assumption|(simp (disch:=first|assumption|omega|(simp;done)|(simp;omega)) only[yaa];try simp only[go_sem,seval,hpl,h25])|(with_reducible first|apply And.intro|intro _)|(refine qaR (fun _=>hE) ?_;simp only[go_sem,seval,hpl,h25])|(refine qaR (fun _=>hbe) ?_;simp only[go_sem,seval,hpl,h25])|((try rw[qaa]);omega)
     trace_state
end Go.Proofs
