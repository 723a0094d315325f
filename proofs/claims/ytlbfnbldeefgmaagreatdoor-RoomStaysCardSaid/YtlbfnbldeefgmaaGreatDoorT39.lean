/- Part 40 of the proof of roomStays_card, set without needless blanks. No condition. -/
import Derived.Test.YtlbfnbldeefgmaaGreatDoorT38
set_option linter.all false
set_option maxRecDepth 100000
set_option maxHeartbeats 16000000
section
namespace Go.Proofs.YtlbfnbldeefgmaaGreatDoor
open Go Go.Dm Go.Proofs.Tryz
theorem zJt{p q:List UInt8}{k m k' m':Int}{t t':Nat}{d d':List UInt8}:
  aA prog 106 [.agg [.p (.s p),.p (.i .i64 k),.p (.i .i64 m),.p (.f t),.p (.sl 1 (bJ d))],.agg [.p (.s q),.p (.i .i64 k'),.p (.i .i64 m'),.p (.f t'),.p (.sl 1 (bJ d'))]] []
   λr h=>r=.c (.p (.b (FW ⟨p,⟨k,m,t,d⟩⟩ ⟨q,⟨k',m',t',d'⟩⟩)))/\h=[]:=by
 refine eT func106 λX0 hX=>?_;simp only[f106,go_sem]
 repeat' (first|exact⟨⟩|refine sp ?_|refine uF (qI) ?_|refine bM (λ_=>?_) (λ_=>?_))
 all_goals ((simp_all[FW];done))
theorem zPp{a b:List It}(ha:a.length<=1000000)(hb:b.length<=1000000):
  aA prog 105 [.c (.p (.sl 5 (aQ a))),.c (.p (.sl 5 (aQ b))),.c (.clo 106 [])] [] λr h=>r=.c (.p (.b (gU a b)))/\h=[]:=by
 by_cases hl:b.length=a.length
 .have q1:((a.length:Int) != a.length)=false:=by simp
  refine eT func105 λX0 hX=>?_;simp only[f105,go_sem]
  repeat' (first|exact⟨⟩|refine sp ?_)
  refine aY aD aL (α:=Nat) (λk=>⟨32,[(1,.c (.p (.sl 5 (aQ b)))),(2,.c (.clo 106 [])),(15,.c (.p (.sl 5 (aQ a)))),(16,.c (.p (.i .i64 a.length))),(17,.c (.p (.i .i64 k)))],[]⟩)
   (λk=>k<=a.length/\gU (a.drop k) (b.drop k)=gU a b) (λk=>a.length-k) 0 ⟨Nat.zero_le _,rfl⟩ (.inl (aF (by rw[hX];rfl) rfl rfl wkS)) ?_
  rintro k ⟨hk,hs⟩;by_cases hlt:k<a.length
  .have hx:a[k]?=some a[k]:=List.getElem?_eq_getElem hlt;have hy:b[k]?=some (b[k]'(by omega)):=List.getElem?_eq_getElem (by omega);have hg:=cZ hx;have hg2:=cZ hy;have h1:decide ((k:Int)<(a.length:Int))=true:=decide_eq_true (by omega);have hd:=WX hx hy;generalize a[k]=x at hx hg hd;generalize (b[k]'(by omega))=y at hy hg2 hd;have w1:IntKind.i64.wrap ((k:Int)+1)=k+1:=wrap_i64 (by omega) (by omega);rw[hd] at hs;clear hd
   repeat' (first|exact⟨⟩|refine sp ?_|refine uF (zJt) ?_|refine aK (λ_=>?_) (λ_=>?_)|refine ai ?_)
   .rename_i hb;rw[Bool.not_eq_true'] at hb;rw[hb,Bool.false_and] at hs;rw[<- hs]
   .rename_i hb;rw[Bool.not_eq_false'] at hb;rw[hb,Bool.true_and] at hs;exact gZ (k+1) ⟨by omega,hs⟩ (by omega) (aF rfl rfl rfl wkS)
  .have h1:decide ((k:Int)<(a.length:Int))=false:=decide_eq_false (by omega);rw[List.drop_of_length_le (by omega),List.drop_of_length_le (by omega)] at hs;have hs2:gU a b=true:=hs.symm;clear hs
   repeat' (first|exact⟨⟩|refine sp ?_)
 .have q1:((a.length:Int) != b.length)=true:=by simpa[bne] using λh=>hl (by omega)
  rw[FX λh=>hl h.symm];refine eT func105 λX0 hX=>?_;simp only[f105,go_sem]
  repeat' (first|exact⟨⟩|refine sp ?_)
theorem GL{a b:List It}(ha:a.length<=1000000)(hb:b.length<=1000000):aA prog 45 [.c (.p (.sl 5 (aQ a))),.c (.p (.sl 5 (aQ b)))] [] λr h=>r=.c (.p (.b (gU a b)))/\h=[]:=by
 refine eT func45 λX0 hX=>?_;simp only[Tryz.f45,go_sem]
 repeat' (first|exact⟨⟩|refine sp ?_|refine uF (zPp ha hb) ?_)
end Go.Proofs.YtlbfnbldeefgmaaGreatDoor
end
section
namespace Go.Proofs.YtlbfnbldeefgmaaGreatDoor
open Go Go.Dm Go.Proofs Go.Proofs.Tryz
theorem zJo{r:Rm}{s:List UInt8}{ck:Int}{cp cq:List UInt8}{cm:Int}{ct:Nat}{ca cn:Int}{cd:List UInt8}(hr:OkR r)(hct:ct<18446744073709551616)(hcp:cp.length<=9223372036854775807)
  (hcd:cd.length<=140737488355328)(hcq:cq.length<=9223372036854775807)(hca:-9223372036854775808<=ca/\ca<=9223372036854775807)
  (h3:((bR r s).2==0)=true->OkT (treeR r (bR r s).1.i)/\OkT (treeR r (bR r s).1.p)/\OkT (doP (treeR r (bR r s).1.i) ⟨ck,cp,cq,cm,ct,ca,cn,cd⟩).1):
  aA prog 10 [.c (.ptr 0 0),.c (.p (.s s)),.agg (clc ck cp cq cm ct ca cn cd)] (aS r) λd h=>d=.agg (anv (KU r s ⟨ck,cp,cq,cm,ct,ca,cn,cd⟩).2)/\h=aS (KU r s ⟨ck,cp,cq,cm,ct,ca,cn,cd⟩).1:=by
 have hly:=iP (s:=s) hr;have htr:=dK (a:=(bR r s).1.i) hr;have htn:=zCg (k:=ck);unfold KU;generalize hy:bR r s=y at *;obtain⟨⟨yi,yp,yq,yf⟩,e⟩:=y;simp only[Ly.cv] at *;cases he:(e==0)
 .have hb:(e != 0)=true:=by rw[bne,he];rfl
  simp only[Bool.not_false,if_true];clear h3 htr htn hr;refine aI ?_;refine eT func10 λX0 hX=>?_;simp only[f10,go_sem]
  repeat' (first|exact⟨⟩|refine sp ?_|refine uS [0,1,2,3] (hly) ?_)
  exact⟨rfl,rfl,rfl,rfl,.inr ⟨1,rfl⟩,.inr ⟨1,rfl⟩,.inr ⟨1,rfl⟩⟩
 .have hb:(e != 0)=false:=by rw[bne,he];rfl
  simp only[Bool.not_true,Bool.false_eq_true,if_false];obtain⟨k1,k2,k3⟩:=h3 he;cases hft:(yf && mZ ck)
  .simp only[Bool.false_eq_true,if_false];have hdo:=do_c (cn:=cn) (cm:=cm) (ck:=ck) k1 hct hcp hcd hcq hca;have hsm:=GL (a:=treeR r yi) (b:=(doP (treeR r yi) ⟨ck,cp,cq,cm,ct,ca,cn,cd⟩).1) (by have:=k1.len;omega) (by have:=k3.len;omega);have hst:=QL (i:=yi) (p:=yp) (q:=yq) (f:=yf) hr k3 k2;unfold WY;simp only;generalize eG (treeR r yp) (doP (treeR r yi) ⟨ck,cp,cq,cm,ct,ca,cn,cd⟩).1=E1 at hst ⊢;generalize doP (treeR r yi) ⟨ck,cp,cq,cm,ct,ca,cn,cd⟩=T at *;obtain⟨T1,a⟩:=T;obtain⟨ae,⟨ak,am,at_,ad⟩,ab,al⟩:=a;simp only at *;generalize treeR r yi=T0 at *;clear h3 k1 k2 k3 hr;cases hs:gU T0 T1
   .simp only[Bool.false_eq_true,if_false];cases yf
    ·
     refine eT func10 λX0 hX=>?_;simp only[f10,go_sem]
     repeat' (first|exact⟨⟩|refine sq ?_|refine uS [0,1,2,3] (hly) ?_|refine uS [0,1,2,3] (htr) ?_|refine uN (hdo) ?_|refine uN (hsm) ?_|refine uS [0,1,2,3] (hst) ?_)
    .rw[Bool.true_and] at hft;rw[hft] at htn;refine eT func10 λX0 hX=>?_;simp only[f10,go_sem]
     repeat' (first|exact⟨⟩|refine sq ?_|refine uS [0,1,2,3] (hly) ?_|refine uS [0,1,2,3] (htr) ?_|refine uF (htn) ?_|refine uN (hdo) ?_|refine uN (hsm) ?_|refine uS [0,1,2,3] (hst) ?_)
   .simp only[if_true];cases yf
    ·
     refine eT func10 λX0 hX=>?_;simp only[f10,go_sem]
     repeat' (first|exact⟨⟩|refine sq ?_|refine uS [0,1,2,3] (hly) ?_|refine uS [0,1,2,3] (htr) ?_|refine uN (hdo) ?_|refine uN (hsm) ?_)
    .rw[Bool.true_and] at hft;rw[hft] at htn;refine eT func10 λX0 hX=>?_;simp only[f10,go_sem]
     repeat' (first|exact⟨⟩|refine sq ?_|refine uS [0,1,2,3] (hly) ?_|refine uS [0,1,2,3] (htr) ?_|refine uF (htn) ?_|refine uN (hdo) ?_|refine uN (hsm) ?_)
  .simp only[if_true];rw[Bool.and_eq_true] at hft;obtain⟨rfl,hft⟩:=hft;rw[hft] at htn;clear h3 k1 k2 k3 hr htr;refine aI ?_;refine eT func10 λX0 hX=>?_;simp only[f10,go_sem]
   repeat' (first|exact⟨⟩|refine sp ?_|refine uS [0,1,2,3] (hly) ?_|refine uF (htn) ?_)
   exact⟨rfl,rfl,rfl,rfl,.inr ⟨1,rfl⟩,.inr ⟨1,rfl⟩,.inr ⟨1,rfl⟩⟩
theorem zBL{r:Rm}{sn s:List UInt8}(hr:OkR r)(hs:s.length<=1000000000)
  (h3:((snP r sn).2==0)=true->(gR r s==0)=true->(gX r (snP r sn).1.i==0)=true->OkR ⟨bL r.N s r.x,r.L++[⟨r.x,(snP r sn).1.i,0,false⟩],oI r.E r.x [],r.x+1⟩/\OkG (r.L++[⟨r.x,(snP r sn).1.i,0,false⟩])):
  aA prog 89 [.c (.ptr 0 0),.c (.p (.s sn)),.c (.p (.s s))] (aS r) λd h=>d=.c (.p (.i .i64 (vL r sn s).2))/\h=dI (vL r sn s).1:=by
 have hsn:=ZG (s:=sn) hr;have hfr:=sD (s:=s) hr hs;have hdp:=qN (a:=(snP r sn).1.i) hr;have had:=λh1 h2=>uE (s:=s) (i0:=0) (p:=(snP r sn).1.i) (q:=0) (es:=[]) hr h1 h2;unfold vL;generalize snP r sn=y at *;obtain⟨⟨yi,yp,yq,yf⟩,e⟩:=y;simp only[Ly.cv] at *;generalize gR r s=e2 at *;generalize gX r yi=e3 at *;have bad:∀{c:List CV} {e:Int},aA prog 89 [.c (.ptr 0 0),.c (.p (.s sn)),.c (.p (.s s))] (aS r) (λd h=>d=.c (.p (.i .i64 e))/\h=aS r++[.box c])->aA prog 89 [.c (.ptr 0 0),.c (.p (.s sn)),.c (.p (.s s))] (aS r) (λd h=>d=.c (.p (.i .i64 e))/\h=dI r):=λ{c e} hc =>
  aA.perm [0,5,6,7,1,2,3] hc rfl rfl (by unfold dI aS;exact hpK)
 cases he:(e==0)
 .have hb:(e != 0)=true:=by rw[bne,he];rfl
  simp only[Bool.not_false,if_true];refine bad (c:=[.p (.i .i64 yi),.p (.i .i64 yp),.p (.i .i64 yq),.p (.b yf)]) ?_;clear had h3 hfr hdp;refine nJ aD aL func89 rfl rfl λX0 hX=>?_;simp only[f89,go_sem]
  repeat' (first|exact⟨⟩|refine sp ?_|refine uS [0,1,2,3] (hsn) ?_)
 .have hb:(e != 0)=false:=by rw[bne,he];rfl
  simp only[Bool.not_true,Bool.false_eq_true,if_false];cases he2:(e2==0)
  .have hb2:(e2 != 0)=true:=by rw[bne,he2];rfl
   simp only[Bool.not_false,if_true];refine bad (c:=[.p (.i .i64 yi),.p (.i .i64 yp),.p (.i .i64 yq),.p (.b yf)]) ?_;clear had h3 hdp;refine nJ aD aL func89 rfl rfl λX0 hX=>?_;simp only[f89,go_sem]
   repeat' (first|exact⟨⟩|refine sp ?_|refine uS [0,1,2,3] (hsn) ?_|refine uS [0,1,2,3] (hfr) ?_)
  .have hb2:(e2 != 0)=false:=by rw[bne,he2];rfl
   simp only[Bool.not_true,Bool.false_eq_true,if_false];cases he3:(e3==0)
   .have hb3:(e3 != 0)=true:=by rw[bne,he3];rfl
    simp only[Bool.not_false,if_true];refine bad (c:=[.p (.i .i64 yi),.p (.i .i64 yp),.p (.i .i64 yq),.p (.b yf)]) ?_;clear had h3;refine nJ aD aL func89 rfl rfl λX0 hX=>?_;simp only[f89,go_sem]
    repeat' (first|exact⟨⟩|refine sp ?_|refine uS [0,1,2,3] (hsn) ?_|refine uS [0,1,2,3] (hfr) ?_|refine uS [0,1,2,3] (hdp) ?_)
   .have hb3:(e3 != 0)=false:=by rw[bne,he3];rfl
    simp only[Bool.not_true,Bool.false_eq_true,if_false];obtain⟨k1,k2⟩:=h3 he he2 he3;have hadd:=aA.wkA (args:=[.c (.ptr 0 0),.c (.p (.s s)),.agg [.p (.i .i64 0),.p (.i .i64 yi),.p (.i .i64 0),.p (.b false)],.c (.p .nil)]) (args':=[.c (.ptr 0 0),.c (.p (.s s)),.agg [.p (.i .i64 0),.p (.i .i64 yi),.p (.i .i64 0),.p (.b false)],.c (.p (.sl 7 (gD [])))]) ⟨rfl,zGM,⟨wkP.rfl,wkP.rfl,wkP.rfl,wkP.rfl,True.intro⟩,zGL,True.intro⟩ (had k1 k2);clear had h3 k1 k2;generalize zCd r s yi 0 []=c at hadd ⊢;refine aA.perm [0,1,2,3,5,6,7] (d1:=.c (.p (.i .i64 0))) (h1:=[.box [.own 5 0 c.N.length,.own 6 0 c.L.length,.mp 7,.p (.i .i64 c.x)],.dead,.dead,.dead,.box [.p (.i .i64 yi),.p (.i .i64 yp),.p (.i .i64 yq),.p (.b yf)],.arr 2 (aV c.N) false,.arr 4 (cM c.L) false,.mp (jI c.E)]) ?_ rfl rfl (by unfold dI;exact hpK);refine nJ aD aL func89 rfl rfl λX0 hX=>?_;simp only[f89,go_sem]
    repeat' (first|exact⟨⟩|refine sp ?_|refine uS [0,1,2,3] (hsn) ?_|refine uS [0,1,2,3] (hfr) ?_|refine uS [0,1,2,3] (hdp) ?_|refine uS [0,1,2,3] (hadd) ?_)
theorem zBN{r:Rm}:aA prog 25 [.c (.ptr 0 0)] (aS r) λd h=>d=.c (.p (.i .i64 r.x))/\h=aS r:=by
 refine eT func25 λX0 hX=>?_;simp only[f25,go_sem]
 repeat' (first|exact⟨⟩|refine sp ?_)
theorem yX{h:aB}{i n:Nat}{l:List Nm}{K:DV->aB->Prop}(hl:l.length<=1000000)(hn:n=l.length)(h0:h[i]?=some (.arr 2 (aV l) false))(hk:K (.c (.own h.length 0 l.length)) (h++[.arr 2 (aV l) false])):
  aA prog 51 [.c (.own i 0 n)] h K:=by
 refine zKI (by rw[hn,<- fF,List.take_length]) (zCF hl) h0 (by simp[tW,pM,jT,aV,uK]) ?_;simpa[DV.sh,CV.sh,DB.sh,fF] using hk
theorem zG9{h:aB}{i n:Nat}{l:List Ly}{K:DV->aB->Prop}(hl:l.length<=1000000)(hn:n=l.length)(h0:h[i]?=some (.arr 4 (cM l) false))(hk:K (.c (.own h.length 0 l.length)) (h++[.arr 4 (cM l) false])):
  aA prog 52 [.c (.own i 0 n)] h K:=by
 refine zKI (by rw[hn,<- eY,List.take_length]) (HD hl) h0 (by simp[tW,pM,jT,cM,uK,Ly.cs]) ?_;simpa[DV.sh,CV.sh,DB.sh,eY] using hk
theorem BS{r:Rm}(hr:OkR r):aA prog 26 [.c (.ptr 0 0)] (aS r) λd h=>d=.c (.own 4 0 r.N.length)/\h=aS r++[.arr 2 (aV r.N) false]:=by
 have hnl:=hr.nl;have hk:∀{h:aB} {K:DV->aB->Prop},h[1]?=some (.arr 2 (aV r.N) false)->K (.c (.own h.length 0 r.N.length)) (h++[.arr 2 (aV r.N) false])->aA prog 51 [.c (.own 1 0 r.N.length)] h K:=λh0 hk=>yX (by omega) rfl h0 hk;refine nJ aD aL func26 rfl rfl λX0 hX=>?_;simp only[f26,go_sem]
 repeat' (first|exact⟨⟩|refine sp ?_)
theorem vX{r:Rm}{s:List UInt8}(hr:OkR r):aA prog 12 [.c (.ptr 0 0),.c (.p (.s s))] (aS r) λd h=>d=.tup [.c (.p (.sl 5 (aQ (cO r s).1))),.c (.p (.i .i64 (cO r s).2))]/\h=aS r:=by
 have hly:=iP (s:=s) hr;have htr:=dK (a:=(bR r s).1.i) hr;unfold cO;generalize bR r s=y at *;obtain⟨⟨yi,yp,yq,yf⟩,e⟩:=y;simp only[Ly.cv] at *;generalize treeR r yi=T at *;clear hr;refine aI ?_;cases he:(e==0)
 .have hb:(e != 0)=true:=by rw[bne,he];rfl
  simp only[Bool.not_false,if_true];refine eT func12 λX0 hX=>?_;simp only[f12,go_sem]
  repeat' (first|exact⟨⟩|refine sp ?_|refine uS [0,1,2,3] (hly) ?_)
  all_goals exact .inr ⟨5,rfl⟩
 .have hb:(e != 0)=false:=by rw[bne,he];rfl
  simp only[Bool.not_true,Bool.false_eq_true,if_false];refine eT func12 λX0 hX=>?_;simp only[f12,go_sem]
  repeat' (first|exact⟨⟩|refine sp ?_|refine uS [0,1,2,3] (hly) ?_|refine uS [0,1,2,3] (htr) ?_)
end Go.Proofs.YtlbfnbldeefgmaaGreatDoor
end
section
namespace Go.Proofs.YtlbfnbldeefgmaaGreatDoor
open Go Go.Dm Go.Proofs.Tryz
theorem zKQ{k m:Int}{t:Nat}{d:List UInt8}:aA prog 262 [.agg (ndc k m t d)] [] λr h=>r=.c (.p (.b (uR ⟨k,m,t,d⟩)))/\h=[]:=by
 refine eT func262 λX0 hX=>?_;simp only[f262,go_sem]
 repeat' (first|exact⟨⟩|refine sp ?_|refine uF (DU _) ?_|with_reducible refine bM (λ_=>?_) (λ_=>?_))
 all_goals first|(simp_all[uR];done)|(simp_all[uR];rw[Bool.eq_iff_iff];simp)
theorem zOb{p:List UInt8}{ck k m k2 m2:Int}{t t2:Nat}{d d2:List UInt8}(hp:p.length<=1000000000)(ht:t<18446744073709551616)(ht2:t2<18446744073709551616):
  aA prog 217 [.agg [.p (.s p),.p (.i .i64 ck),.p (.i .i64 k),.p (.i .i64 m),.p (.f t),.p (.sl 1 (bJ d)),.p (.i .i64 k2),.p (.i .i64 m2),.p (.f t2),.p (.sl 1 (bJ d2))]] [] λr h=>r=.c (.p (.b (zL0 ⟨p,ck,⟨k,m,t,d⟩,⟨k2,m2,t2,d2⟩⟩)))/\h=[]:=by
 have c1:=zKQ (k:=k) (m:=m) (t:=t) (d:=d);have c2:=zKQ (k:=k2) (m:=m2) (t:=t2) (d:=d2);have c3:=dZ (k:=k) (m:=m) (d:=d) ht;have c4:=dZ (k:=k2) (m:=m2) (d:=d2) ht2;have c5:=fR hp;have c6:=zKo (k:=k) (m:=m) (t:=t) (d:=d) (k':=k2) (m':=m2) (t':=t2) (d':=d2) (!(ck==1)) (!(ck==2));unfold zL0;simp only;generalize uR ⟨k,m,t,d⟩=z1 at c1 ⊢;generalize uR ⟨k2,m2,t2,d2⟩=z2 at c2 ⊢;generalize aP ⟨k,m,t,d⟩=r1 at c3 ⊢;generalize aP ⟨k2,m2,t2,d2⟩=r2 at c4 ⊢;generalize cI p=ip at c5 ⊢;generalize rS (!(ck==1)) (!(ck==2)) ⟨k,m,t,d⟩ ⟨k2,m2,t2,d2⟩=kf at c6 ⊢;have n1:(ck != 1) = !(ck==1):=rfl;have n2:(ck != 2) = !(ck==2):=rfl;have n0:(ck != 0) = !(ck==0):=rfl;have n3:(p != []) = !(p == []):=rfl;have hqq:((ck==1) && (ck==2))=false:=by
  cases e1:(ck==1)
  .rfl
  .rw[eq_of_beq e1];rfl
 generalize (ck==1)=q1 at n1 c6 hqq ⊢;generalize (ck==2)=q2 at n2 c6 hqq ⊢;generalize (ck==0)=q0 at n0 ⊢;generalize hq8:(kf==ck)=q8;generalize hp0:(p == [])=p0 at n3 ⊢;cases q1<;>cases q2
 .simp only[Bool.not_false,Bool.false_or,Bool.or_true,Bool.and_true] at n1 n2 c6 ⊢;clear hqq;refine eT func217 λX0 hX=>?_;simp only[Tryz.f217,go_sem]
  repeat' (first|exact⟨⟩|refine sq ?_|((refine aG (id:=1) aD aL [] [0,1,2,3,4,5,6,7] (by decide +kernel) ?_);(repeat' (first|(refine aO ?_)|((refine bK ?_ rfl rfl ?_ ?_);(rotate_left 1);(focus ((repeat' (first|exact⟨⟩|refine sp ?_));exact rfl));(simp only[aC])))))|((refine aG (id:=2) aD aL [] [0,1,2,3,4,5,6,7,8,9,10,11,12,13,14,15,16,17,18,19,20,21,22,23,24,25,26,27,28,29,30,31,32,33,34,35,36,37,38,39,40,41,42,43,44,45,46,47,48,49,50,51,52,53,54,55,56,57,58,59] (by decide +kernel) ?_);(repeat' (first|(refine aO ?_)|((refine bK ?_ rfl rfl ?_ ?_);(rotate_left 1);(focus ((repeat' (first|exact⟨⟩|refine sq ?_|refine uF (c1) ?_|refine uF (c2) ?_|refine uF (c3) ?_|refine uF (c4) ?_|refine uF (c5) ?_|refine uF (c6) ?_|refine bM (λ_=>?_) (λ_=>?_)));exact rfl));(simp only[aC]))|(cases p0)|(cases ip)|(cases z1)|(cases z2)|(cases r1)|(cases r2)|(cases q0)))))
  all_goals first|(simp;done)|trace_state
 .simp only[Bool.not_true,Bool.not_false,Bool.false_or,Bool.or_true,Bool.true_or,Bool.or_false,Bool.and_true] at n1 n2 c6 ⊢;clear hqq c4 r2;refine eT func217 λX0 hX=>?_;simp only[Tryz.f217,go_sem]
  repeat' (first|exact⟨⟩|refine sq ?_|((refine aG (id:=1) aD aL [] [0,1,2,3,4,5,6,7] (by decide +kernel) ?_);(repeat' (first|(refine aO ?_)|((refine bK ?_ rfl rfl ?_ ?_);(rotate_left 1);(focus ((repeat' (first|exact⟨⟩|refine sp ?_));exact rfl));(simp only[aC])))))|((refine aG (id:=2) aD aL [] [0,1,2,3,4,5,6,7,8,9,10,11,12,13,14,15,16,17,18,19,20,21,22,23,24,25,26,27,28,29,30,31,32,33,34,35,36,37,38,39,40,41,42,43,44,45,46,47,48,49,50,51,52,53,54,55,56,57,58,59] (by decide +kernel) ?_);(repeat' (first|(refine aO ?_)|((refine bK ?_ rfl rfl ?_ ?_);(rotate_left 1);(focus ((repeat' (first|exact⟨⟩|refine sq ?_|refine uF (c1) ?_|refine uF (c2) ?_|refine uF (c3) ?_|refine uF (c5) ?_|refine uF (c6) ?_|refine bM (λ_=>?_) (λ_=>?_)));exact rfl));(simp only[aC]))|(cases p0)|(cases ip)|(cases z1)|(cases z2)|(cases r1)|(cases q0)))))
  all_goals first|(simp;done)|trace_state
 .simp only[Bool.not_true,Bool.not_false,Bool.false_or,Bool.or_true,Bool.true_or,Bool.or_false,Bool.and_true] at n1 n2 c6 ⊢;clear hqq c3 r1;refine eT func217 λX0 hX=>?_;simp only[Tryz.f217,go_sem]
  repeat' (first|exact⟨⟩|refine sq ?_|((refine aG (id:=1) aD aL [] [0,1,2,3,4,5,6,7] (by decide +kernel) ?_);(repeat' (first|(refine aO ?_)|((refine bK ?_ rfl rfl ?_ ?_);(rotate_left 1);(focus ((repeat' (first|exact⟨⟩|refine sp ?_));exact rfl));(simp only[aC])))))|((refine aG (id:=2) aD aL [] [0,1,2,3,4,5,6,7,8,9,10,11,12,13,14,15,16,17,18,19,20,21,22,23,24,25,26,27,28,29,30,31,32,33,34,35,36,37,38,39,40,41,42,43,44,45,46,47,48,49,50,51,52,53,54,55,56,57,58,59] (by decide +kernel) ?_);(repeat' (first|(refine aO ?_)|((refine bK ?_ rfl rfl ?_ ?_);(rotate_left 1);(focus ((repeat' (first|exact⟨⟩|refine sq ?_|refine uF (c1) ?_|refine uF (c2) ?_|refine uF (c4) ?_|refine uF (c5) ?_|refine uF (c6) ?_|refine bM (λ_=>?_) (λ_=>?_)));exact rfl));(simp only[aC]))|(cases p0)|(cases ip)|(cases z1)|(cases z2)|(cases r2)|(cases q0)))))
  all_goals first|(simp;done)|trace_state
 .cases hqq
theorem wI{l:List Ch}(hl:l.length<=1000000)(hp:∀x∈l,x.p.length<=1000000000/\x.o.t<18446744073709551616/\x.n.t<18446744073709551616):
  aA prog 153 [.c (.p (.sl 10 (mM l)))] [] λr h=>r=.c (.p (.b (jM l)))/\h=[]:=by
 refine eT func153 λX0 hX=>?_;simp only[f153,go_sem]
 repeat' (first|exact⟨⟩|refine sp ?_)
 refine aY aD aL (α:=Nat) (λk=>⟨32,[(0,.c (.p (.sl 10 (mM l)))),(5,.c (.p (.sl 10 (mM l)))),(6,.c (.p (.i .i64 l.length))),(7,.c (.p (.i .i64 k)))],[]⟩)
  (λk=>k<=l.length/\iE (sM l k) (l.drop k)=jM l) (λk=>l.length-k) 0 ⟨Nat.zero_le _,rfl⟩ (.inl (aF (by rw[hX];rfl) rfl rfl wkS)) ?_
 rintro k ⟨hk,hgo⟩;by_cases hlt:k<l.length
 .have hx:l[k]?=some l[k]:=List.getElem?_eq_getElem hlt;have hg:=vG hx;have h1:decide ((k:Int)<(l.length:Int))=true:=decide_eq_true (by omega);have w1:IntKind.i64.wrap ((k:Int)+1)=k+1:=wrap_i64 (by omega) (by omega);have hki:(k:Int)<(l.length:Int):=by omega
  have hk0:(0:Int)<=k:=by omega
  have prev:(decide ((0:Int)<k)=false/\yQ (sM l k) l[k].p=true)∨∃m:Nat,∃y:Ch,decide ((0:Int)<k)=true/\IntKind.i64.wrap ((k:Int)-1)=(m:Int)/\(m:Int)<l.length/\l[m]?=some y/\decide (CT l[k].p y.p<=0) = !yQ (sM l k) l[k].p:=by
   by_cases h0:0<k
   .have hmk:k-1<l.length:=by omega
    refine .inr ⟨k-1,l[k-1],decide_eq_true (by omega),?_,by omega,List.getElem?_eq_getElem hmk,?_⟩
    .rw[wrap_i64 (by omega) (by omega)];omega
    .rw [zK6];have e:sM l k=some l[k-1].p:=by
      have:=yP (List.getElem?_eq_getElem hmk);rw[show k-1+1=k by omega] at this
      exact this
     rw[e];rfl
   .refine .inl ⟨decide_eq_false (by omega),?_⟩;have:k=0:=by omega
    subst this;rfl
  have hdr:l.drop k=l[k]::l.drop (k+1):=List.drop_eq_getElem_cons hlt;have hnx:=yP hx;rw[hdr,iE,<- hnx] at hgo;obtain⟨p1,p2,p3⟩:=hp _ (List.getElem_mem hlt);have hc:=zOb (p:=l[k].p) (ck:=l[k].k) (k:=l[k].o.k) (m:=l[k].o.m) (t:=l[k].o.t) (d:=l[k].o.d) (k2:=l[k].n.k) (m2:=l[k].n.m) (t2:=l[k].n.t) (d2:=l[k].n.d) p1 p2 p3;have e5:Ch.mk l[k].p l[k].k ⟨l[k].o.k,l[k].o.m,l[k].o.t,l[k].o.d⟩ ⟨l[k].n.k,l[k].n.m,l[k].n.t,l[k].n.d⟩=l[k]:=rfl;rw[e5] at hc;clear hnx hdr hp e5;generalize yQ (sM l k) l[k].p=a3 at prev hgo;generalize l[k]=x at hx hg prev hc hgo p1;generalize zL0 x=mc at hc hgo;cases mc
  .have hf:jM l=false:=by rw[<- hgo];rfl
   rw[hf];clear hf hgo;rcases prev with⟨b1,rfl⟩|⟨m,y,b1,b2,b3,b4,b5⟩
   .repeat' (first|exact⟨⟩|refine sp ?_|((refine aG (id:=4) aD aL [] [0,1,2,3,4,5,6,7,8,9,10,11,12,13,14,15,16,17,18] (by decide +kernel) ?_);(repeat' (first|(refine aO ?_)|((refine bK ?_ rfl rfl ?_ ?_);(rotate_left 1);(focus ((repeat' (first|exact⟨⟩|refine sq ?_|refine uF (hc) ?_));exact rfl));(simp only[aC]))))))
   .have hgy:=vG b4
    repeat' (first|exact⟨⟩|refine sp ?_|((refine aG (id:=4) aD aL [] [0,1,2,3,4,5,6,7,8,9,10,11,12,13,14,15,16,17,18] (by decide +kernel) ?_);(repeat' (first|(refine aO ?_)|((refine bK ?_ rfl rfl ?_ ?_);(rotate_left 1);(focus ((repeat' (first|exact⟨⟩|refine sq ?_|refine uF (hc) ?_));exact rfl));(simp only[aC]))))))
  .rcases prev with⟨b1,rfl⟩|⟨m,y,b1,b2,b3,b4,b5⟩
   .have hJ:k+1<=l.length/\iE (sM l (k+1)) (l.drop (k+1))=jM l:=⟨by omega,by rw[<- hgo];simp⟩
    clear hgo
    repeat' (first|exact⟨⟩|refine sp ?_|((refine aG (id:=4) aD aL [] [0,1,2,3,4,5,6,7,8,9,10,11,12,13,14,15,16,17,18] (by decide +kernel) ?_);(repeat' (first|(refine aO ?_)|((refine bK ?_ rfl rfl ?_ ?_);(rotate_left 1);(focus ((repeat' (first|exact⟨⟩|refine sq ?_|refine uF (hc) ?_));exact rfl));(simp only[aC]))))))
    exact gZ (k+1) hJ (by omega) (aF rfl rfl rfl wkS)
   .have hgy:=vG b4;have hm0:(0:Int)<=m:=by omega
    cases a3
    .have hf:jM l=false:=by rw[<- hgo];rfl
     rw[hf];rw[Bool.not_false] at b5;clear hf hgo b4
     repeat' (first|exact⟨⟩|refine sp ?_|((refine aG (id:=4) aD aL [] [0,1,2,3,4,5,6,7,8,9,10,11,12,13,14,15,16,17,18] (by decide +kernel) ?_);(repeat' (first|(refine aO ?_)|((refine bK ?_ rfl rfl ?_ ?_);(rotate_left 1);(focus ((repeat' (first|exact⟨⟩|refine sq ?_|refine uF (hc) ?_|refine uF (lU) ?_));exact rfl));(simp only[aC]))))))
    .have hJ:k+1<=l.length/\iE (sM l (k+1)) (l.drop (k+1))=jM l:=⟨by omega,by rw[<- hgo];simp⟩
     rw[Bool.not_true] at b5;clear hgo b4
     repeat' (first|exact⟨⟩|refine sp ?_|((refine aG (id:=4) aD aL [] [0,1,2,3,4,5,6,7,8,9,10,11,12,13,14,15,16,17,18] (by decide +kernel) ?_);(repeat' (first|(refine aO ?_)|((refine bK ?_ rfl rfl ?_ ?_);(rotate_left 1);(focus ((repeat' (first|exact⟨⟩|refine sq ?_|refine uF (hc) ?_|refine uF (lU) ?_));exact rfl));(simp only[aC]))))))
     exact gZ (k+1) hJ (by omega) (aF rfl rfl rfl wkS)
 .have h1:decide ((k:Int)<(l.length:Int))=false:=decide_eq_false (by omega);rw[List.drop_of_length_le (by omega),iE] at hgo;rw[<- hgo];clear hgo
  repeat' (first|exact⟨⟩|refine sp ?_)
end Go.Proofs.YtlbfnbldeefgmaaGreatDoor
end
