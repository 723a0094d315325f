/- Part 41 of the proof of roomMerges_card, set without needless blanks. No condition. -/
import Derived.Test.YtflcjdohmojepaaGreatDoorM39
set_option linter.all false
set_option maxRecDepth 100000
set_option maxHeartbeats 16000000
section
namespace Go.Proofs.YtflcjdohmojepaaGreatDoor
open Go Go.Dm Go.Proofs Go.Proofs.Tryz
section
section places
variable {t:List It}{p:List UInt8}{is:Bool}{k m:Int}{tt:Nat}{d:List UInt8}
abbrev anv(a:An):List CV:=anc a.e a.n.k a.n.m a.n.t a.n.d a.d a.l
theorem zPr{a n:Int}(hd:d.length<=2000):
  aA prog 180 [.agg (plc t p is k m tt d),.c (.p (.i .i64 a)),.c (.p (.i .i64 n))] [] λr h=>r=.agg (anv (CQ is ⟨k,m,tt,d⟩ a n))/\h=[]:=by
 have hfi:=zLj (t:=t) (p:=p) (is:=is) (k:=k) (m:=m) (tt:=tt) (d:=d);refine aV ?_;unfold CQ;generalize wC is ⟨k,m,tt,d⟩=FI at hfi ⊢;cases hf:(FI==0)
 .have hf2:(FI != 0)=true:=by rw[bne,hf];rfl
  refine eT func180 λX0 hX=>?_;simp only[f180,go_sem]
  repeat' (first|exact⟨⟩|refine sp ?_|refine uF (hfi) ?_)
  all_goals exact⟨rfl,rfl,rfl,rfl,.inr ⟨_,rfl⟩,.inr ⟨_,rfl⟩,.inr ⟨_,rfl⟩⟩
 .have hf:=eq_of_beq hf;subst hf;cases h1:decide (a<0)
  .cases h2:decide (n<0)
   .obtain ⟨f,rfl⟩:∃f:Nat,a=f:=⟨a.toNat,by simp at h1;omega⟩
    obtain⟨g,rfl⟩:∃g:Nat,n=g:=⟨n.toNat,by simp at h2;omega⟩
    simp only[Int.toNat_natCast];have hf0:(0:Int)<=(f:Int):=by omega
    have hg0:(0:Int)<=(g:Int):=by omega
    by_cases hfd:f<=d.length
    .have x1:¬ ((d.length:Int)<(f:Int)):=by omega
     have x3:(f:Int)<=(d.length:Int):=by omega
     have hel:(d.drop f).length<=2000:=by rw[List.length_drop];omega
     generalize he:d.drop f=e at hel ⊢;by_cases hge:g<=e.length
     .have x2:¬ ((e.length:Int)<(g:Int)):=by omega
      have x4:(g:Int)<=(e.length:Int):=by omega
      have hcl:=AG (a:=e.take g) (by rw[List.length_take];omega);refine eT func180 λX0 hX=>?_;simp only[f180,go_sem]
      repeat' (first|exact⟨⟩|refine sp ?_|refine uF (hfi) ?_|refine uN (hcl) ?_|((with_reducible refine And.intro ?_ ?_);omega))
      all_goals exact⟨rfl,rfl,rfl,.inr ⟨_,rfl⟩,.inr ⟨_,rfl⟩⟩
     .have x2:(e.length:Int)<(g:Int):=by omega
      have hcl:=AG (a:=e) (by omega);have htk:e.take e.length=e:=List.take_length;rw[List.take_of_length_le (by omega)];refine eT func180 λX0 hX=>?_;simp only[f180,go_sem]
      repeat' (first|exact⟨⟩|refine sp ?_|refine uF (hfi) ?_|refine uN (hcl) ?_|((with_reducible refine And.intro ?_ ?_);omega))
      all_goals exact⟨rfl,rfl,rfl,.inr ⟨_,rfl⟩,.inr ⟨_,rfl⟩⟩
    .have x1:(d.length:Int)<(f:Int):=by omega
     have hd0:d.drop d.length=[]:=List.drop_length;rw[List.drop_of_length_le (by omega),List.take_nil];have hcl:=AG (a:=[]) (by simp);rw[jO] at hcl;refine eT func180 λX0 hX=>?_;simp only[f180,go_sem]
     repeat' (first|simp only[*,go_sem,Nat.reduceLT,Nat.reduceLeDiff,Nat.reduceEqDiff,↓reduceIte,Nat.reduceAdd,Int.reduceLE,Int.reduceToNat,bne_self_eq_false,List.take_nil,List.length_nil]|refine uF (hfi) ?_|refine uN (hcl) ?_|((with_reducible refine And.intro ?_ ?_);omega))
     all_goals exact⟨rfl,rfl,rfl,.inr ⟨_,rfl⟩,.inr ⟨_,rfl⟩⟩
   ·
    refine eT func180 λX0 hX=>?_;simp only[f180,go_sem]
    repeat' (first|exact⟨⟩|refine sp ?_|refine uF (hfi) ?_)
    all_goals exact⟨rfl,rfl,rfl,rfl,.inr ⟨_,rfl⟩,.inr ⟨_,rfl⟩,.inr ⟨_,rfl⟩⟩
  ·
   refine eT func180 λX0 hX=>?_;simp only[f180,go_sem]
   repeat' (first|exact⟨⟩|refine sp ?_|refine uF (hfi) ?_)
   all_goals exact⟨rfl,rfl,rfl,rfl,.inr ⟨_,rfl⟩,.inr ⟨_,rfl⟩,.inr ⟨_,rfl⟩⟩
theorem zLS{ck:Int}{cp cq:List UInt8}{cm:Int}{ct:Nat}{ca cn:Int}{cd:List UInt8}(h:OkT t)(hd:d.length<=2000):
  aA prog 127 [.agg (plc t p is k m tt d),.agg (clc ck cp cq cm ct ca cn cd)] [] λr h =>
   r=.agg (anv (mJ t p is ⟨k,m,tt,d⟩ ⟨ck,cp,cq,cm,ct,ca,cn,cd⟩))/\h=[]:=by
 have hrd:=zPr (t:=t) (p:=p) (is:=is) (k:=k) (m:=m) (tt:=tt) (a:=ca) (n:=cn) hd;have hcl:=AG (a:=d) (by omega);have hnm:=LK (p:=p) h;refine aV ?_;unfold mJ zAh;simp only;generalize CQ is ⟨k,m,tt,d⟩ ca cn=RD at hrd ⊢;generalize iG t p=N at hnm ⊢;cases k14:(ck==14)
 .cases is
  ·
   refine eT func127 λX0 hX=>?_;simp only[f127,go_sem]
   repeat' (first|exact⟨⟩|refine sq ?_)
   all_goals exact⟨rfl,rfl,rfl,rfl,.inr ⟨_,rfl⟩,.inr ⟨_,rfl⟩,.inr ⟨_,rfl⟩⟩
  .cases k8:(ck==8)
   .cases k15:(ck==15)
    ·
     refine eT func127 λX0 hX=>?_;simp only[f127,go_sem]
     repeat' (first|exact⟨⟩|refine sq ?_)
     all_goals first|exact⟨rfl,rfl,rfl,rfl,.inr ⟨_,rfl⟩,.inr ⟨_,rfl⟩,.inr ⟨_,rfl⟩⟩|exact⟨rfl,rfl,rfl,.inr ⟨_,rfl⟩,.inr ⟨_,rfl⟩⟩|exact⟨.inr ⟨_,rfl⟩,.inr ⟨_,rfl⟩⟩
    .cases hk:(k==2)
     ·
      refine eT func127 λX0 hX=>?_;simp only[f127,go_sem]
      repeat' (first|exact⟨⟩|refine sq ?_|refine uF (dS) ?_)
      all_goals exact⟨rfl,rfl,rfl,rfl,.inr ⟨_,rfl⟩,.inr ⟨_,rfl⟩,.inr ⟨_,rfl⟩⟩
     ·
      refine eT func127 λX0 hX=>?_;simp only[f127,go_sem]
      repeat' (first|exact⟨⟩|refine sq ?_|refine uF (dS) ?_|refine uN (hnm) ?_)
      all_goals first|exact⟨rfl,rfl,rfl,rfl,.inr ⟨_,rfl⟩,.inr ⟨_,rfl⟩,.inr ⟨_,rfl⟩⟩|exact⟨rfl,rfl,rfl,.inr ⟨_,rfl⟩,.inr ⟨_,rfl⟩⟩|exact⟨.inr ⟨_,rfl⟩,.inr ⟨_,rfl⟩⟩
   .cases hk:(k==3)
    .have hk2:(k != 3)=true:=by rw[bne,hk];rfl
     refine eT func127 λX0 hX=>?_;simp only[f127,go_sem]
     repeat' (first|exact⟨⟩|refine sq ?_)
     all_goals exact⟨rfl,rfl,rfl,rfl,.inr ⟨_,rfl⟩,.inr ⟨_,rfl⟩,.inr ⟨_,rfl⟩⟩
    .have hk2:(k != 3)=false:=by rw[bne,hk];rfl
     refine eT func127 λX0 hX=>?_;simp only[f127,go_sem]
     repeat' (first|exact⟨⟩|refine sq ?_|refine uN (hcl) ?_)
     all_goals first|exact⟨rfl,rfl,rfl,rfl,.inr ⟨_,rfl⟩,.inr ⟨_,rfl⟩,.inr ⟨_,rfl⟩⟩|exact⟨rfl,rfl,rfl,.inr ⟨_,rfl⟩,.inr ⟨_,rfl⟩⟩|exact⟨.inr ⟨_,rfl⟩,.inr ⟨_,rfl⟩⟩
 ·
  refine eT func127 λX0 hX=>?_;simp only[f127,go_sem]
  repeat' (first|exact⟨⟩|refine sp ?_|refine uN (hrd) ?_)
  all_goals first|exact⟨rfl,rfl,rfl,rfl,.inr ⟨_,rfl⟩,.inr ⟨_,rfl⟩,.inr ⟨_,rfl⟩⟩|exact⟨rfl,rfl,rfl,.inr ⟨_,rfl⟩,.inr ⟨_,rfl⟩⟩|exact⟨.inr ⟨_,rfl⟩,.inr ⟨_,rfl⟩⟩
end places
theorem do_c{t:List It}{ck:Int}{cp cq:List UInt8}{cm:Int}{ct:Nat}{ca cn:Int}{cd:List UInt8}(h:OkT t)(hct:ct<18446744073709551616)(hcp:cp.length<=9223372036854775807)
  (hcd:cd.length<=140737488355328)(hcq:cq.length<=9223372036854775807)(hca:-9223372036854775808<=ca/\ca<=9223372036854775807):
  aA prog 75 [.c (.p (.sl 5 (aS t))),.agg (clc ck cp cq cm ct ca cn cd)] [] λr h =>
   r=.tup [.c (.p (.sl 5 (aS (doP t ⟨ck,cp,cq,cm,ct,ca,cn,cd⟩).1))),.agg (anv (doP t ⟨ck,cp,cq,cm,ct,ca,cn,cd⟩).2)]/\h=[]:=by
 have htl:=h.len;have hcpy:=AJ (t:=t) (by omega) λx hx=>Nat.le_trans (h.dlen x hx) (by decide);have hwk:=zLL (s:=cp) (fo:=gU ck) h hcp;have hql:=VJ (t:=t) (s:=cp) (fo:=gU ck);refine aV ?_;unfold doP;simp only;generalize cR t cp (gU ck)=W at hwk hql ⊢;obtain⟨p,is,e⟩:=W;simp only at hwk hql ⊢;have hat:=zRh (p:=p) (is:=is) h (by omega);obtain⟨hnd,hnt⟩:=OkT.node h p;have hak:=zLS (p:=p) (is:=is) (k:=(nodeAt t p).k) (m:=(nodeAt t p).m) (tt:=(nodeAt t p).t) (ck:=ck) (cp:=cp) (cq:=cq) (cm:=cm) (ct:=ct) (ca:=ca) (cn:=cn) (cd:=cd) h hnd;have htu:=LS (p:=p) (is:=is) (k:=(nodeAt t p).k) (m:=(nodeAt t p).m) (ck:=ck) (cp:=cp) (cm:=cm) (cn:=cn) h (by omega) hnd hnt hct hcd hcq hca;have eta:(⟨(nodeAt t p).k,(nodeAt t p).m,(nodeAt t p).t,(nodeAt t p).d⟩:Nd)=nodeAt t p:=rfl;rw[eta] at hak htu;generalize mJ t p is (nodeAt t p) ⟨ck,cp,cq,cm,ct,ca,cn,cd⟩=A at hak ⊢;generalize cI t p is (nodeAt t p) ⟨ck,cp,cq,cm,ct,ca,cn,cd⟩=U at htu ⊢;clear hnd hnt eta;generalize nodeAt t p=n at hat hak htu;obtain⟨k1,m1,t1,d1⟩:=n;simp only at hat hak htu;have hfo:=zFe (k:=ck);generalize gU ck=fo at hwk hfo;have htn:=zDi (k:=ck);generalize nH ck=tn at htn ⊢;obtain⟨U,ue⟩:=U;simp only at htu ⊢;cases r1:decide (ck<1)
 .cases r2:decide (15<ck)
  .cases q0:(e==0)
   .have q1:(e != 0)=true:=by rw[bne,q0];rfl
    refine eT func75 λX0 hX=>?_;simp only[f75,go_sem]
    repeat' (first|exact⟨⟩|refine sp ?_|((refine aG (id:=3) aF aN [] [0,1,2,3,4,5,6,7,8,9,10,11,12,13] (by decide +kernel) ?_);(repeat' (first|(refine aT ?_)|((refine bL ?_ rfl rfl ?_ ?_);(rotate_left 1);(focus ((repeat' (first|exact⟨⟩|refine sp ?_|refine uF (hfo) ?_|refine uN (hwk) ?_));exact rfl));(simp only[aC])))))|refine zC5 hcpy rfl ?_)
    all_goals first|exact⟨rfl,rfl,rfl,rfl,.inr ⟨_,rfl⟩,.inr ⟨_,rfl⟩,.inr ⟨_,rfl⟩⟩|exact⟨rfl,rfl,rfl,.inr ⟨_,rfl⟩,.inr ⟨_,rfl⟩⟩|exact⟨.inr ⟨_,rfl⟩,.inr ⟨_,rfl⟩⟩
   .have he:=eq_of_beq q0;subst he;cases tn
    ·
     refine eT func75 λX0 hX=>?_;simp only[f75,go_sem]
     repeat' (first|exact⟨⟩|refine sq ?_|((refine aG (id:=3) aF aN [] [0,1,2,3,4,5,6,7,8,9,10,11,12,13] (by decide +kernel) ?_);(repeat' (first|(refine aT ?_)|((refine bL ?_ rfl rfl ?_ ?_);(rotate_left 1);(focus ((repeat' (first|exact⟨⟩|refine sp ?_|refine uF (hfo) ?_|refine uN (hwk) ?_));exact rfl));(simp only[aC])))))|refine uN (hat) ?_|refine uF (htn) ?_|((refine aG (id:=8) aF aN [1,6] [0,1,2,3,4,5,6] (by decide +kernel) ?_);(repeat' (first|(refine aT ?_)|((refine cK ?_ ?_ rfl rfl rfl ?_ ?_);(rotate_left 2);(focus ((repeat' (first|exact⟨⟩|refine sp ?_|refine zC5 hcpy rfl ?_));((refine And.intro ?_ ?_<;>exact rfl))));(simp only[aC,bH]))|((refine cJ ?_ rfl rfl rfl ?_ ?_);(rotate_left 1);(focus ((repeat' (first|exact bA|refine aW ?_ ?_));(all_goals ((repeat' (first|exact⟨⟩|refine sp ?_|refine uN (hak) ?_));(try (exact rfl))))));(simp only[aC]))))))
     all_goals first|exact⟨rfl,rfl,rfl,rfl,.inr ⟨_,rfl⟩,.inr ⟨_,rfl⟩,.inr ⟨_,rfl⟩⟩|exact⟨rfl,rfl,rfl,.inr ⟨_,rfl⟩,.inr ⟨_,rfl⟩⟩|exact⟨.inr ⟨_,rfl⟩,.inr ⟨_,rfl⟩⟩
    .cases u0:(ue==0)
     .have u1:(ue != 0)=true:=by rw[bne,u0];rfl
      refine eT func75 λX0 hX=>?_;simp only[f75,go_sem]
      repeat' (first|exact⟨⟩|refine sq ?_|((refine aG (id:=3) aF aN [] [0,1,2,3,4,5,6,7,8,9,10,11,12,13] (by decide +kernel) ?_);(repeat' (first|(refine aT ?_)|((refine bL ?_ rfl rfl ?_ ?_);(rotate_left 1);(focus ((repeat' (first|exact⟨⟩|refine sp ?_|refine uF (hfo) ?_|refine uN (hwk) ?_));exact rfl));(simp only[aC])))))|refine uN (hat) ?_|refine uF (htn) ?_|refine uN (htu) ?_|refine zC5 hcpy rfl ?_)
      all_goals first|exact⟨rfl,rfl,rfl,rfl,.inr ⟨_,rfl⟩,.inr ⟨_,rfl⟩,.inr ⟨_,rfl⟩⟩|exact⟨rfl,rfl,rfl,.inr ⟨_,rfl⟩,.inr ⟨_,rfl⟩⟩|exact⟨.inr ⟨_,rfl⟩,.inr ⟨_,rfl⟩⟩
     .have ue0:=eq_of_beq u0;subst ue0;refine eT func75 λX0 hX=>?_;simp only[f75,go_sem]
      repeat' (first|exact⟨⟩|refine sq ?_|((refine aG (id:=3) aF aN [] [0,1,2,3,4,5,6,7,8,9,10,11,12,13] (by decide +kernel) ?_);(repeat' (first|(refine aT ?_)|((refine bL ?_ rfl rfl ?_ ?_);(rotate_left 1);(focus ((repeat' (first|exact⟨⟩|refine sp ?_|refine uF (hfo) ?_|refine uN (hwk) ?_));exact rfl));(simp only[aC])))))|refine uN (hat) ?_|refine uF (htn) ?_|refine uN (htu) ?_)
      all_goals first|exact⟨rfl,rfl,rfl,rfl,.inr ⟨_,rfl⟩,.inr ⟨_,rfl⟩,.inr ⟨_,rfl⟩⟩|exact⟨rfl,rfl,rfl,.inr ⟨_,rfl⟩,.inr ⟨_,rfl⟩⟩|exact⟨.inr ⟨_,rfl⟩,.inr ⟨_,rfl⟩⟩
  ·
   refine eT func75 λX0 hX=>?_;simp only[f75,go_sem]
   repeat' (first|exact⟨⟩|refine sp ?_|refine zC5 hcpy rfl ?_)
   all_goals first|exact⟨rfl,rfl,rfl,rfl,.inr ⟨_,rfl⟩,.inr ⟨_,rfl⟩,.inr ⟨_,rfl⟩⟩|exact⟨rfl,rfl,rfl,.inr ⟨_,rfl⟩,.inr ⟨_,rfl⟩⟩|exact⟨.inr ⟨_,rfl⟩,.inr ⟨_,rfl⟩⟩
 ·
  refine eT func75 λX0 hX=>?_;simp only[f75,go_sem]
  repeat' (first|exact⟨⟩|refine sp ?_|refine zC5 hcpy rfl ?_)
  all_goals first|exact⟨rfl,rfl,rfl,rfl,.inr ⟨_,rfl⟩,.inr ⟨_,rfl⟩,.inr ⟨_,rfl⟩⟩|exact⟨rfl,rfl,rfl,.inr ⟨_,rfl⟩,.inr ⟨_,rfl⟩⟩|exact⟨.inr ⟨_,rfl⟩,.inr ⟨_,rfl⟩⟩
end
end Go.Proofs.YtflcjdohmojepaaGreatDoor
end
section
namespace Go.Proofs.YtflcjdohmojepaaGreatDoor
open Go Go.Dm Go.Proofs.Tryz
theorem zKw{p q:List UInt8}{k m k' m':Int}{t t':Nat}{d d':List UInt8}:
  aA prog 95 [.agg [.p (.s p),.p (.i .i64 k),.p (.i .i64 m),.p (.f t),.p (.sl 1 (bU d))],.agg [.p (.s q),.p (.i .i64 k'),.p (.i .i64 m'),.p (.f t'),.p (.sl 1 (bU d'))]] []
   λr h=>r=.c (.p (.b (HO ⟨p,⟨k,m,t,d⟩⟩ ⟨q,⟨k',m',t',d'⟩⟩)))/\h=[]:=by
 refine eT func95 λX0 hX=>?_;simp only[f95,go_sem]
 repeat' (first|exact⟨⟩|refine sp ?_|refine uF (rG) ?_|refine aY (λ_=>?_) (λ_=>?_))
 all_goals ((simp_all[HO];done))
theorem zQt{a b:List It}(ha:a.length<=1000000)(hb:b.length<=1000000):
  aA prog 94 [.c (.p (.sl 5 (aS a))),.c (.p (.sl 5 (aS b))),.c (.clo 95 [])] [] λr h=>r=.c (.p (.b (gR a b)))/\h=[]:=by
 by_cases hl:b.length=a.length
 .have q1:((a.length:Int) != a.length)=false:=by simp
  refine eT func94 λX0 hX=>?_;simp only[f94,go_sem]
  repeat' (first|exact⟨⟩|refine sp ?_)
  refine aP aF aN (α:=Nat) (λk=>⟨32,[(1,.c (.p (.sl 5 (aS b)))),(2,.c (.clo 95 [])),(15,.c (.p (.sl 5 (aS a)))),(16,.c (.p (.i .i64 a.length))),(17,.c (.p (.i .i64 k)))],[]⟩)
   (λk=>k<=a.length/\gR (a.drop k) (b.drop k)=gR a b) (λk=>a.length-k) 0 ⟨Nat.zero_le _,rfl⟩ (.inl (aB (by rw[hX];rfl) rfl rfl wkS)) ?_
  rintro k ⟨hk,hs⟩;by_cases hlt:k<a.length
  .have hx:a[k]?=some a[k]:=List.getElem?_eq_getElem hlt;have hy:b[k]?=some (b[k]'(by omega)):=List.getElem?_eq_getElem (by omega);have hg:=bZ hx;have hg2:=bZ hy;have h1:decide ((k:Int)<(a.length:Int))=true:=decide_eq_true (by omega);have hd:=YZ hx hy;generalize a[k]=x at hx hg hd;generalize (b[k]'(by omega))=y at hy hg2 hd;have w1:IntKind.i64.wrap ((k:Int)+1)=k+1:=wrap_i64 (by omega) (by omega);rw[hd] at hs;clear hd
   repeat' (first|exact⟨⟩|refine sp ?_|refine uF (zKw) ?_|refine aH (λ_=>?_) (λ_=>?_)|refine ai ?_)
   .rename_i hb;rw[Bool.not_eq_true'] at hb;rw[hb,Bool.false_and] at hs;rw[<- hs]
   .rename_i hb;rw[Bool.not_eq_false'] at hb;rw[hb,Bool.true_and] at hs;exact dE (k+1) ⟨by omega,hs⟩ (by omega) (aB rfl rfl rfl wkS)
  .have h1:decide ((k:Int)<(a.length:Int))=false:=decide_eq_false (by omega);rw[List.drop_of_length_le (by omega),List.drop_of_length_le (by omega)] at hs;have hs2:gR a b=true:=hs.symm;clear hs
   repeat' (first|exact⟨⟩|refine sp ?_)
 .have q1:((a.length:Int) != b.length)=true:=by simpa[bne] using λh=>hl (by omega)
  rw[HQ λh=>hl h.symm];refine eT func94 λX0 hX=>?_;simp only[f94,go_sem]
  repeat' (first|exact⟨⟩|refine sp ?_)
theorem JD{a b:List It}(ha:a.length<=1000000)(hb:b.length<=1000000):aA prog 39 [.c (.p (.sl 5 (aS a))),.c (.p (.sl 5 (aS b)))] [] λr h=>r=.c (.p (.b (gR a b)))/\h=[]:=by
 refine eT func39 λX0 hX=>?_;simp only[f39,go_sem]
 repeat' (first|exact⟨⟩|refine sp ?_|refine uF (zQt ha hb) ?_)
end Go.Proofs.YtflcjdohmojepaaGreatDoor
end
section
namespace Go.Proofs.YtflcjdohmojepaaGreatDoor
open Go Go.Dm Go.Proofs Go.Proofs.Tryz
theorem zKr{r:Rm}{s:List UInt8}{ck:Int}{cp cq:List UInt8}{cm:Int}{ct:Nat}{ca cn:Int}{cd:List UInt8}(hr:OkR r)(hct:ct<18446744073709551616)(hcp:cp.length<=9223372036854775807)
  (hcd:cd.length<=140737488355328)(hcq:cq.length<=9223372036854775807)(hca:-9223372036854775808<=ca/\ca<=9223372036854775807)
  (h3:((bY r s).2==0)=true->OkT (treeR r (bY r s).1.i)/\OkT (treeR r (bY r s).1.p)/\OkT (doP (treeR r (bY r s).1.i) ⟨ck,cp,cq,cm,ct,ca,cn,cd⟩).1):
  aA prog 22 [.c (.ptr 0 0),.c (.p (.s s)),.agg (clc ck cp cq cm ct ca cn cd)] (bO r) λd h=>d=.agg (anv (zD7 r s ⟨ck,cp,cq,cm,ct,ca,cn,cd⟩).2)/\h=bO (zD7 r s ⟨ck,cp,cq,cm,ct,ca,cn,cd⟩).1:=by
 have hly:=iM (s:=s) hr;have htr:=dH (a:=(bY r s).1.i) hr;have htn:=zDi (k:=ck);unfold zD7;generalize hy:bY r s=y at *;obtain⟨⟨yi,yp,yq,yf⟩,e⟩:=y;simp only[Ly.cv] at *;cases he:(e==0)
 .have hb:(e != 0)=true:=by rw[bne,he];rfl
  simp only[Bool.not_false,if_true];clear h3 htr htn hr;refine aV ?_;refine eT func22 λX0 hX=>?_;simp only[Tryz.f22,go_sem]
  repeat' (first|exact⟨⟩|refine sp ?_|refine uS [0,1,2,3] (hly) ?_)
  exact⟨rfl,rfl,rfl,rfl,.inr ⟨1,rfl⟩,.inr ⟨1,rfl⟩,.inr ⟨1,rfl⟩⟩
 .have hb:(e != 0)=false:=by rw[bne,he];rfl
  simp only[Bool.not_true,Bool.false_eq_true,if_false];obtain⟨k1,k2,k3⟩:=h3 he;cases hft:(yf && nH ck)
  .simp only[Bool.false_eq_true,if_false];have hdo:=do_c (cn:=cn) (cm:=cm) (ck:=ck) k1 hct hcp hcd hcq hca;have hsm:=JD (a:=treeR r yi) (b:=(doP (treeR r yi) ⟨ck,cp,cq,cm,ct,ca,cn,cd⟩).1) (by have:=k1.len;omega) (by have:=k3.len;omega);have hst:=TL (i:=yi) (p:=yp) (q:=yq) (f:=yf) hr k3 k2;unfold zCQ;simp only;generalize eF (treeR r yp) (doP (treeR r yi) ⟨ck,cp,cq,cm,ct,ca,cn,cd⟩).1=E1 at hst ⊢;generalize doP (treeR r yi) ⟨ck,cp,cq,cm,ct,ca,cn,cd⟩=T at *;obtain⟨T1,a⟩:=T;obtain⟨ae,⟨ak,am,at_,ad⟩,ab,al⟩:=a;simp only at *;generalize treeR r yi=T0 at *;clear h3 k1 k2 k3 hr;cases hs:gR T0 T1
   .simp only[Bool.false_eq_true,if_false];cases yf
    ·
     refine eT func22 λX0 hX=>?_;simp only[Tryz.f22,go_sem]
     repeat' (first|exact⟨⟩|refine sq ?_|refine uS [0,1,2,3] (hly) ?_|refine uS [0,1,2,3] (htr) ?_|refine uN (hdo) ?_|refine uN (hsm) ?_|refine uS [0,1,2,3] (hst) ?_)
    .rw[Bool.true_and] at hft;rw[hft] at htn;refine eT func22 λX0 hX=>?_;simp only[Tryz.f22,go_sem]
     repeat' (first|exact⟨⟩|refine sq ?_|refine uS [0,1,2,3] (hly) ?_|refine uS [0,1,2,3] (htr) ?_|refine uF (htn) ?_|refine uN (hdo) ?_|refine uN (hsm) ?_|refine uS [0,1,2,3] (hst) ?_)
   .simp only[if_true];cases yf
    ·
     refine eT func22 λX0 hX=>?_;simp only[Tryz.f22,go_sem]
     repeat' (first|exact⟨⟩|refine sq ?_|refine uS [0,1,2,3] (hly) ?_|refine uS [0,1,2,3] (htr) ?_|refine uN (hdo) ?_|refine uN (hsm) ?_)
    .rw[Bool.true_and] at hft;rw[hft] at htn;refine eT func22 λX0 hX=>?_;simp only[Tryz.f22,go_sem]
     repeat' (first|exact⟨⟩|refine sq ?_|refine uS [0,1,2,3] (hly) ?_|refine uS [0,1,2,3] (htr) ?_|refine uF (htn) ?_|refine uN (hdo) ?_|refine uN (hsm) ?_)
  .simp only[if_true];rw[Bool.and_eq_true] at hft;obtain⟨rfl,hft⟩:=hft;rw[hft] at htn;clear h3 k1 k2 k3 hr htr;refine aV ?_;refine eT func22 λX0 hX=>?_;simp only[Tryz.f22,go_sem]
   repeat' (first|exact⟨⟩|refine sp ?_|refine uS [0,1,2,3] (hly) ?_|refine uF (htn) ?_)
   exact⟨rfl,rfl,rfl,rfl,.inr ⟨1,rfl⟩,.inr ⟨1,rfl⟩,.inr ⟨1,rfl⟩⟩
end Go.Proofs.YtflcjdohmojepaaGreatDoor
end
section
namespace Go.Proofs.YtflcjdohmojepaaGreatDoor
open Go Go.Dm Go.Proofs.Tryz
theorem zLN{k m:Int}{t:Nat}{d:List UInt8}:aA prog 192 [.agg (ndc k m t d)] [] λr h=>r=.c (.p (.b (lI ⟨k,m,t,d⟩)))/\h=[]:=by
 refine eT func192 λX0 hX=>?_;simp only[f192,go_sem]
 repeat' (first|exact⟨⟩|refine sp ?_|refine uF (AB _) ?_|with_reducible refine aY (λ_=>?_) (λ_=>?_))
 all_goals first|(simp_all[lI];done)|(simp_all[lI];rw[Bool.eq_iff_iff];simp)
theorem zPb{p:List UInt8}{ck k m k2 m2:Int}{t t2:Nat}{d d2:List UInt8}(hp:p.length<=1000000000)(ht:t<18446744073709551616)(ht2:t2<18446744073709551616):
  aA prog 136 [.agg [.p (.s p),.p (.i .i64 ck),.p (.i .i64 k),.p (.i .i64 m),.p (.f t),.p (.sl 1 (bU d)),.p (.i .i64 k2),.p (.i .i64 m2),.p (.f t2),.p (.sl 1 (bU d2))]] [] λr h=>r=.c (.p (.b (zHV ⟨p,ck,⟨k,m,t,d⟩,⟨k2,m2,t2,d2⟩⟩)))/\h=[]:=by
 have c1:=zLN (k:=k) (m:=m) (t:=t) (d:=d);have c2:=zLN (k:=k2) (m:=m2) (t:=t2) (d:=d2);have c3:=dZ (k:=k) (m:=m) (d:=d) ht;have c4:=dZ (k:=k2) (m:=m2) (d:=d2) ht2;have c5:=fT hp;have c6:=zLq (k:=k) (m:=m) (t:=t) (d:=d) (k':=k2) (m':=m2) (t':=t2) (d':=d2) (!(ck==1)) (!(ck==2));unfold zHV;simp only;generalize lI ⟨k,m,t,d⟩=z1 at c1 ⊢;generalize lI ⟨k2,m2,t2,d2⟩=z2 at c2 ⊢;generalize aR ⟨k,m,t,d⟩=r1 at c3 ⊢;generalize aR ⟨k2,m2,t2,d2⟩=r2 at c4 ⊢;generalize bW p=ip at c5 ⊢;generalize lG (!(ck==1)) (!(ck==2)) ⟨k,m,t,d⟩ ⟨k2,m2,t2,d2⟩=kf at c6 ⊢;have n1:(ck != 1) = !(ck==1):=rfl;have n2:(ck != 2) = !(ck==2):=rfl;have n0:(ck != 0) = !(ck==0):=rfl;have n3:(p != []) = !(p == []):=rfl;have hqq:((ck==1) && (ck==2))=false:=by
  cases e1:(ck==1)
  .rfl
  .rw[eq_of_beq e1];rfl
 generalize (ck==1)=q1 at n1 c6 hqq ⊢;generalize (ck==2)=q2 at n2 c6 hqq ⊢;generalize (ck==0)=q0 at n0 ⊢;generalize hq8:(kf==ck)=q8;generalize hp0:(p == [])=p0 at n3 ⊢;cases q1<;>cases q2
 .simp only[Bool.not_false,Bool.false_or,Bool.or_true,Bool.and_true] at n1 n2 c6 ⊢;clear hqq;refine eT func136 λX0 hX=>?_;simp only[f136,go_sem]
  repeat' (first|exact⟨⟩|refine sq ?_|((refine aG (id:=1) aF aN [] [0,1,2,3,4,5,6,7] (by decide +kernel) ?_);(repeat' (first|(refine aT ?_)|((refine bL ?_ rfl rfl ?_ ?_);(rotate_left 1);(focus ((repeat' (first|exact⟨⟩|refine sp ?_));exact rfl));(simp only[aC])))))|((refine aG (id:=2) aF aN [] [0,1,2,3,4,5,6,7,8,9,10,11,12,13,14,15,16,17,18,19,20,21,22,23,24,25,26,27,28,29,30,31,32,33,34,35,36,37,38,39,40,41,42,43,44,45,46,47,48,49,50,51,52,53,54,55,56,57,58,59] (by decide +kernel) ?_);(repeat' (first|(refine aT ?_)|((refine bL ?_ rfl rfl ?_ ?_);(rotate_left 1);(focus ((repeat' (first|exact⟨⟩|refine sq ?_|refine uF (c1) ?_|refine uF (c2) ?_|refine uF (c3) ?_|refine uF (c4) ?_|refine uF (c5) ?_|refine uF (c6) ?_|refine aY (λ_=>?_) (λ_=>?_)));exact rfl));(simp only[aC]))|(cases p0)|(cases ip)|(cases z1)|(cases z2)|(cases r1)|(cases r2)|(cases q0)))))
  all_goals first|(simp;done)|trace_state
 .simp only[Bool.not_true,Bool.not_false,Bool.false_or,Bool.or_true,Bool.true_or,Bool.or_false,Bool.and_true] at n1 n2 c6 ⊢;clear hqq c4 r2;refine eT func136 λX0 hX=>?_;simp only[f136,go_sem]
  repeat' (first|exact⟨⟩|refine sq ?_|((refine aG (id:=1) aF aN [] [0,1,2,3,4,5,6,7] (by decide +kernel) ?_);(repeat' (first|(refine aT ?_)|((refine bL ?_ rfl rfl ?_ ?_);(rotate_left 1);(focus ((repeat' (first|exact⟨⟩|refine sp ?_));exact rfl));(simp only[aC])))))|((refine aG (id:=2) aF aN [] [0,1,2,3,4,5,6,7,8,9,10,11,12,13,14,15,16,17,18,19,20,21,22,23,24,25,26,27,28,29,30,31,32,33,34,35,36,37,38,39,40,41,42,43,44,45,46,47,48,49,50,51,52,53,54,55,56,57,58,59] (by decide +kernel) ?_);(repeat' (first|(refine aT ?_)|((refine bL ?_ rfl rfl ?_ ?_);(rotate_left 1);(focus ((repeat' (first|exact⟨⟩|refine sq ?_|refine uF (c1) ?_|refine uF (c2) ?_|refine uF (c3) ?_|refine uF (c5) ?_|refine uF (c6) ?_|refine aY (λ_=>?_) (λ_=>?_)));exact rfl));(simp only[aC]))|(cases p0)|(cases ip)|(cases z1)|(cases z2)|(cases r1)|(cases q0)))))
  all_goals first|(simp;done)|trace_state
 .simp only[Bool.not_true,Bool.not_false,Bool.false_or,Bool.or_true,Bool.true_or,Bool.or_false,Bool.and_true] at n1 n2 c6 ⊢;clear hqq c3 r1;refine eT func136 λX0 hX=>?_;simp only[f136,go_sem]
  repeat' (first|exact⟨⟩|refine sq ?_|((refine aG (id:=1) aF aN [] [0,1,2,3,4,5,6,7] (by decide +kernel) ?_);(repeat' (first|(refine aT ?_)|((refine bL ?_ rfl rfl ?_ ?_);(rotate_left 1);(focus ((repeat' (first|exact⟨⟩|refine sp ?_));exact rfl));(simp only[aC])))))|((refine aG (id:=2) aF aN [] [0,1,2,3,4,5,6,7,8,9,10,11,12,13,14,15,16,17,18,19,20,21,22,23,24,25,26,27,28,29,30,31,32,33,34,35,36,37,38,39,40,41,42,43,44,45,46,47,48,49,50,51,52,53,54,55,56,57,58,59] (by decide +kernel) ?_);(repeat' (first|(refine aT ?_)|((refine bL ?_ rfl rfl ?_ ?_);(rotate_left 1);(focus ((repeat' (first|exact⟨⟩|refine sq ?_|refine uF (c1) ?_|refine uF (c2) ?_|refine uF (c4) ?_|refine uF (c5) ?_|refine uF (c6) ?_|refine aY (λ_=>?_) (λ_=>?_)));exact rfl));(simp only[aC]))|(cases p0)|(cases ip)|(cases z1)|(cases z2)|(cases r2)|(cases q0)))))
  all_goals first|(simp;done)|trace_state
 .cases hqq
theorem xJ{l:List Ch}(hl:l.length<=1000000)(hp:∀x∈l,x.p.length<=1000000000/\x.o.t<18446744073709551616/\x.n.t<18446744073709551616):
  aA prog 88 [.c (.p (.sl 10 (lE l)))] [] λr h=>r=.c (.p (.b (gA l)))/\h=[]:=by
 refine eT func88 λX0 hX=>?_;simp only[f88,go_sem]
 repeat' (first|exact⟨⟩|refine sp ?_)
 refine aP aF aN (α:=Nat) (λk=>⟨32,[(0,.c (.p (.sl 10 (lE l)))),(5,.c (.p (.sl 10 (lE l)))),(6,.c (.p (.i .i64 l.length))),(7,.c (.p (.i .i64 k)))],[]⟩)
  (λk=>k<=l.length/\dW (lL l k) (l.drop k)=gA l) (λk=>l.length-k) 0 ⟨Nat.zero_le _,rfl⟩ (.inl (aB (by rw[hX];rfl) rfl rfl wkS)) ?_
 rintro k ⟨hk,hgo⟩;by_cases hlt:k<l.length
 .have hx:l[k]?=some l[k]:=List.getElem?_eq_getElem hlt;have hg:=mA hx;have h1:decide ((k:Int)<(l.length:Int))=true:=decide_eq_true (by omega);have w1:IntKind.i64.wrap ((k:Int)+1)=k+1:=wrap_i64 (by omega) (by omega);have hki:(k:Int)<(l.length:Int):=by omega
  have hk0:(0:Int)<=k:=by omega
  have prev:(decide ((0:Int)<k)=false/\lX (lL l k) l[k].p=true)∨∃m:Nat,∃y:Ch,decide ((0:Int)<k)=true/\IntKind.i64.wrap ((k:Int)-1)=(m:Int)/\(m:Int)<l.length/\l[m]?=some y/\decide (ED l[k].p y.p<=0) = !lX (lL l k) l[k].p:=by
   by_cases h0:0<k
   .have hmk:k-1<l.length:=by omega
    refine .inr ⟨k-1,l[k-1],decide_eq_true (by omega),?_,by omega,List.getElem?_eq_getElem hmk,?_⟩
    .rw[wrap_i64 (by omega) (by omega)];omega
    .rw [zL3];have e:lL l k=some l[k-1].p:=by
      have:=nM (List.getElem?_eq_getElem hmk);rw[show k-1+1=k by omega] at this
      exact this
     rw[e];rfl
   .refine .inl ⟨decide_eq_false (by omega),?_⟩;have:k=0:=by omega
    subst this;rfl
  have hdr:l.drop k=l[k]::l.drop (k+1):=List.drop_eq_getElem_cons hlt;have hnx:=nM hx;rw[hdr,dW,<- hnx] at hgo;obtain⟨p1,p2,p3⟩:=hp _ (List.getElem_mem hlt);have hc:=zPb (p:=l[k].p) (ck:=l[k].k) (k:=l[k].o.k) (m:=l[k].o.m) (t:=l[k].o.t) (d:=l[k].o.d) (k2:=l[k].n.k) (m2:=l[k].n.m) (t2:=l[k].n.t) (d2:=l[k].n.d) p1 p2 p3;have e5:Ch.mk l[k].p l[k].k ⟨l[k].o.k,l[k].o.m,l[k].o.t,l[k].o.d⟩ ⟨l[k].n.k,l[k].n.m,l[k].n.t,l[k].n.d⟩=l[k]:=rfl;rw[e5] at hc;clear hnx hdr hp e5;generalize lX (lL l k) l[k].p=a3 at prev hgo;generalize l[k]=x at hx hg prev hc hgo p1;generalize zHV x=mc at hc hgo;cases mc
  .have hf:gA l=false:=by rw[<- hgo];rfl
   rw[hf];clear hf hgo;rcases prev with⟨b1,rfl⟩|⟨m,y,b1,b2,b3,b4,b5⟩
   .repeat' (first|exact⟨⟩|refine sp ?_|((refine aG (id:=4) aF aN [] [0,1,2,3,4,5,6,7,8,9,10,11,12,13,14,15,16,17,18] (by decide +kernel) ?_);(repeat' (first|(refine aT ?_)|((refine bL ?_ rfl rfl ?_ ?_);(rotate_left 1);(focus ((repeat' (first|exact⟨⟩|refine sq ?_|refine uF (hc) ?_));exact rfl));(simp only[aC]))))))
   .have hgy:=mA b4
    repeat' (first|exact⟨⟩|refine sp ?_|((refine aG (id:=4) aF aN [] [0,1,2,3,4,5,6,7,8,9,10,11,12,13,14,15,16,17,18] (by decide +kernel) ?_);(repeat' (first|(refine aT ?_)|((refine bL ?_ rfl rfl ?_ ?_);(rotate_left 1);(focus ((repeat' (first|exact⟨⟩|refine sq ?_|refine uF (hc) ?_));exact rfl));(simp only[aC]))))))
  .rcases prev with⟨b1,rfl⟩|⟨m,y,b1,b2,b3,b4,b5⟩
   .have hJ:k+1<=l.length/\dW (lL l (k+1)) (l.drop (k+1))=gA l:=⟨by omega,by rw[<- hgo];simp⟩
    clear hgo
    repeat' (first|exact⟨⟩|refine sp ?_|((refine aG (id:=4) aF aN [] [0,1,2,3,4,5,6,7,8,9,10,11,12,13,14,15,16,17,18] (by decide +kernel) ?_);(repeat' (first|(refine aT ?_)|((refine bL ?_ rfl rfl ?_ ?_);(rotate_left 1);(focus ((repeat' (first|exact⟨⟩|refine sq ?_|refine uF (hc) ?_));exact rfl));(simp only[aC]))))))
    exact dE (k+1) hJ (by omega) (aB rfl rfl rfl wkS)
   .have hgy:=mA b4;have hm0:(0:Int)<=m:=by omega
    cases a3
    .have hf:gA l=false:=by rw[<- hgo];rfl
     rw[hf];rw[Bool.not_false] at b5;clear hf hgo b4
     repeat' (first|exact⟨⟩|refine sp ?_|((refine aG (id:=4) aF aN [] [0,1,2,3,4,5,6,7,8,9,10,11,12,13,14,15,16,17,18] (by decide +kernel) ?_);(repeat' (first|(refine aT ?_)|((refine bL ?_ rfl rfl ?_ ?_);(rotate_left 1);(focus ((repeat' (first|exact⟨⟩|refine sq ?_|refine uF (hc) ?_|refine uF (lV) ?_));exact rfl));(simp only[aC]))))))
    .have hJ:k+1<=l.length/\dW (lL l (k+1)) (l.drop (k+1))=gA l:=⟨by omega,by rw[<- hgo];simp⟩
     rw[Bool.not_true] at b5;clear hgo b4
     repeat' (first|exact⟨⟩|refine sp ?_|((refine aG (id:=4) aF aN [] [0,1,2,3,4,5,6,7,8,9,10,11,12,13,14,15,16,17,18] (by decide +kernel) ?_);(repeat' (first|(refine aT ?_)|((refine bL ?_ rfl rfl ?_ ?_);(rotate_left 1);(focus ((repeat' (first|exact⟨⟩|refine sq ?_|refine uF (hc) ?_|refine uF (lV) ?_));exact rfl));(simp only[aC]))))))
     exact dE (k+1) hJ (by omega) (aB rfl rfl rfl wkS)
 .have h1:decide ((k:Int)<(l.length:Int))=false:=decide_eq_false (by omega);rw[List.drop_of_length_le (by omega),dW] at hgo;rw[<- hgo];clear hgo
  repeat' (first|exact⟨⟩|refine sp ?_)
end Go.Proofs.YtflcjdohmojepaaGreatDoor
end
