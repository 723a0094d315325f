/- Part 49 of roomPlays_card. No condition. -/
import Derived.Test.YtfcindonokhbeaaGreatDoorP42
set_option linter.all false
set_option maxRecDepth 100000
set_option maxHeartbeats 0
section
namespace Go.Proofs.YtfcindonokhbeaaGreatDoor
open Go Go.Dm Go.Proofs Go.Proofs.Tryz
section
section
variable {t:Bl}{p:Ba}{is:Bool}{cp cq:Ba}{cm:Int}{ct:Nat}{ca cn:Int}{cd:Ba}
abbrev AH(t:Bl)(p:Ba)(is:Bool)(ck:Int)(cp cq:Ba)(cm:Int)(ct:Nat)(ca cn:Int)(cd:Ba):Prop :=
  ag 115 [.c (.p (.sl 5 (aP t))),.agg (clc ck cp cq cm ct ca cn cd),.c (.p (.s p)),.c (.p (.b is))] (.tup [.c (.p (.sl 5 (aP (nO t ⟨ck,cp,cq,cm,ct,ca,cn,cd⟩ p is).1))),.agg (anv (nO t ⟨ck,cp,cq,cm,ct,ca,cn,cd⟩ p is).2)])
theorem EA{ck:Int}(h:OkT t)(g:p.length<=1000000000)(d:cd.length<=140737488355328)(f:ck=1∨ck=2∨ck=7):AH t p is ck cp cq cm ct ca cn cd:=by
 have i:=h.len;have a:=fT (t:=t) (p:=p) qd;have hid:=eA (t:=t) (p:=p) qd;have c:=zBk (p:=p) (is:=is) (cp:=cp) (cq:=cq) (cm:=cm) (ct:=ct) (ca:=ca) (cn:=cn) h g d f;have e:nO t ⟨ck,cp,cq,cm,ct,ca,cn,cd⟩ p is=((mQ t ⟨ck,cp,cq,cm,ct,ca,cn,cd⟩ p is).1,anE (mQ t ⟨ck,cp,cq,cm,ct,ca,cn,cd⟩ p is).2):=by
  rcases f with rfl|rfl|rfl<;>rfl
 unfold AH;rw[e];generalize mQ t ⟨ck,cp,cq,cm,ct,ca,cn,cd⟩ p is=C at c ⊢;generalize (aN t p).getD nd0=n at a;generalize (aN t p).isSome=b at a;obtain⟨j,k,l,m⟩:=n;generalize aZ t p=D at hid;refine aG ?_;rcases f with rfl|rfl|rfl
 all_goals cases is
 all_goals
  refine aa func115 λo q=>?_
  repeat' (first|exact⟨⟩|refine sp ?_|refine uN a ?_|refine uF hid ?_|refine uN c ?_)
theorem zRH(h:OkT t):AH t p is 4 cp cq cm ct ca cn cd:=by
 have l:=h.len;have a:=fT (t:=t) (p:=p) qd;have hid:=eA (t:=t) (p:=p) qd;have c:=h.getd p;unfold AH;refine aG ?_;unfold nO anE;simp only;generalize (aN t p).getD nd0=n at a c ⊢;generalize (aN t p).isSome=b at a;obtain⟨o,q,r,e⟩:=n;simp only at a c ⊢;generalize aZ t p=D at hid ⊢;cases is
 ·
  refine aa func115 λg i=>?_
  repeat' (first|exact⟨⟩|refine sq ?_|refine uN a ?_|refine uF eG ?_)
  all_goals first|exact⟨rfl,rfl,rfl,.inr ⟨_,rfl⟩,.inr ⟨_,rfl⟩,.inr ⟨_,rfl⟩⟩|exact⟨.inr ⟨_,rfl⟩,.inr ⟨_,rfl⟩,.inr ⟨_,rfl⟩⟩
 .cases D
  .cases s:decide (cn<0)
   .obtain ⟨f,rfl⟩:∃f:Nat,cn=f:=⟨cn.toNat,by simp at s;omega⟩
    rw[ix];cases u:decide ((e.length:Int)<(f:Int))
    .have v:f<=e.length:=by simp at u;omega
     have w:(0:Int)<=(f:Int):=qd
     have x:(f:Int)<=(e.length:Int):=qd
     have j:=BC (t:=t) (p:=p) (k:=o) (m:=q) (tt:=r) (d:=e.take f) qd;refine aa func115 λg i=>?_
     repeat' (first|exact⟨⟩|refine sq ?_|refine uN a ?_|refine uF hid ?_|refine uF eG ?_|refine uN j ?_)
     all_goals first|exact⟨rfl,rfl,rfl,.inr ⟨_,rfl⟩,.inr ⟨_,rfl⟩,.inr ⟨_,rfl⟩⟩|exact⟨.inr ⟨_,rfl⟩,.inr ⟨_,rfl⟩,.inr ⟨_,rfl⟩⟩
    ·
     refine aa func115 λg i=>?_
     repeat' (first|exact⟨⟩|refine sq ?_|refine uN a ?_|refine uF hid ?_|refine uF eG ?_)
     all_goals first|exact⟨rfl,rfl,rfl,.inr ⟨_,rfl⟩,.inr ⟨_,rfl⟩,.inr ⟨_,rfl⟩⟩|exact⟨.inr ⟨_,rfl⟩,.inr ⟨_,rfl⟩,.inr ⟨_,rfl⟩⟩
   ·
    refine aa func115 λg i=>?_
    repeat' (first|exact⟨⟩|refine sq ?_|refine uN a ?_|refine uF hid ?_|refine uF eG ?_)
    all_goals first|exact⟨rfl,rfl,rfl,.inr ⟨_,rfl⟩,.inr ⟨_,rfl⟩,.inr ⟨_,rfl⟩⟩|exact⟨.inr ⟨_,rfl⟩,.inr ⟨_,rfl⟩,.inr ⟨_,rfl⟩⟩
  ·
   refine aa func115 λg i=>?_
   repeat' (first|exact⟨⟩|refine sq ?_|refine uN a ?_|refine uF hid ?_|refine uF eG ?_)
   all_goals first|exact⟨rfl,rfl,rfl,.inr ⟨_,rfl⟩,.inr ⟨_,rfl⟩,.inr ⟨_,rfl⟩⟩|exact⟨.inr ⟨_,rfl⟩,.inr ⟨_,rfl⟩,.inr ⟨_,rfl⟩⟩
end
end
section
section
variable {t:Bl}{p:Ba}{is:Bool}{cp cq:Ba}{cm:Int}{ct:Nat}{ca cn:Int}{cd:Ba}
theorem zAA(h:OkT t):AH t p is 8 cp cq cm ct ca cn cd:=by
 have j:=h.len;have a:=fT (t:=t) (p:=p) qd;have hid:=eA (t:=t) (p:=p) qd;have c:=h.getd p;unfold AH;refine aG ?_;unfold nO anE;simp only;generalize (aN t p).getD nd0=n at a c ⊢;generalize (aN t p).isSome=b at a;obtain⟨e,k,l,m⟩:=n;simp only at a c ⊢;generalize aZ t p=D at hid ⊢;cases is
 ·
  refine aa func115 λg i=>?_
  repeat' (first|exact⟨⟩|refine sq ?_|refine uN a ?_|refine uF eG ?_)
  all_goals first|exact⟨rfl,rfl,rfl,.inr ⟨_,rfl⟩,.inr ⟨_,rfl⟩,.inr ⟨_,rfl⟩⟩|exact⟨.inr ⟨_,rfl⟩,.inr ⟨_,rfl⟩,.inr ⟨_,rfl⟩⟩|exact⟨rfl,rfl,rfl,.inr ⟨_,rfl⟩,.inr ⟨_,rfl⟩⟩|exact⟨.inr ⟨_,rfl⟩,.inr ⟨_,rfl⟩⟩|exact .inr ⟨_,rfl⟩
 .cases d:(e==3)
  .have f:(e != 3)=true:=by rw[bne,d];rfl
   skip
   refine aa func115 λg i=>?_
   repeat' (first|exact⟨⟩|refine sq ?_|refine uN a ?_|refine uF hid ?_|refine uF eG ?_)
   all_goals first|exact⟨rfl,rfl,rfl,.inr ⟨_,rfl⟩,.inr ⟨_,rfl⟩,.inr ⟨_,rfl⟩⟩|exact⟨.inr ⟨_,rfl⟩,.inr ⟨_,rfl⟩,.inr ⟨_,rfl⟩⟩|exact⟨rfl,rfl,rfl,.inr ⟨_,rfl⟩,.inr ⟨_,rfl⟩⟩|exact⟨.inr ⟨_,rfl⟩,.inr ⟨_,rfl⟩⟩|exact .inr ⟨_,rfl⟩
  .have f:(e != 3)=false:=by rw[bne,d];rfl
   skip
   refine aa func115 λg i=>?_
   repeat' (first|exact⟨⟩|refine sq ?_|refine uN a ?_|refine uF hid ?_|((refine aK (id:=45) aC aI [5] [0,1,2,3,4,5] qi ?_);(repeat' (first|(refine aM ?_)|((refine bJ ?_ ?_ rfl rfl rfl ?_ ?_);(rotate_left 2);(focus ((repeat' (first|exact⟨⟩|refine sp ?_));((refine And.intro ?_ ?_<;>exact rfl))));(simp only[aQ]))|((refine bI ?_ rfl rfl rfl ?_ ?_);(rotate_left 1);(focus ((repeat' (first|exact aS|refine aL ?_ ?_));(all_goals ((repeat' (first|exact⟨⟩|refine sp ?_));(try (exact rfl))))));(simp only[aD]))))))
   all_goals first|exact⟨rfl,rfl,rfl,.inr ⟨_,rfl⟩,.inr ⟨_,rfl⟩,.inr ⟨_,rfl⟩⟩|exact⟨.inr ⟨_,rfl⟩,.inr ⟨_,rfl⟩,.inr ⟨_,rfl⟩⟩|exact⟨rfl,rfl,rfl,.inr ⟨_,rfl⟩,.inr ⟨_,rfl⟩⟩|exact⟨.inr ⟨_,rfl⟩,.inr ⟨_,rfl⟩⟩|exact .inr ⟨_,rfl⟩
theorem zAB{ck:Int}(h:OkT t)(d:ck=12∨ck=13):AH t p is ck cp cq cm ct ca cn cd:=by
 have f:=h.len;have a:=fT (t:=t) (p:=p) qd;have hid:=eA (t:=t) (p:=p) qd;have c:=h.getd p;unfold AH;refine aG ?_;have e:nO t ⟨ck,cp,cq,cm,ct,ca,cn,cd⟩ p is=if !is then (t,anE 6) else (t,⟨0,bK t p,[],[]⟩):=by
  rcases d with rfl|rfl<;>rfl
 rw[e];unfold bK anE;generalize (aN t p).getD nd0=n at a c ⊢;generalize (aN t p).isSome=b at a;obtain⟨g,i,j,k⟩:=n;simp only at a c ⊢;generalize aZ t p=D at hid ⊢;cases l:(p == [])<;>cases is
 all_goals rcases d with rfl|rfl
 all_goals
  refine aa func115 λm o=>?_
  repeat' (first|exact⟨⟩|refine sq ?_|refine uN a ?_|refine uF hid ?_|refine uF eG ?_|((refine aK (id:=50) aC aI [4] [0,1,2,3,4] qi ?_);(repeat' (first|(refine aM ?_)|((refine bJ ?_ ?_ rfl rfl rfl ?_ ?_);(rotate_left 2);(focus ((repeat' (first|exact⟨⟩|refine sp ?_));((refine And.intro ?_ ?_<;>exact rfl))));(simp only[aQ]))|((refine bI ?_ rfl rfl rfl ?_ ?_);(rotate_left 1);(focus ((repeat' (first|exact aS|refine aL ?_ ?_));(all_goals ((repeat' (first|exact⟨⟩|refine sp ?_));(try (exact rfl))))));(simp only[aD]))))))
  all_goals first|exact⟨rfl,rfl,rfl,.inr ⟨_,rfl⟩,.inr ⟨_,rfl⟩,.inr ⟨_,rfl⟩⟩|exact⟨.inr ⟨_,rfl⟩,.inr ⟨_,rfl⟩,.inr ⟨_,rfl⟩⟩|exact⟨rfl,rfl,rfl,.inr ⟨_,rfl⟩,.inr ⟨_,rfl⟩⟩|exact⟨.inr ⟨_,rfl⟩,.inr ⟨_,rfl⟩⟩|exact .inr ⟨_,rfl⟩
theorem zO9(h:OkT t):AH t p is 10 cp cq cm ct ca cn cd:=by
 have f:=h.len;have a:=fT (t:=t) (p:=p) qd;have hid:=eA (t:=t) (p:=p) qd;have e:=h.getd p;have c:=BC (t:=t) (p:=p) (k:=((aN t p).getD nd0).k) (m:=cm) (tt:=((aN t p).getD nd0).t) (d:=((aN t p).getD nd0).d) qd;unfold AH;refine aG ?_;unfold nO anE;simp only;generalize (aN t p).getD nd0=n at a e c ⊢;generalize (aN t p).isSome=b at a;obtain⟨j,l,o,q⟩:=n;simp only at a e c ⊢;generalize aZ t p=D at hid ⊢;cases is
 ·
  refine aa func115 λg i=>?_
  repeat' (first|simp only[*,go_sem,Nat.reduceLT,Nat.reduceLeDiff,Nat.reduceEqDiff,↓reduceIte,Nat.reduceAdd,Int.reduceBEq,br]|((with_reducible refine AF a ?_ ?_ ?_);exact rfl;exactλ_=>rfl)|((with_reducible refine mI eG ?_ ?_ ?_);exact rfl;exact rfl))
  all_goals first|exact⟨rfl,rfl,rfl,.inr ⟨_,rfl⟩,.inr ⟨_,rfl⟩,.inr ⟨_,rfl⟩⟩|exact⟨.inr ⟨_,rfl⟩,.inr ⟨_,rfl⟩,.inr ⟨_,rfl⟩⟩|exact⟨rfl,rfl,rfl,.inr ⟨_,rfl⟩,.inr ⟨_,rfl⟩⟩|exact⟨.inr ⟨_,rfl⟩,.inr ⟨_,rfl⟩⟩|exact .inr ⟨_,rfl⟩
 .cases r:(p == [])<;>cases s:decide (cm<0)<;>cases u:decide (4095<cm)
  all_goals
   refine aa func115 λg i=>?_
   repeat' (first|simp only[*,go_sem,Nat.reduceLT,Nat.reduceLeDiff,Nat.reduceEqDiff,↓reduceIte,Nat.reduceAdd,Int.reduceBEq,fa,bh]|((with_reducible refine AF a ?_ ?_ ?_);exact rfl;exactλ_=>rfl)|((with_reducible refine mI hid ?_ ?_ ?_);exact rfl;exact rfl)|((with_reducible refine mI eG ?_ ?_ ?_);exact rfl;exact rfl)|((with_reducible refine AF c ?_ ?_ ?_);exact rfl;exactλ_=>rfl)|((with_reducible refine And.intro ?_ ?_);(focus ((simp only[ew,ik] at *;omega)))))
   all_goals first|exact⟨rfl,rfl,rfl,.inr ⟨_,rfl⟩,.inr ⟨_,rfl⟩,.inr ⟨_,rfl⟩⟩|exact⟨.inr ⟨_,rfl⟩,.inr ⟨_,rfl⟩,.inr ⟨_,rfl⟩⟩|exact⟨rfl,rfl,rfl,.inr ⟨_,rfl⟩,.inr ⟨_,rfl⟩⟩|exact⟨.inr ⟨_,rfl⟩,.inr ⟨_,rfl⟩⟩|exact .inr ⟨_,rfl⟩
theorem zPe(h:OkT t):AH t p is 11 cp cq cm ct ca cn cd:=by
 have g:=h.len;have a:=fT (t:=t) (p:=p) qd;have hid:=eA (t:=t) (p:=p) qd;have e:=h.getd p;have f:=DA ct;have c:=BC (t:=t) (p:=p) (k:=((aN t p).getD nd0).k) (m:=((aN t p).getD nd0).m) (tt:=bL ct) (d:=((aN t p).getD nd0).d) qd;unfold AH;refine aG ?_;unfold nO anE;simp only;generalize bL ct=l at f c ⊢;generalize (aN t p).getD nd0=n at a e c ⊢;generalize (aN t p).isSome=b at a;obtain⟨o,q,r,s⟩:=n;simp only at a e c ⊢;generalize aZ t p=D at hid ⊢;cases is
 ·
  refine aa func115 λi j=>?_
  repeat' (first|exact⟨⟩|refine sq ?_|refine uN a ?_|refine uF eG ?_)
  all_goals first|exact⟨rfl,rfl,rfl,.inr ⟨_,rfl⟩,.inr ⟨_,rfl⟩,.inr ⟨_,rfl⟩⟩|exact⟨.inr ⟨_,rfl⟩,.inr ⟨_,rfl⟩,.inr ⟨_,rfl⟩⟩|exact⟨rfl,rfl,rfl,.inr ⟨_,rfl⟩,.inr ⟨_,rfl⟩⟩|exact⟨.inr ⟨_,rfl⟩,.inr ⟨_,rfl⟩⟩|exact .inr ⟨_,rfl⟩
 .cases u:(p == [])
  all_goals
   refine aa func115 λi j=>?_
   repeat' (first|exact⟨⟩|refine sq ?_|refine uN a ?_|refine uF hid ?_|refine uF eG ?_|refine uF f ?_|refine uN c ?_)
   all_goals first|exact⟨rfl,rfl,rfl,.inr ⟨_,rfl⟩,.inr ⟨_,rfl⟩,.inr ⟨_,rfl⟩⟩|exact⟨.inr ⟨_,rfl⟩,.inr ⟨_,rfl⟩,.inr ⟨_,rfl⟩⟩|exact⟨rfl,rfl,rfl,.inr ⟨_,rfl⟩,.inr ⟨_,rfl⟩⟩|exact⟨.inr ⟨_,rfl⟩,.inr ⟨_,rfl⟩⟩|exact .inr ⟨_,rfl⟩
end
end
section
section
variable {t:Bl}{p:Ba}{is:Bool}{cp cq:Ba}{cm:Int}{ct:Nat}{ca cn:Int}{cd:Ba}
theorem zDu(h:OkT t)(j:p.length<=1000000000)(f:cq.length<=9223372036854775807):AH t p is 9 cp cq cm ct ca cn cd:=by
 have k:=h.len;have a:=fT (t:=t) (p:=p) qd;have hid:=eA (t:=t) (p:=p) qd;have e:=h.getd p;have d:=λdir=>zBm (p:=p) (dir:=dir) (ck:=9) (cp:=cp) (cm:=cm) (ct:=ct) (ca:=ca) (cn:=cn) (cd:=cd) h j f;unfold AH;refine aG ?_;unfold nO;simp only;generalize (aN t p).getD nd0=n at a e ⊢;generalize (aN t p).isSome=b at a;obtain⟨l,m,o,q⟩:=n;simp only at a e ⊢;generalize aZ t p=D at hid ⊢;cases is
 ·
  refine aa func115 λg i=>?_
  repeat' (first|exact⟨⟩|refine sq ?_|refine uN a ?_|refine uF eG ?_)
  all_goals first|exact⟨rfl,rfl,rfl,rfl,.inr ⟨_,rfl⟩,.inr ⟨_,rfl⟩,.inr ⟨_,rfl⟩⟩|rfl|exact⟨rfl,rfl⟩|exact⟨rfl,rfl,rfl,.inr ⟨_,rfl⟩,.inr ⟨_,rfl⟩,.inr ⟨_,rfl⟩⟩|exact⟨.inr ⟨_,rfl⟩,.inr ⟨_,rfl⟩,.inr ⟨_,rfl⟩⟩|exact⟨rfl,rfl,rfl,.inr ⟨_,rfl⟩,.inr ⟨_,rfl⟩⟩|exact⟨.inr ⟨_,rfl⟩,.inr ⟨_,rfl⟩⟩|exact .inr ⟨_,rfl⟩
 .cases D
  .have c:=d false;clear d;simp only[cy];generalize sS t p false cq=R at c ⊢
   skip
   refine aa func115 λg i=>?_
   repeat' (first|exact⟨⟩|refine sq ?_|refine uN a ?_|refine uF hid ?_|refine uN c ?_)
   all_goals first|exact⟨rfl,rfl,rfl,rfl,.inr ⟨_,rfl⟩,.inr ⟨_,rfl⟩,.inr ⟨_,rfl⟩⟩|rfl|exact⟨rfl,rfl⟩|exact⟨rfl,rfl,rfl,.inr ⟨_,rfl⟩,.inr ⟨_,rfl⟩,.inr ⟨_,rfl⟩⟩|exact⟨.inr ⟨_,rfl⟩,.inr ⟨_,rfl⟩,.inr ⟨_,rfl⟩⟩|exact⟨rfl,rfl,rfl,.inr ⟨_,rfl⟩,.inr ⟨_,rfl⟩⟩|exact⟨.inr ⟨_,rfl⟩,.inr ⟨_,rfl⟩⟩|exact .inr ⟨_,rfl⟩
  .have c:=d true;clear d;simp only[cy];generalize sS t p true cq=R at c ⊢
   skip
   refine aa func115 λg i=>?_
   repeat' (first|exact⟨⟩|refine sq ?_|refine uN a ?_|refine uF hid ?_|refine uN c ?_)
   all_goals first|exact⟨rfl,rfl,rfl,rfl,.inr ⟨_,rfl⟩,.inr ⟨_,rfl⟩,.inr ⟨_,rfl⟩⟩|rfl|exact⟨rfl,rfl⟩|exact⟨rfl,rfl,rfl,.inr ⟨_,rfl⟩,.inr ⟨_,rfl⟩,.inr ⟨_,rfl⟩⟩|exact⟨.inr ⟨_,rfl⟩,.inr ⟨_,rfl⟩,.inr ⟨_,rfl⟩⟩|exact⟨rfl,rfl,rfl,.inr ⟨_,rfl⟩,.inr ⟨_,rfl⟩⟩|exact⟨.inr ⟨_,rfl⟩,.inr ⟨_,rfl⟩⟩|exact .inr ⟨_,rfl⟩
theorem zGk(h:OkT t):AH t p is 14 cp cq cm ct ca cn cd:=by
 have l:=h.len;have a:=fT (t:=t) (p:=p) qd;have hid:=eA (t:=t) (p:=p) qd;have i:=h.getd p;unfold AH;refine aG ?_;unfold nO anE;simp only;generalize (aN t p).getD nd0=n at a i ⊢;generalize (aN t p).isSome=b at a;obtain⟨A,B,C,c⟩:=n;simp only at a i ⊢;generalize aZ t p=D at hid ⊢;cases is
 ·
  refine aa func115 λd e=>?_
  repeat' (first|simp only[*,go_sem,Nat.reduceLT,Nat.reduceLeDiff,Nat.reduceEqDiff,↓reduceIte,Nat.reduceAdd,Int.reduceBEq,br]|((with_reducible refine AF a ?_ ?_ ?_);exact rfl;exactλ_=>rfl)|((with_reducible refine mI eG ?_ ?_ ?_);exact rfl;exact rfl))
  all_goals first|exact⟨rfl,rfl,rfl,.inr ⟨_,rfl⟩,.inr ⟨_,rfl⟩,.inr ⟨_,rfl⟩⟩|exact⟨.inr ⟨_,rfl⟩,.inr ⟨_,rfl⟩,.inr ⟨_,rfl⟩⟩|exact⟨rfl,rfl,rfl,.inr ⟨_,rfl⟩,.inr ⟨_,rfl⟩⟩|exact⟨.inr ⟨_,rfl⟩,.inr ⟨_,rfl⟩⟩|exact .inr ⟨_,rfl⟩
 .cases D
  .cases m:decide (ca<0)
   .cases o:decide (cn<0)
    .obtain ⟨f,rfl⟩:∃f:Nat,ca=f:=⟨ca.toNat,by simp at m;omega⟩
     obtain⟨g,rfl⟩:∃g:Nat,cn=g:=⟨cn.toNat,by simp at o;omega⟩
     simp only[ix];have q:(0:Int)<=(f:Int):=qd
     have r:(0:Int)<=(g:Int):=qd
     by_cases s:f<=c.length
     .have u:(if (c.length:Int)<(f:Int) then (c.length:Int) else (f:Int))=(f:Int):=au qd
      have j:(if (f:Int)<(c.length:Int) then (f:Int) else (c.length:Int))=(f:Int):=by split<;>omega
      have E:(f:Int)<=(c.length:Int):=qd
      have v:(c.drop f).length=c.length-f:=fh;by_cases w:g<=c.length-f
      .have x:(if ((c.length-f:Nat):Int)<(g:Int) then ((c.length-f:Nat):Int) else (g:Int))=(g:Int):=au qd
       have k:(if (g:Int)<((c.length-f:Nat):Int) then (g:Int) else ((c.length-f:Nat):Int))=(g:Int):=by split<;>omega
       have F:(g:Int)<=((c.length-f:Nat):Int):=qd
       skip
       refine aa func115 λd e=>?_
       repeat' (first|simp only[*,go_sem,Nat.reduceLT,Nat.reduceLeDiff,Nat.reduceEqDiff,↓reduceIte,Nat.reduceAdd,Int.reduceBEq,fa,bh]|((with_reducible refine AF a ?_ ?_ ?_);exact rfl;exactλ_=>rfl)|((with_reducible refine mI hid ?_ ?_ ?_);exact rfl;exact rfl)|((refine aK (id:=57) aC aI [10] [0,1,2,3,4,5,6,7,8,9,10] qi ?_);(repeat' (first|(refine aM ?_)|((refine bJ ?_ ?_ rfl rfl rfl ?_ ?_);(rotate_left 2);(focus ((repeat' (simp only[*,go_sem,Nat.reduceLeDiff,Nat.reduceEqDiff,↓reduceIte,Nat.reduceAdd,]));((refine And.intro ?_ ?_<;>exact rfl))));(simp only[aQ]))|((refine bI ?_ rfl rfl rfl ?_ ?_);(rotate_left 1);(focus ((repeat' (first|exact aS|refine aL ?_ ?_));(all_goals ((repeat' (simp only[*,go_sem,Nat.reduceLT,Nat.reduceLeDiff,Nat.reduceEqDiff,↓reduceIte,Nat.reduceAdd,Int.reduceLE,Int.reduceToNat,]));(try (exact rfl))))));(simp only[aD])))))|((with_reducible refine And.intro ?_ ?_);omega))
       all_goals first|exact⟨rfl,rfl,rfl,.inr ⟨_,rfl⟩,.inr ⟨_,rfl⟩,.inr ⟨_,rfl⟩⟩|exact⟨.inr ⟨_,rfl⟩,.inr ⟨_,rfl⟩,.inr ⟨_,rfl⟩⟩|exact⟨rfl,rfl,rfl,.inr ⟨_,rfl⟩,.inr ⟨_,rfl⟩⟩|exact⟨.inr ⟨_,rfl⟩,.inr ⟨_,rfl⟩⟩|exact .inr ⟨_,rfl⟩
      .have x:(if ((c.length-f:Nat):Int)<(g:Int) then ((c.length-f:Nat):Int) else (g:Int))=((c.length-f:Nat):Int):=aw qd
       have k:(if (g:Int)<((c.length-f:Nat):Int) then (g:Int) else ((c.length-f:Nat):Int))=((c.length-f:Nat):Int):=au qd
       have y:(c.drop f).take g=(c.drop f).take (c.length-f):=by rw[bu qd,bu qd]
       rw[y]
       skip
       refine aa func115 λd e=>?_
       repeat' (first|simp only[*,go_sem,Nat.reduceLT,Nat.reduceLeDiff,Nat.reduceEqDiff,↓reduceIte,Nat.reduceAdd,Int.reduceBEq,fa,bh]|((with_reducible refine AF a ?_ ?_ ?_);exact rfl;exactλ_=>rfl)|((with_reducible refine mI hid ?_ ?_ ?_);exact rfl;exact rfl)|((refine aK (id:=57) aC aI [10] [0,1,2,3,4,5,6,7,8,9,10] qi ?_);(repeat' (first|(refine aM ?_)|((refine bJ ?_ ?_ rfl rfl rfl ?_ ?_);(rotate_left 2);(focus ((repeat' (simp only[*,go_sem,Nat.reduceLeDiff,Nat.reduceEqDiff,↓reduceIte,Nat.reduceAdd,]));((refine And.intro ?_ ?_<;>exact rfl))));(simp only[aQ]))|((refine bI ?_ rfl rfl rfl ?_ ?_);(rotate_left 1);(focus ((repeat' (first|exact aS|refine aL ?_ ?_));(all_goals ((repeat' (first|simp only[*,go_sem,Nat.reduceLT,Nat.reduceLeDiff,Nat.reduceEqDiff,↓reduceIte,Nat.reduceAdd,Int.reduceLE,Int.reduceToNat,]|((with_reducible refine And.intro ?_ ?_);omega)));(try (exact rfl))))));(simp only[aD])))))|((with_reducible refine And.intro ?_ ?_);omega))
       all_goals first|exact⟨rfl,rfl,rfl,.inr ⟨_,rfl⟩,.inr ⟨_,rfl⟩,.inr ⟨_,rfl⟩⟩|exact⟨.inr ⟨_,rfl⟩,.inr ⟨_,rfl⟩,.inr ⟨_,rfl⟩⟩|exact⟨rfl,rfl,rfl,.inr ⟨_,rfl⟩,.inr ⟨_,rfl⟩⟩|exact⟨.inr ⟨_,rfl⟩,.inr ⟨_,rfl⟩⟩|exact .inr ⟨_,rfl⟩
     .have u:(if (c.length:Int)<(f:Int) then (c.length:Int) else (f:Int))=(c.length:Int):=aw qd
      have j:(if (f:Int)<(c.length:Int) then (f:Int) else (c.length:Int))=(c.length:Int):=au qd
      have z:c.drop c.length=[]:=ma;rw[cw qd,mu]
      skip
      refine aa func115 λd e=>?_
      repeat' (first|simp only[*,go_sem,Nat.reduceLT,Nat.reduceLeDiff,Nat.reduceEqDiff,↓reduceIte,Nat.reduceAdd,Int.reduceBEq,fa,bh]|((with_reducible refine AF a ?_ ?_ ?_);exact rfl;exactλ_=>rfl)|((with_reducible refine mI hid ?_ ?_ ?_);exact rfl;exact rfl)|((refine aK (id:=57) aC aI [10] [0,1,2,3,4,5,6,7,8,9,10] qi ?_);(repeat' (first|(refine aM ?_)|((refine bJ ?_ ?_ rfl rfl rfl ?_ ?_);(rotate_left 2);(focus ((repeat' (simp only[*,go_sem,Nat.reduceLeDiff,Nat.reduceEqDiff,↓reduceIte,Nat.reduceAdd,]));((refine And.intro ?_ ?_<;>exact rfl))));(simp only[aQ]))|((refine bI ?_ rfl rfl rfl ?_ ?_);(rotate_left 1);(focus ((repeat' (first|exact aS|refine aL ?_ ?_));(all_goals ((repeat' (first|simp only[*,go_sem,Nat.reduceLT,Nat.reduceLeDiff,Nat.reduceEqDiff,↓reduceIte,Nat.reduceAdd,Int.reduceLE,Int.reduceToNat,]|((with_reducible refine And.intro ?_ ?_);omega)));(try (exact rfl))))));(simp only[aD])))))|((with_reducible refine And.intro ?_ ?_);omega))
      all_goals first|exact⟨rfl,rfl,rfl,.inr ⟨_,rfl⟩,.inr ⟨_,rfl⟩,.inr ⟨_,rfl⟩⟩|exact⟨.inr ⟨_,rfl⟩,.inr ⟨_,rfl⟩,.inr ⟨_,rfl⟩⟩|exact⟨rfl,rfl,rfl,.inr ⟨_,rfl⟩,.inr ⟨_,rfl⟩⟩|exact⟨.inr ⟨_,rfl⟩,.inr ⟨_,rfl⟩⟩|exact .inr ⟨_,rfl⟩
    ·
     refine aa func115 λd e=>?_
     repeat' (first|simp only[*,go_sem,Nat.reduceLT,Nat.reduceLeDiff,Nat.reduceEqDiff,↓reduceIte,Nat.reduceAdd,Int.reduceBEq,fa,bh]|((with_reducible refine AF a ?_ ?_ ?_);exact rfl;exactλ_=>rfl)|((with_reducible refine mI hid ?_ ?_ ?_);exact rfl;exact rfl)|((with_reducible refine mI eG ?_ ?_ ?_);exact rfl;exact rfl))
     all_goals first|exact⟨rfl,rfl,rfl,.inr ⟨_,rfl⟩,.inr ⟨_,rfl⟩,.inr ⟨_,rfl⟩⟩|exact⟨.inr ⟨_,rfl⟩,.inr ⟨_,rfl⟩,.inr ⟨_,rfl⟩⟩|exact⟨rfl,rfl,rfl,.inr ⟨_,rfl⟩,.inr ⟨_,rfl⟩⟩|exact⟨.inr ⟨_,rfl⟩,.inr ⟨_,rfl⟩⟩|exact .inr ⟨_,rfl⟩
   ·
    refine aa func115 λd e=>?_
    repeat' (first|simp only[*,go_sem,Nat.reduceLT,Nat.reduceLeDiff,Nat.reduceEqDiff,↓reduceIte,Nat.reduceAdd,Int.reduceBEq,fa,bh]|((with_reducible refine AF a ?_ ?_ ?_);exact rfl;exactλ_=>rfl)|((with_reducible refine mI hid ?_ ?_ ?_);exact rfl;exact rfl)|((with_reducible refine mI eG ?_ ?_ ?_);exact rfl;exact rfl))
    all_goals first|exact⟨rfl,rfl,rfl,.inr ⟨_,rfl⟩,.inr ⟨_,rfl⟩,.inr ⟨_,rfl⟩⟩|exact⟨.inr ⟨_,rfl⟩,.inr ⟨_,rfl⟩,.inr ⟨_,rfl⟩⟩|exact⟨rfl,rfl,rfl,.inr ⟨_,rfl⟩,.inr ⟨_,rfl⟩⟩|exact⟨.inr ⟨_,rfl⟩,.inr ⟨_,rfl⟩⟩|exact .inr ⟨_,rfl⟩
  ·
   refine aa func115 λd e=>?_
   repeat' (first|simp only[*,go_sem,Nat.reduceLT,Nat.reduceLeDiff,Nat.reduceEqDiff,↓reduceIte,Nat.reduceAdd,Int.reduceBEq,fa,bh]|((with_reducible refine AF a ?_ ?_ ?_);exact rfl;exactλ_=>rfl)|((with_reducible refine mI hid ?_ ?_ ?_);exact rfl;exact rfl)|((with_reducible refine mI eG ?_ ?_ ?_);exact rfl;exact rfl))
   all_goals first|exact⟨rfl,rfl,rfl,.inr ⟨_,rfl⟩,.inr ⟨_,rfl⟩,.inr ⟨_,rfl⟩⟩|exact⟨.inr ⟨_,rfl⟩,.inr ⟨_,rfl⟩,.inr ⟨_,rfl⟩⟩|exact⟨rfl,rfl,rfl,.inr ⟨_,rfl⟩,.inr ⟨_,rfl⟩⟩|exact⟨.inr ⟨_,rfl⟩,.inr ⟨_,rfl⟩⟩|exact .inr ⟨_,rfl⟩
end
end
section
section
variable {t:Bl}{p:Ba}{is:Bool}{cp cq:Ba}{cm:Int}{ct:Nat}{ca cn:Int}{cd:Ba}
theorem zGm(h:OkT t)(g:p.length<=1000000000):AH t p is 5 cp cq cm ct ca cn cd:=by
 have e:=h.len;have a:=fT (t:=t) (p:=p) qd;have hid:=eA (t:=t) (p:=p) qd;have c:=h.getd p;have d:=xX (t:=t) (p:=p) qd qd λx f=>bj (h.plen x f) qh;unfold AH;refine aG ?_;unfold nO anE;simp only;generalize (aN t p).getD nd0=n at a c ⊢;generalize (aN t p).isSome=b at a;obtain⟨i,j,k,l⟩:=n;simp only at a c ⊢;generalize aZ t p=D at hid ⊢;cases is<;>cases D
 all_goals
  refine aa func115 λm o=>?_
  repeat' (first|exact⟨⟩|refine sq ?_|refine uN a ?_|refine uF hid ?_|refine uF eG ?_|refine uN d ?_)
  all_goals first|exact⟨rfl,rfl,rfl,.inr ⟨_,rfl⟩,.inr ⟨_,rfl⟩,.inr ⟨_,rfl⟩⟩|exact⟨.inr ⟨_,rfl⟩,.inr ⟨_,rfl⟩,.inr ⟨_,rfl⟩⟩|exact⟨rfl,rfl,rfl,.inr ⟨_,rfl⟩,.inr ⟨_,rfl⟩⟩|exact⟨.inr ⟨_,rfl⟩,.inr ⟨_,rfl⟩⟩|exact .inr ⟨_,rfl⟩
theorem zK0(h:OkT t)(i:p.length<=1000000000):AH t p is 6 cp cq cm ct ca cn cd:=by
 have f:=h.len;have a:=fT (t:=t) (p:=p) qd;have hid:=eA (t:=t) (p:=p) qd;have c:=h.getd p;have e:=xX (t:=t) (p:=p) qd qd λx g=>bj (h.plen x g) qh;have d:=tY (p:=p) h;unfold AH;refine aG ?_;unfold nO anE;simp only;generalize (aN t p).getD nd0=n at a c ⊢;generalize (aN t p).isSome=b at a;obtain⟨j,k,l,m⟩:=n;simp only at a c ⊢;generalize aZ t p=D at hid ⊢;generalize eZ t p=N at d ⊢;cases o:(p == [])<;>cases is<;>cases D
 all_goals
  refine aa func115 λq r=>?_
  repeat' (first|exact⟨⟩|refine sq ?_|refine uN a ?_|refine uF hid ?_|refine uF eG ?_|refine uN d ?_|refine uN e ?_|refine aH (λ_=>?_) (λ_=>?_))
  all_goals first|exact⟨rfl,rfl,rfl,.inr ⟨_,rfl⟩,.inr ⟨_,rfl⟩,.inr ⟨_,rfl⟩⟩|exact⟨.inr ⟨_,rfl⟩,.inr ⟨_,rfl⟩,.inr ⟨_,rfl⟩⟩|exact⟨rfl,rfl,rfl,.inr ⟨_,rfl⟩,.inr ⟨_,rfl⟩⟩|exact⟨.inr ⟨_,rfl⟩,.inr ⟨_,rfl⟩⟩|exact .inr ⟨_,rfl⟩
theorem zO7(h:OkT t):AH t p is 15 cp cq cm ct ca cn cd:=by
 have e:=h.len;have a:=fT (t:=t) (p:=p) qd;have hid:=eA (t:=t) (p:=p) qd;have c:=h.getd p;have d:=tY (p:=p) h;unfold AH;refine aG ?_;unfold nO anE;simp only;generalize (aN t p).getD nd0=n at a c ⊢;generalize (aN t p).isSome=b at a;obtain⟨f,g,i,j⟩:=n;simp only at a c ⊢;generalize aZ t p=D at hid ⊢;generalize eZ t p=N at d ⊢;cases is<;>cases D
 all_goals
  refine aa func115 λk l=>?_
  repeat' (first|exact⟨⟩|refine sq ?_|refine uN a ?_|refine uF hid ?_|refine uF eG ?_|refine uN d ?_)
  all_goals first|exact⟨rfl,rfl,rfl,.inr ⟨_,rfl⟩,.inr ⟨_,rfl⟩,.inr ⟨_,rfl⟩⟩|exact⟨.inr ⟨_,rfl⟩,.inr ⟨_,rfl⟩,.inr ⟨_,rfl⟩⟩|exact⟨rfl,rfl,rfl,.inr ⟨_,rfl⟩,.inr ⟨_,rfl⟩⟩|exact⟨.inr ⟨_,rfl⟩,.inr ⟨_,rfl⟩⟩|exact .inr ⟨_,rfl⟩
end
end
section
section
variable {t:Bl}{p:Ba}{is:Bool}{cp cq:Ba}{cm:Int}{ct:Nat}{ca cn:Int}{cd:Ba}
theorem zB1(h:OkT t)(z:-9223372036854775808<=ca/\ca<=9223372036854775807)(A:cd.length<=140737488355328):AH t p is 3 cp cq cm ct ca cn cd:=by
 have B:=h.len;have a:=fT (t:=t) (p:=p) qd;have hid:=eA (t:=t) (p:=p) qd;have o:=h.getd p;unfold AH;refine aG ?_;have e:=λ(k m:Int) (tt:Nat) (d:Ba)=>BC (t:=t) (p:=p) (k:=k) (m:=m) (tt:=tt) (d:=d) qd;unfold nO anE;simp only;generalize (aN t p).getD nd0=n at a o ⊢;generalize (aN t p).isSome=b at a;obtain⟨v,w,x,c⟩:=n;simp only at a o ⊢;generalize aZ t p=D at hid ⊢;cases is
 ·
  refine aa func115 λi j=>?_
  repeat' (first|simp only[*,go_sem,Nat.reduceLT,Nat.reduceLeDiff,Nat.reduceEqDiff,↓reduceIte,Nat.reduceAdd,Int.reduceBEq,br]|((with_reducible refine AF a ?_ ?_ ?_);exact rfl;exactλ_=>rfl)|((with_reducible refine mI eG ?_ ?_ ?_);exact rfl;exact rfl))
  all_goals first|exact⟨rfl,rfl,rfl,.inr ⟨_,rfl⟩,.inr ⟨_,rfl⟩,.inr ⟨_,rfl⟩⟩|exact⟨.inr ⟨_,rfl⟩,.inr ⟨_,rfl⟩,.inr ⟨_,rfl⟩⟩|exact⟨rfl,rfl,rfl,.inr ⟨_,rfl⟩,.inr ⟨_,rfl⟩⟩|exact⟨.inr ⟨_,rfl⟩,.inr ⟨_,rfl⟩⟩|exact .inr ⟨_,rfl⟩
 .cases D
  .cases C:decide (ca<0)
   .obtain ⟨f,rfl⟩:∃f:Nat,ca=f:=⟨ca.toNat,by simp at C;omega⟩
    rw[ix];cases E:decide ((c.length:Int)<(f:Int))
    .have F:f<=c.length:=by simp at E;omega
     have G:(0:Int)<=(f:Int):=qd
     have H:(f:Int)<=(c.length:Int):=qd
     have K:IntKind.i64.wrap (2000-(f:Int))=2000-(f:Int):=wrap_i64 qd qd;cases I:decide (2000-(f:Int)<(cd.length:Int))
     .have J:f+cd.length<=2000:=by simp at I;omega
      have q:(c.take f).length=f:=by rw[cr];omega
      have r:(c.take f++cd).length=f+cd.length:=by rw[bo,q]
      cases y:decide (((f+cd.length:Nat):Int)<(c.length:Int))
      .have s:wrD c f cd=(c.take f++cd).take (f+cd.length):=by
        have:¬ f+cd.length<c.length:=by simp at y;omega
        unfold wrD;rw[cw qd,dh,bu (l:=c.take f++cd) qd]
       have g:=e v w x ((c.take f++cd).take (f+cd.length));rw[s];clear e
       skip
       refine aa func115 λi j=>?_
       repeat' (first|simp only[*,go_sem,Nat.reduceLT,Nat.reduceLeDiff,Nat.reduceEqDiff,↓reduceIte,Nat.reduceAdd,Int.reduceBEq,fa,bh]|((with_reducible refine AF a ?_ ?_ ?_);exact rfl;exactλ_=>rfl)|((with_reducible refine mI hid ?_ ?_ ?_);exact rfl;exact rfl)|((with_reducible refine mI eG ?_ ?_ ?_);exact rfl;exact rfl)|((refine aK (id:=20) aC aI [0,6,9] [0,1,2,3,4,5,6,7,8,9,10] qi ?_);(repeat' (first|(refine aM ?_)|((refine bJ ?_ ?_ rfl rfl rfl ?_ ?_);(rotate_left 2);(focus ((repeat' (first|simp only[*,go_sem,Nat.reduceLT,Nat.reduceLeDiff,Nat.reduceEqDiff,↓reduceIte,Nat.reduceAdd,]|((with_reducible refine And.intro ?_ ?_);((first|omega|decide)))));((refine And.intro ?_ ?_<;>exact rfl))));(simp only[aD]))|((refine bI ?_ rfl rfl rfl ?_ ?_);(rotate_left 1);(focus ((repeat' (first|exact aS|refine aL ?_ ?_));(all_goals ((repeat' (simp only[*,go_sem,Nat.reduceLT,Nat.reduceEqDiff,↓reduceIte,Int.reduceLE,Int.reduceToNat,]));(try (exact rfl))))));(simp only[aD])))))|((with_reducible refine AF g ?_ ?_ ?_);exact rfl;exactλ_=>rfl)|((with_reducible apply aA.frz);exact rfl;exact rfl))
       all_goals first|exact⟨rfl,rfl,rfl,.inr ⟨_,rfl⟩,.inr ⟨_,rfl⟩,.inr ⟨_,rfl⟩⟩|exact⟨.inr ⟨_,rfl⟩,.inr ⟨_,rfl⟩,.inr ⟨_,rfl⟩⟩|exact⟨rfl,rfl,rfl,.inr ⟨_,rfl⟩,.inr ⟨_,rfl⟩⟩|exact⟨.inr ⟨_,rfl⟩,.inr ⟨_,rfl⟩⟩|exact .inr ⟨_,rfl⟩
      .have L:f+cd.length<=c.length:=by simp at y;omega
       have M:((f+cd.length:Nat):Int)<=(c.length:Int):=qd
       have N:(0:Int)<=((f+cd.length:Nat):Int):=qd
       have u:(c.drop (f+cd.length)).length=c.length-(f+cd.length):=fh;have g:=e v w x ((c.take f++cd++c.drop (f+cd.length)).take (f+cd.length+(c.length-(f+cd.length))));have s:wrD c f cd=(c.take f++cd++c.drop (f+cd.length)).take (f+cd.length+(c.length-(f+cd.length))):=by
        unfold wrD;rw[bu (l:=c.take f++cd++c.drop (f+cd.length)) (by rw[bo,r,u];omega)]
       rw[s];clear e
       skip
       refine aa func115 λi j=>?_
       repeat' (first|simp only[*,go_sem,Nat.reduceLT,Nat.reduceLeDiff,Nat.reduceEqDiff,↓reduceIte,Nat.reduceAdd,Int.reduceBEq,fa,bh]|((with_reducible refine AF a ?_ ?_ ?_);exact rfl;exactλ_=>rfl)|((with_reducible refine mI hid ?_ ?_ ?_);exact rfl;exact rfl)|((with_reducible refine mI eG ?_ ?_ ?_);exact rfl;exact rfl)|((refine aK (id:=20) aC aI [0,6,9] [0,1,2,3,4,5,6,7,8,9,10] qi ?_);(repeat' (first|(refine aM ?_)|((refine bJ ?_ ?_ rfl rfl rfl ?_ ?_);(rotate_left 2);(focus ((repeat' (first|simp only[*,go_sem,Nat.reduceLT,Nat.reduceLeDiff,Nat.reduceEqDiff,↓reduceIte,Nat.reduceAdd,]|((with_reducible refine And.intro ?_ ?_);((first|omega|decide)))));((refine And.intro ?_ ?_<;>exact rfl))));(simp only[aD]))|((refine bI ?_ rfl rfl rfl ?_ ?_);(rotate_left 1);(focus ((repeat' (first|exact aS|refine aL ?_ ?_));(all_goals ((repeat' (simp only[*,go_sem,Nat.reduceLT,Nat.reduceEqDiff,↓reduceIte,Int.reduceLE,Int.reduceToNat,]));(try (exact rfl))))));(simp only[aD])))))|((with_reducible refine AF g ?_ ?_ ?_);exact rfl;exactλ_=>rfl)|((with_reducible apply aA.frz);exact rfl;exact rfl)|((with_reducible refine And.intro ?_ ?_);omega))
       all_goals first|exact⟨rfl,rfl,rfl,.inr ⟨_,rfl⟩,.inr ⟨_,rfl⟩,.inr ⟨_,rfl⟩⟩|exact⟨.inr ⟨_,rfl⟩,.inr ⟨_,rfl⟩,.inr ⟨_,rfl⟩⟩|exact⟨rfl,rfl,rfl,.inr ⟨_,rfl⟩,.inr ⟨_,rfl⟩⟩|exact⟨.inr ⟨_,rfl⟩,.inr ⟨_,rfl⟩⟩|exact .inr ⟨_,rfl⟩
     ·
      refine aa func115 λi j=>?_
      repeat' (first|simp only[*,go_sem,Nat.reduceLT,Nat.reduceLeDiff,Nat.reduceEqDiff,↓reduceIte,Nat.reduceAdd,Int.reduceBEq,fa,bh]|((with_reducible refine AF a ?_ ?_ ?_);exact rfl;exactλ_=>rfl)|((with_reducible refine mI hid ?_ ?_ ?_);exact rfl;exact rfl)|((with_reducible refine mI eG ?_ ?_ ?_);exact rfl;exact rfl))
      all_goals first|exact⟨rfl,rfl,rfl,.inr ⟨_,rfl⟩,.inr ⟨_,rfl⟩,.inr ⟨_,rfl⟩⟩|exact⟨.inr ⟨_,rfl⟩,.inr ⟨_,rfl⟩,.inr ⟨_,rfl⟩⟩|exact⟨rfl,rfl,rfl,.inr ⟨_,rfl⟩,.inr ⟨_,rfl⟩⟩|exact⟨.inr ⟨_,rfl⟩,.inr ⟨_,rfl⟩⟩|exact .inr ⟨_,rfl⟩
    ·
     refine aa func115 λi j=>?_
     repeat' (first|simp only[*,go_sem,Nat.reduceLT,Nat.reduceLeDiff,Nat.reduceEqDiff,↓reduceIte,Nat.reduceAdd,Int.reduceBEq,fa,bh]|((with_reducible refine AF a ?_ ?_ ?_);exact rfl;exactλ_=>rfl)|((with_reducible refine mI hid ?_ ?_ ?_);exact rfl;exact rfl)|((with_reducible refine mI eG ?_ ?_ ?_);exact rfl;exact rfl))
     all_goals first|exact⟨rfl,rfl,rfl,.inr ⟨_,rfl⟩,.inr ⟨_,rfl⟩,.inr ⟨_,rfl⟩⟩|exact⟨.inr ⟨_,rfl⟩,.inr ⟨_,rfl⟩,.inr ⟨_,rfl⟩⟩|exact⟨rfl,rfl,rfl,.inr ⟨_,rfl⟩,.inr ⟨_,rfl⟩⟩|exact⟨.inr ⟨_,rfl⟩,.inr ⟨_,rfl⟩⟩|exact .inr ⟨_,rfl⟩
   ·
    refine aa func115 λi j=>?_
    repeat' (first|simp only[*,go_sem,Nat.reduceLT,Nat.reduceLeDiff,Nat.reduceEqDiff,↓reduceIte,Nat.reduceAdd,Int.reduceBEq,fa,bh]|((with_reducible refine AF a ?_ ?_ ?_);exact rfl;exactλ_=>rfl)|((with_reducible refine mI hid ?_ ?_ ?_);exact rfl;exact rfl)|((with_reducible refine mI eG ?_ ?_ ?_);exact rfl;exact rfl))
    all_goals first|exact⟨rfl,rfl,rfl,.inr ⟨_,rfl⟩,.inr ⟨_,rfl⟩,.inr ⟨_,rfl⟩⟩|exact⟨.inr ⟨_,rfl⟩,.inr ⟨_,rfl⟩,.inr ⟨_,rfl⟩⟩|exact⟨rfl,rfl,rfl,.inr ⟨_,rfl⟩,.inr ⟨_,rfl⟩⟩|exact⟨.inr ⟨_,rfl⟩,.inr ⟨_,rfl⟩⟩|exact .inr ⟨_,rfl⟩
  ·
   refine aa func115 λi j=>?_
   repeat' (first|simp only[*,go_sem,Nat.reduceLT,Nat.reduceLeDiff,Nat.reduceEqDiff,↓reduceIte,Nat.reduceAdd,Int.reduceBEq,fa,bh]|((with_reducible refine AF a ?_ ?_ ?_);exact rfl;exactλ_=>rfl)|((with_reducible refine mI hid ?_ ?_ ?_);exact rfl;exact rfl)|((with_reducible refine mI eG ?_ ?_ ?_);exact rfl;exact rfl))
   all_goals first|exact⟨rfl,rfl,rfl,.inr ⟨_,rfl⟩,.inr ⟨_,rfl⟩,.inr ⟨_,rfl⟩⟩|exact⟨.inr ⟨_,rfl⟩,.inr ⟨_,rfl⟩,.inr ⟨_,rfl⟩⟩|exact⟨rfl,rfl,rfl,.inr ⟨_,rfl⟩,.inr ⟨_,rfl⟩⟩|exact⟨.inr ⟨_,rfl⟩,.inr ⟨_,rfl⟩⟩|exact .inr ⟨_,rfl⟩
end
end
def zRE{t:Bl}{p:Ba}{is:Bool}{ck:Int}{cp cq:Ba}{cm:Int}{ct:Nat}{ca cn:Int}{cd:Ba}(h:OkT t)(b:p.length<=1000000000)(f:1<=ck/\ck<=15)
  (a:cd.length<=140737488355328)(c:cq.length<=9223372036854775807)(d:-9223372036854775808<=ca/\ca<=9223372036854775807):AH t p is ck cp cq cm ct ca cn cd:=by
 have e:ck=1∨ck=2∨ck=3∨ck=4∨ck=5∨ck=6∨ck=7∨ck=8∨ck=9∨ck=10∨ck=11∨ck=12∨ck=13∨ck=14∨ck=15:=qd
 rcases e with rfl|rfl|rfl|rfl|rfl|rfl|rfl|rfl|rfl|rfl|rfl|rfl|rfl|rfl|rfl
 .exact EA h b a (.inl rfl)
 .exact EA h b a (.inr (.inl rfl))
 .exact zB1 h d a
 .exact zRH h
 .exact zGm h b
 .exact zK0 h b
 .exact EA h b a (.inr (.inr rfl))
 .exact zAA h
 .exact zDu h b c
 .exact zO9 h
 .exact zPe h
 .exact zAB h (.inl rfl)
 .exact zAB h (.inr rfl)
 .exact zGk h
 .exact zO7 h
def zQh{t:Bl}{ck:Int}{cp cq:Ba}{cm:Int}{ct:Nat}{ca cn:Int}{cd:Ba}(h:OkT t)(j:cp.length<=9223372036854775807)
  (l:cd.length<=140737488355328)(m:cq.length<=9223372036854775807)(n:-9223372036854775808<=ca/\ca<=9223372036854775807):
  ag 63 [.c (.p (.sl 5 (aP t))),.agg (clc ck cp cq cm ct ca cn cd)] (.tup [.c (.p (.sl 5 (aP (doR t ⟨ck,cp,cq,cm,ct,ca,cn,cd⟩).1))),.agg (anv (doR t ⟨ck,cp,cq,cm,ct,ca,cn,cd⟩).2)]):=by
 have b:=YB (s:=cp) (fo:=gN ck) h j;have f:=yL (t:=t) (s:=cp) (fo:=gN ck);refine aG ?_;unfold doR;simp only;generalize cQ t cp (gN ck)=W at b f ⊢;obtain⟨p,is,e⟩:=W;simp only at b f ⊢;have d:=YA (k:=ck);generalize gN ck=fo at b d;cases w:decide (ck<1)
 .cases x:decide (15<ck)
  .have a:=λis=>zRE (t:=t) (p:=p) (is:=is) (ck:=ck) (cp:=cp) (cq:=cq) (cm:=cm) (ct:=ct) (ca:=ca) (cn:=cn) (cd:=cd) h qd (by have:=jt w;have:=jt x;omega) l m n;have a:=a is;unfold AH at a;generalize nO t ⟨ck,cp,cq,cm,ct,ca,cn,cd⟩ p is=R at a ⊢;obtain⟨u,q,⟨z,A,B,C⟩,D,E⟩:=R;simp only at a ⊢;cases r:(e==0)
   .have F:(e != 0)=true:=by rw[bne,r];rfl
    unfold anE nd0;refine aa func63 λg i=>?_
    repeat' (first|exact⟨⟩|refine sp ?_|refine uF eG ?_|refine uF d ?_|refine uN b ?_|refine dG (id:=3) aC aI [] [0,1,2,3,4,5,6,7,8,9,10,11,12,13] ?_|refine aM ?_|refine d1 ?_ ?_ ?_|with_reducible exact rfl)
    all_goals first|exact⟨rfl,rfl,rfl,.inr ⟨_,rfl⟩,.inr ⟨_,rfl⟩,.inr ⟨_,rfl⟩⟩|exact⟨.inr ⟨_,rfl⟩,.inr ⟨_,rfl⟩,.inr ⟨_,rfl⟩⟩
   .have y:=eq_of_beq r;subst y;cases v:(q==0)
    .have G:(q != 0)=true:=by rw[bne,v];rfl
     unfold anE nd0;refine aa func63 λg i=>?_
     repeat' (first|exact⟨⟩|refine sp ?_|refine uN a ?_|refine uF eG ?_|refine uF d ?_|refine uN b ?_|refine dG (id:=3) aC aI [] [0,1,2,3,4,5,6,7,8,9,10,11,12,13] ?_|refine aM ?_|refine d1 ?_ ?_ ?_|with_reducible exact rfl)
     all_goals first|exact⟨rfl,rfl,rfl,.inr ⟨_,rfl⟩,.inr ⟨_,rfl⟩,.inr ⟨_,rfl⟩⟩|exact⟨.inr ⟨_,rfl⟩,.inr ⟨_,rfl⟩,.inr ⟨_,rfl⟩⟩
    .have o:=eq_of_beq v;subst o;refine aa func63 λg i=>?_
     repeat' (first|exact⟨⟩|refine sp ?_|refine uN a ?_|refine dR (id:=9) aC aI [3] [0,1,2,3] ?_|refine uF d ?_|refine uN b ?_|refine dG (id:=3) aC aI [] [0,1,2,3,4,5,6,7,8,9,10,11,12,13] ?_|refine aM ?_|refine d1 ?_ ?_ ?_|with_reducible exact rfl)
  .unfold anE nd0;refine aa func63 λg i=>?_
   repeat' (first|exact⟨⟩|refine sp ?_|refine uF eG ?_)
   all_goals first|exact⟨rfl,rfl,rfl,.inr ⟨_,rfl⟩,.inr ⟨_,rfl⟩,.inr ⟨_,rfl⟩⟩|exact⟨.inr ⟨_,rfl⟩,.inr ⟨_,rfl⟩,.inr ⟨_,rfl⟩⟩
 .unfold anE nd0;refine aa func63 λg i=>?_
  repeat' (first|exact⟨⟩|refine sp ?_|refine uF eG ?_)
  all_goals first|exact⟨rfl,rfl,rfl,.inr ⟨_,rfl⟩,.inr ⟨_,rfl⟩,.inr ⟨_,rfl⟩⟩|exact⟨.inr ⟨_,rfl⟩,.inr ⟨_,rfl⟩,.inr ⟨_,rfl⟩⟩
end Go.Proofs.YtfcindonokhbeaaGreatDoor
end
