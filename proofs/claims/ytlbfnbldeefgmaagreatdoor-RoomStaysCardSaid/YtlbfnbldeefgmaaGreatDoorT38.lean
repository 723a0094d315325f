/- Part 39 of the proof of roomStays_card, set without needless blanks. No condition. -/
import Derived.Test.YtlbfnbldeefgmaaGreatDoorT37
set_option linter.all false
set_option maxRecDepth 100000
set_option maxHeartbeats 16000000
section
namespace Go.Proofs.YtlbfnbldeefgmaaGreatDoor
open Go Go.Dm Go.Proofs Go.Proofs.Tryz
section
section places
variable {t:List It}{p:List UInt8}{is:Bool}{k m:Int}{tt:Nat}{d:List UInt8}
theorem zMP{n:Int}(h:OkT t)(hp:p.length<=1000000000)(hd:d.length<=2000)(ht:tt<18446744073709551616):
  aA prog 186 [.agg (plc t p is k m tt d),.c (.p (.i .i64 n))] [] λr h =>
   r=.tup [.c (.p (.sl 5 (aQ (CN t p ⟨k,m,tt,d⟩ n).1))),.c (.p (.i .i64 (CN t p ⟨k,m,tt,d⟩ n).2))]/\h=[]:=by
 refine aI ?_;unfold CN;simp only;cases h0:decide (n<0)
 .obtain ⟨f,rfl⟩:∃f:Nat,n=f:=⟨n.toNat,by simp at h0;omega⟩
  rw[Int.toNat_natCast];cases h1:decide ((d.length:Int)<(f:Int))
  .have h1':f<=d.length:=by simp at h1;omega
   have hf0:(0:Int)<=(f:Int):=by omega
   have hfl:(f:Int)<=(d.length:Int):=by omega
   have htl:(d.take f).length<=140737488355328:=by rw[List.length_take];omega
   have hput:=iO (is:=is) (k:=k) (m:=m) (tt:=tt) (d:=d.take f) (k':=k) (m':=m) (tt':=tt) (d':=d.take f) h hp htl ht;refine eT func186 λX0 hX=>?_;simp only[f186,go_sem]
   repeat' (first|exact⟨⟩|refine sp ?_|refine uN (hput) ?_)
  ·
   refine eT func186 λX0 hX=>?_;simp only[f186,go_sem]
   repeat' (first|exact⟨⟩|refine sp ?_)
   all_goals exact .inr ⟨_,rfl⟩
 ·
  refine eT func186 λX0 hX=>?_;simp only[f186,go_sem]
  repeat' (first|exact⟨⟩|refine sp ?_)
  all_goals exact .inr ⟨_,rfl⟩
theorem zM3{a:Int}{b:List UInt8}(h:OkT t)(hp:p.length<=1000000000)(hd:d.length<=2000)(ht:tt<18446744073709551616)(ha:-9223372036854775808<=a/\a<=9223372036854775807)(hb:b.length<=140737488355328):
  aA prog 185 [.agg (plc t p is k m tt d),.c (.p (.i .i64 a)),.c (.p (.sl 1 (bJ b)))] [] λr h =>
   r=.tup [.c (.p (.sl 5 (aQ (CS t p ⟨k,m,tt,d⟩ a b).1))),.c (.p (.i .i64 (CS t p ⟨k,m,tt,d⟩ a b).2))]/\h=[]:=by
 refine aI ?_;unfold CS;simp only;cases h0:decide (a<0)
 .obtain ⟨f,rfl⟩:∃f:Nat,a=f:=⟨a.toNat,by simp at h0;omega⟩
  rw[Int.toNat_natCast];cases h1:decide ((d.length:Int)<(f:Int))
  .have h1':f<=d.length:=by simp at h1;omega
   have hf0:(0:Int)<=(f:Int):=by omega
   have hfl:(f:Int)<=(d.length:Int):=by omega
   have w1:IntKind.i64.wrap (2000-(f:Int))=2000-(f:Int):=wrap_i64 (by omega) (by omega);cases h2:decide (2000-(f:Int)<(b.length:Int))
   .have h2':f+b.length<=2000:=by simp at h2;omega
    have htk:(d.take f).length=f:=by rw[List.length_take];omega
    have hcc:=zAk (a:=d.take f) (b:=b) (by omega) (by omega);rw[htk] at hcc;have hwl:(wrD d f b).length<=140737488355328:=Nat.le_trans (zGO hd h1' h2') (by decide);have hput:=iO (is:=is) (k:=k) (m:=m) (tt:=tt) (d:=wrD d f b) (k':=k) (m':=m) (tt':=tt) (d':=wrD d f b) h hp hwl ht;have hal:(d.take f++b).length=f+b.length:=by rw[List.length_append,htk]
    cases h3:decide (((f+b.length:Nat):Int)<(d.length:Int))
    .have e1:wrD d f b=(d.take f++b).take (f+b.length):=by
      have:¬ f+b.length<d.length:=by simp at h3;omega
      unfold wrD;rw[List.drop_of_length_le (by omega),List.append_nil,List.take_of_length_le (l:=d.take f++b) (by omega)]
     rw[e1] at hput ⊢;refine eT func185 λX0 hX=>?_;simp only[f185,go_sem]
     repeat' (first|exact⟨⟩|refine sp ?_|refine zB6 hcc rfl ?_|refine uN (hput) ?_|((with_reducible apply aA.frz);exact rfl;exact rfl)|refine ai ?_)
    .have h4:f+b.length<=d.length:=by simp at h3;omega
     have h5:((f+b.length:Nat):Int)<=(d.length:Int):=by omega
     have h6:(0:Int)<=((f+b.length:Nat):Int):=by omega
     have hdl:(d.drop (f+b.length)).length=d.length-(f+b.length):=List.length_drop;have e2:wrD d f b=(d.take f++b++d.drop (f+b.length)).take (f+b.length+(d.length-(f+b.length))):=by
      unfold wrD;rw[List.take_of_length_le (l:=d.take f++b++d.drop (f+b.length)) (by rw[List.length_append,hal,hdl];omega)]
     rw[e2] at hput ⊢;refine eT func185 λX0 hX=>?_;simp only[f185,go_sem]
     repeat' (first|exact⟨⟩|refine sp ?_|refine zB6 hcc rfl ?_|((refine aG (id:=8) aD aL [9,12] [0,1,2,3,4,5,6,7,8,9,10,11,12] (by decide +kernel) ?_);(repeat' (first|(refine aO ?_)|((refine cR ?_ ?_ rfl rfl rfl ?_ ?_);(rotate_left 2);(focus ((repeat' (first|exact⟨⟩|refine sp ?_|refine ai ?_));((refine And.intro ?_ ?_<;>exact rfl))));(simp only[aC,bE]))|((refine cQ ?_ rfl rfl rfl ?_ ?_);(rotate_left 1);(focus ((repeat' (first|exact bB|refine aR ?_ ?_));(all_goals ((repeat' (first|exact⟨⟩|refine sp ?_|refine ai ?_));(try (exact rfl))))));(simp only[aC])))))|refine uN (hput) ?_|((with_reducible apply aA.frz);exact rfl;exact rfl)|refine ai ?_)
   ·
    refine eT func185 λX0 hX=>?_;simp only[f185,go_sem]
    repeat' (first|exact⟨⟩|refine sp ?_)
    all_goals exact .inr ⟨_,rfl⟩
  ·
   refine eT func185 λX0 hX=>?_;simp only[f185,go_sem]
   repeat' (first|exact⟨⟩|refine sp ?_)
   all_goals exact .inr ⟨_,rfl⟩
 ·
  refine eT func185 λX0 hX=>?_;simp only[f185,go_sem]
  repeat' (first|exact⟨⟩|refine sp ?_)
  all_goals exact .inr ⟨_,rfl⟩
theorem zMk(h:OkT t)(hp:p.length<=1000000000):
  aA prog 181 [.agg (plc t p is k m tt d)] [] λr h =>
   r=.tup [.c (.p (.sl 5 (aQ (BR t p is ⟨k,m,tt,d⟩).1))),.c (.p (.i .i64 (BR t p is ⟨k,m,tt,d⟩).2))]/\h=[]:=by
 have htl:=h.len;have hnm:=JL (p:=p) h;have hrm:=pR (t:=t) (p:=p) hp (by omega) λx hx=>Nat.le_trans (h.dlen x hx) (by decide);refine aI ?_;unfold BR XV;generalize iI t p=N at hnm ⊢;cases h0:(p == [])
 .cases is
  ·
   refine eT func181 λX0 hX=>?_;simp only[f181,go_sem]
   repeat' (first|exact⟨⟩|refine sq ?_|refine uF (kZ) ?_)
   all_goals exact .inr ⟨_,rfl⟩
  .cases hk:(k==2)
   ·
    refine eT func181 λX0 hX=>?_;simp only[f181,go_sem]
    repeat' (first|exact⟨⟩|refine sq ?_|refine uF (kZ) ?_|refine uF (dS) ?_)
    all_goals exact .inr ⟨_,rfl⟩
   .cases hn:decide ((0:Int)<(N.length:Int))
    ·
     refine eT func181 λX0 hX=>?_;simp only[f181,go_sem]
     repeat' (first|exact⟨⟩|refine sq ?_|refine uF (kZ) ?_|refine uF (dS) ?_|refine uN (hnm) ?_|refine uN (hrm) ?_)
    ·
     refine eT func181 λX0 hX=>?_;simp only[f181,go_sem]
     repeat' (first|exact⟨⟩|refine sq ?_|refine uF (kZ) ?_|refine uF (dS) ?_|refine uN (hnm) ?_)
     all_goals exact .inr ⟨_,rfl⟩
 ·
  refine eT func181 λX0 hX=>?_;simp only[f181,go_sem]
  repeat' (first|exact⟨⟩|refine sp ?_|refine uF (kZ) ?_)
  all_goals exact .inr ⟨_,rfl⟩
theorem zPQ{ck:Int}{cp cq:List UInt8}{cm:Int}{ct:Nat}{ca cn:Int}{cd:List UInt8}(h:OkT t)(hp:p.length<=1000000000)(hd:d.length<=2000)(ht:tt<18446744073709551616)(hct:ct<18446744073709551616):
  aA prog 182 [.agg (plc t p is k m tt d),.agg (clc ck cp cq cm ct ca cn cd)] [] λr h =>
   r=.tup [.c (.p (.sl 5 (aQ (zKD t p is ⟨k,m,tt,d⟩ ⟨ck,cp,cq,cm,ct,ca,cn,cd⟩).1))),.c (.p (.i .i64 (zKD t p is ⟨k,m,tt,d⟩ ⟨ck,cp,cq,cm,ct,ca,cn,cd⟩).2))]/\h=[]:=by
 have hb:=sQ hct;have hputm:=iO (is:=is) (k:=k) (m:=cm) (tt:=tt) (d:=d) (k':=k) (m':=cm) (tt':=tt) (d':=d) h hp (by omega) ht;have hputt:=iO (is:=is) (k:=k) (m:=m) (tt:=dC ct) (d:=d) (k':=k) (m':=m) (tt':=dC ct) (d':=d) h hp (by omega) hb;refine aI ?_;unfold zKD;simp only;cases is
 ·
  refine eT func182 λX0 hX=>?_;simp only[f182,go_sem]
  repeat' (first|exact⟨⟩|refine sq ?_)
  all_goals exact .inr ⟨_,rfl⟩
 .cases h0:(p == [])
  .cases hk:(ck==10)
   ·
    refine eT func182 λX0 hX=>?_;simp only[f182,go_sem]
    repeat' (first|exact⟨⟩|refine sq ?_|refine uF (kZ) ?_|refine uF (dD ct) ?_|refine uN (hputt) ?_)
   .cases hm:kX cm
    ·
     refine eT func182 λX0 hX=>?_;simp only[f182,go_sem]
     repeat' (first|exact⟨⟩|refine sq ?_|refine uF (kZ) ?_|refine uF (fI) ?_)
     all_goals exact .inr ⟨_,rfl⟩
    ·
     refine eT func182 λX0 hX=>?_;simp only[f182,go_sem]
     repeat' (first|exact⟨⟩|refine sq ?_|refine uF (kZ) ?_|refine uF (fI) ?_|refine uN (hputm) ?_)
  ·
   refine eT func182 λX0 hX=>?_;simp only[f182,go_sem]
   repeat' (first|exact⟨⟩|refine sq ?_|refine uF (kZ) ?_)
   all_goals exact .inr ⟨_,rfl⟩
theorem zOj{q:List UInt8}{is':Bool}{k' m':Int}{tt':Nat}{d':List UInt8}(h:OkT t):
  aA prog 245 [.agg (plc t p true k m tt d),.agg (plc t q is' k' m' tt' d')] [] λr h =>
   r=.c (.p (.i .i64 (zBc (k==2) t q is' ⟨k',m',tt',d'⟩)))/\h=[]:=by
 have hnm:=JL (p:=q) h;unfold zBc XV;generalize iI t q=N at hnm ⊢;cases is'
 ·
  refine eT func245 λX0 hX=>?_;simp only[f245,go_sem]
  repeat' (first|exact⟨⟩|refine sq ?_)
 .cases hk:(k==2)
  .cases hk':(k'==2)
   ·
    refine eT func245 λX0 hX=>?_;simp only[f245,go_sem]
    repeat' (first|exact⟨⟩|refine sq ?_|refine uF (dS) ?_)
   ·
    refine eT func245 λX0 hX=>?_;simp only[f245,go_sem]
    repeat' (first|exact⟨⟩|refine sq ?_|refine uF (dS) ?_)
  .cases hk':(k'==2)
   ·
    refine eT func245 λX0 hX=>?_;simp only[f245,go_sem]
    repeat' (first|exact⟨⟩|refine sq ?_|refine uF (dS) ?_)
   .cases hn:decide ((0:Int)<(N.length:Int))
    ·
     refine eT func245 λX0 hX=>?_;simp only[f245,go_sem]
     repeat' (first|exact⟨⟩|refine sq ?_|refine uF (dS) ?_|refine uN (hnm) ?_)
    ·
     refine eT func245 λX0 hX=>?_;simp only[f245,go_sem]
     repeat' (first|exact⟨⟩|refine sq ?_|refine uF (dS) ?_|refine uN (hnm) ?_)
end places
end
section
theorem OkT.node{t:List It}(h:OkT t)(p:List UInt8):(nodeAt t p).d.length<=2000/\(nodeAt t p).t<18446744073709551616:=by
 unfold nodeAt;split
 .exact⟨by simp,by simp⟩
 .exact⟨h.getd p,h.gett p⟩
section places
variable {t:List It}{p:List UInt8}{is:Bool}{k m:Int}{tt:Nat}{d:List UInt8}
theorem zJm{to':List UInt8}(h:OkT t)(hp:p.length<=1000000000)(hs:to'.length<=9223372036854775807):
  aA prog 183 [.agg (plc t p is k m tt d),.c (.p (.s to'))] [] λr h =>
   r=.tup [.c (.p (.sl 5 (aQ (sC t p is ⟨k,m,tt,d⟩ to').1))),.c (.p (.i .i64 (sC t p is ⟨k,m,tt,d⟩ to').2))]/\h=[]:=by
 have htl:=h.len;have hwk:=zKO (s:=to') (fo:=false) h hs;have hql:=RV (t:=t) (s:=to') (fo:=false);refine aI ?_;unfold sC;generalize cV t to' false=W at hwk hql ⊢;obtain⟨q,is',e⟩:=W;simp only at hwk hql ⊢;cases is
 ·
  refine eT func183 λX0 hX=>?_;simp only[f183,go_sem]
  repeat' (first|exact⟨⟩|refine sq ?_)
  all_goals exact .inr ⟨_,rfl⟩
 .cases q0:(e==0)
  .have q1:(e != 0)=true:=by rw[bne,q0];rfl
   refine eT func183 λX0 hX=>?_;simp only[f183,go_sem]
   repeat' (first|exact⟨⟩|refine sq ?_|refine uN (hwk) ?_)
   all_goals exact .inr ⟨_,rfl⟩
  .have he:=eq_of_beq q0;subst he;have hat:=zP9 (p:=q) (is:=is') h (by omega);have hon:=zOj (p:=p) (k:=k) (m:=m) (tt:=tt) (d:=d) (q:=q) (is':=is') (k':=(nodeAt t q).k) (m':=(nodeAt t q).m) (tt':=(nodeAt t q).t) (d':=(nodeAt t q).d) h;have eta:(⟨(nodeAt t q).k,(nodeAt t q).m,(nodeAt t q).t,(nodeAt t q).d⟩:Nd)=nodeAt t q:=rfl;rw[eta] at hon;have hdp:XV true ⟨k,m,tt,d⟩=(k==2):=rfl;rw[hdp];clear eta hdp;have hcp:=zB (t:=t) (by omega) λx hx=>Nat.le_trans (h.dlen x hx) (by decide);have hrm:=pR (t:=t) (p:=q) (by omega) (by omega) λx hx=>Nat.le_trans (h.dlen x hx) (by decide);have hmv:=zOc (t:=cA t q) (a:=p) (b:=q) (h.remove q) hp (by omega);generalize zBc (k==2) t q is' (nodeAt t q)=O at hon ⊢;generalize nodeAt t q=n at hat hon;obtain⟨k1,m1,t1,d1⟩:=n;simp only at hat hon;generalize pE (cA t q) p q=M at hmv ⊢;cases hz:(p == [])
   .cases hz2:(q == [])
    .cases hpq:(p==q)
     .cases hbl:aJ p q
      .cases ho:(O==0)
       .have ho2:(O != 0)=true:=by rw[bne,ho];rfl
        refine eT func183 λX0 hX=>?_;simp only[f183,go_sem]
        repeat' (first|exact⟨⟩|refine sq ?_|refine uN (hwk) ?_|refine uN (hat) ?_|refine uF (kZ) ?_|refine uF (cU hp) ?_|refine uF (hon) ?_)
        all_goals exact .inr ⟨_,rfl⟩
       .have ho:=eq_of_beq ho;subst ho;refine eT func183 λX0 hX=>?_;simp only[f183,go_sem]
        repeat' (first|exact⟨⟩|refine sq ?_|refine uN (hwk) ?_|refine uN (hat) ?_|refine uF (kZ) ?_|refine uF (cU hp) ?_|refine uF (hon) ?_|((refine aG (id:=16) aD aL [] [0,1,2,3,4,5,6,7,8,9,10,11,12,13] (by decide +kernel) ?_);(repeat' (first|(refine aO ?_)|((refine bK ?_ rfl rfl ?_ ?_);(rotate_left 1);(focus ((repeat' (first|exact⟨⟩|refine sp ?_|refine uN (hrm) ?_|refine uN (hmv) ?_));exact rfl));(simp only[aC]))))))
      ·
       refine eT func183 λX0 hX=>?_;simp only[f183,go_sem]
       repeat' (first|exact⟨⟩|refine sq ?_|refine uN (hwk) ?_|refine uN (hat) ?_|refine uF (kZ) ?_|refine uF (cU hp) ?_)
       all_goals exact .inr ⟨_,rfl⟩
     ·
      refine eT func183 λX0 hX=>?_;simp only[f183,go_sem]
      repeat' (first|exact⟨⟩|refine sq ?_|refine uN (hwk) ?_|refine uN (hat) ?_|refine uF (kZ) ?_|refine zB6 hcp rfl ?_)
    ·
     refine eT func183 λX0 hX=>?_;simp only[f183,go_sem]
     repeat' (first|exact⟨⟩|refine sq ?_|refine uN (hwk) ?_|refine uN (hat) ?_|refine uF (kZ) ?_)
     all_goals exact .inr ⟨_,rfl⟩
   ·
    refine eT func183 λX0 hX=>?_;simp only[f183,go_sem]
    repeat' (first|exact⟨⟩|refine sq ?_|refine uN (hwk) ?_|refine uN (hat) ?_|refine uF (kZ) ?_)
    all_goals exact .inr ⟨_,rfl⟩
theorem JW{ck:Int}{cp cq:List UInt8}{cm:Int}{ct:Nat}{ca cn:Int}{cd:List UInt8}(h:OkT t)(hp:p.length<=1000000000)(hd:d.length<=2000)(ht:tt<18446744073709551616)(hct:ct<18446744073709551616)
  (hcd:cd.length<=140737488355328)(hcq:cq.length<=9223372036854775807)(hca:-9223372036854775808<=ca/\ca<=9223372036854775807):
  aA prog 104 [.agg (plc t p is k m tt d),.agg (clc ck cp cq cm ct ca cn cd)] [] λr h =>
   r=.tup [.c (.p (.sl 5 (aQ (cE t p is ⟨k,m,tt,d⟩ ⟨ck,cp,cq,cm,ct,ca,cn,cd⟩).1))),.c (.p (.i .i64 (cE t p is ⟨k,m,tt,d⟩ ⟨ck,cp,cq,cm,ct,ca,cn,cd⟩).2))]/\h=[]:=by
 have htl:=h.len;have hmk:=λ(kind:Int) (hk:kind=1∨kind=2∨kind=3)=>zN9 (is:=is) (k:=k) (m:=m) (tt:=tt) (d:=d) (kind:=kind) (ck:=ck) (cp:=cp) (cq:=cq) (cm:=cm) (ca:=ca) (cn:=cn) h hp hcd hct hk;have hrd:=zMk (is:=is) (k:=k) (m:=m) (tt:=tt) (d:=d) h hp;have hst:=zPQ (is:=is) (k:=k) (m:=m) (ck:=ck) (cp:=cp) (cq:=cq) (cm:=cm) (ca:=ca) (cn:=cn) (cd:=cd) h hp hd ht hct;have hrn:=zJm (is:=is) (k:=k) (m:=m) (tt:=tt) (d:=d) h hp hcq;have hfi:=zKi (t:=t) (p:=p) (is:=is) (k:=k) (m:=m) (tt:=tt) (d:=d);have hwr:=zM3 (is:=is) (k:=k) (m:=m) (b:=cd) h hp hd ht hca hcd;have htr:=zMP (is:=is) (k:=k) (m:=m) (n:=cn) h hp hd ht;have hrm:=pR (t:=t) (p:=p) hp (by omega) λx hx=>Nat.le_trans (h.dlen x hx) (by decide);refine aI ?_;unfold cE;simp only;generalize xI t p is=MK at hmk ⊢;generalize BR t p is ⟨k,m,tt,d⟩=RD at hrd ⊢;generalize zKD t p is ⟨k,m,tt,d⟩ ⟨ck,cp,cq,cm,ct,ca,cn,cd⟩=ST at hst ⊢;generalize sC t p is ⟨k,m,tt,d⟩ cq=RN at hrn ⊢;generalize vJ is ⟨k,m,tt,d⟩=FI at hfi ⊢;generalize CS t p ⟨k,m,tt,d⟩ ca cd=WR at hwr ⊢;generalize CN t p ⟨k,m,tt,d⟩ cn=TR at htr ⊢;cases k1:(ck==1)
 .cases k2:(ck==2)
  .cases k7:(ck==7)
   .cases k6:(ck==6)
    .cases k10:(ck==10)
     .cases k11:(ck==11)
      .cases k9:(ck==9)
       .cases hf:(FI==0)
        .have hf2:(FI != 0)=true:=by rw[bne,hf];rfl
         refine eT func104 λX0 hX=>?_;simp only[f104,go_sem]
         repeat' (first|exact⟨⟩|refine sp ?_|refine uF (hfi) ?_)
         all_goals exact .inr ⟨_,rfl⟩
        .have hf:=eq_of_beq hf;subst hf;cases k3:(ck==3)
         .cases k4:(ck==4)
          ·
           refine eT func104 λX0 hX=>?_;simp only[f104,go_sem]
           repeat' (first|exact⟨⟩|refine sp ?_|refine uF (hfi) ?_|refine uN (hrm) ?_)
          ·
           refine eT func104 λX0 hX=>?_;simp only[f104,go_sem]
           repeat' (first|exact⟨⟩|refine sp ?_|refine uF (hfi) ?_|refine uN (htr) ?_)
         ·
          refine eT func104 λX0 hX=>?_;simp only[f104,go_sem]
          repeat' (first|exact⟨⟩|refine sp ?_|refine uF (hfi) ?_|refine uN (hwr) ?_)
       ·
        refine eT func104 λX0 hX=>?_;simp only[f104,go_sem]
        repeat' (first|exact⟨⟩|refine sp ?_|refine uN (hrn) ?_)
      ·
       refine eT func104 λX0 hX=>?_;simp only[f104,go_sem]
       repeat' (first|exact⟨⟩|refine sp ?_|refine uN (hst) ?_)
     ·
      refine eT func104 λX0 hX=>?_;simp only[f104,go_sem]
      repeat' (first|exact⟨⟩|refine sp ?_|refine uN (hst) ?_)
    ·
     refine eT func104 λX0 hX=>?_;simp only[f104,go_sem]
     repeat' (first|exact⟨⟩|refine sp ?_|refine uN (hrd) ?_)
   .have hm:=hmk 3 (by simp);refine eT func104 λX0 hX=>?_;simp only[f104,go_sem]
    repeat' (first|exact⟨⟩|refine sp ?_|refine uN (hm) ?_)
  .have hm:=hmk 1 (by simp);refine eT func104 λX0 hX=>?_;simp only[f104,go_sem]
   repeat' (first|exact⟨⟩|refine sp ?_|refine uN (hm) ?_)
 .have hm:=hmk 2 (by simp);refine eT func104 λX0 hX=>?_;simp only[f104,go_sem]
  repeat' (first|exact⟨⟩|refine sp ?_|refine uN (hm) ?_)
end places
end
section
section places
variable {t:List It}{p:List UInt8}{is:Bool}{k m:Int}{tt:Nat}{d:List UInt8}
abbrev anv(a:An):List CV:=anc a.e a.n.k a.n.m a.n.t a.n.d a.d a.l
theorem zOp{a n:Int}(hd:d.length<=2000):
  aA prog 176 [.agg (plc t p is k m tt d),.c (.p (.i .i64 a)),.c (.p (.i .i64 n))] [] λr h=>r=.agg (anv (BM is ⟨k,m,tt,d⟩ a n))/\h=[]:=by
 have hfi:=zKi (t:=t) (p:=p) (is:=is) (k:=k) (m:=m) (tt:=tt) (d:=d);refine aI ?_;unfold BM;generalize vJ is ⟨k,m,tt,d⟩=FI at hfi ⊢;cases hf:(FI==0)
 .have hf2:(FI != 0)=true:=by rw[bne,hf];rfl
  refine eT func176 λX0 hX=>?_;simp only[f176,go_sem]
  repeat' (first|exact⟨⟩|refine sp ?_|refine uF (hfi) ?_)
  all_goals exact⟨rfl,rfl,rfl,rfl,.inr ⟨_,rfl⟩,.inr ⟨_,rfl⟩,.inr ⟨_,rfl⟩⟩
 .have hf:=eq_of_beq hf;subst hf;cases h1:decide (a<0)
  .cases h2:decide (n<0)
   .obtain ⟨f,rfl⟩:∃f:Nat,a=f:=⟨a.toNat,by simp at h1;omega⟩
    obtain⟨g,rfl⟩:∃g:Nat,n=g:=⟨n.toNat,by simp at h2;omega⟩
    simp only[Int.toNat_natCast];have hf0:(0:Int)<=(f:Int):=by omega
    have hg0:(0:Int)<=(g:Int):=by omega
    by_cases hfd:f<=d.length
    .have x1:¬ ((d.length:Int)<(f:Int)):=by omega
     have x3:(f:Int)<=(d.length:Int):=by omega
     have hel:(d.drop f).length<=2000:=by rw[List.length_drop];omega
     generalize he:d.drop f=e at hel ⊢;by_cases hge:g<=e.length
     .have x2:¬ ((e.length:Int)<(g:Int)):=by omega
      have x4:(g:Int)<=(e.length:Int):=by omega
      have hcl:=yY (a:=e.take g) (by rw[List.length_take];omega);refine eT func176 λX0 hX=>?_;simp only[f176,go_sem]
      repeat' (first|exact⟨⟩|refine sp ?_|refine uF (hfi) ?_|refine uN (hcl) ?_|((with_reducible refine And.intro ?_ ?_);omega))
      all_goals exact⟨rfl,rfl,rfl,.inr ⟨_,rfl⟩,.inr ⟨_,rfl⟩⟩
     .have x2:(e.length:Int)<(g:Int):=by omega
      have hcl:=yY (a:=e) (by omega);have htk:e.take e.length=e:=List.take_length;rw[List.take_of_length_le (by omega)];refine eT func176 λX0 hX=>?_;simp only[f176,go_sem]
      repeat' (first|exact⟨⟩|refine sp ?_|refine uF (hfi) ?_|refine uN (hcl) ?_|((with_reducible refine And.intro ?_ ?_);omega))
      all_goals exact⟨rfl,rfl,rfl,.inr ⟨_,rfl⟩,.inr ⟨_,rfl⟩⟩
    .have x1:(d.length:Int)<(f:Int):=by omega
     have hd0:d.drop d.length=[]:=List.drop_length;rw[List.drop_of_length_le (by omega),List.take_nil];have hcl:=yY (a:=[]) (by simp);rw[lQ] at hcl;refine eT func176 λX0 hX=>?_;simp only[f176,go_sem]
     repeat' (first|simp only[*,go_sem,Nat.reduceLT,Nat.reduceLeDiff,Nat.reduceEqDiff,↓reduceIte,Nat.reduceAdd,Int.reduceLE,Int.reduceToNat,bne_self_eq_false,List.take_nil,List.length_nil]|refine uF (hfi) ?_|refine uN (hcl) ?_|((with_reducible refine And.intro ?_ ?_);omega))
     all_goals exact⟨rfl,rfl,rfl,.inr ⟨_,rfl⟩,.inr ⟨_,rfl⟩⟩
   ·
    refine eT func176 λX0 hX=>?_;simp only[f176,go_sem]
    repeat' (first|exact⟨⟩|refine sp ?_|refine uF (hfi) ?_)
    all_goals exact⟨rfl,rfl,rfl,rfl,.inr ⟨_,rfl⟩,.inr ⟨_,rfl⟩,.inr ⟨_,rfl⟩⟩
  ·
   refine eT func176 λX0 hX=>?_;simp only[f176,go_sem]
   repeat' (first|exact⟨⟩|refine sp ?_|refine uF (hfi) ?_)
   all_goals exact⟨rfl,rfl,rfl,rfl,.inr ⟨_,rfl⟩,.inr ⟨_,rfl⟩,.inr ⟨_,rfl⟩⟩
theorem zKX{ck:Int}{cp cq:List UInt8}{cm:Int}{ct:Nat}{ca cn:Int}{cd:List UInt8}(h:OkT t)(hd:d.length<=2000):
  aA prog 103 [.agg (plc t p is k m tt d),.agg (clc ck cp cq cm ct ca cn cd)] [] λr h =>
   r=.agg (anv (mJ t p is ⟨k,m,tt,d⟩ ⟨ck,cp,cq,cm,ct,ca,cn,cd⟩))/\h=[]:=by
 have hrd:=zOp (t:=t) (p:=p) (is:=is) (k:=k) (m:=m) (tt:=tt) (a:=ca) (n:=cn) hd;have hcl:=yY (a:=d) (by omega);have hnm:=JL (p:=p) h;refine aI ?_;unfold mJ XV;simp only;generalize BM is ⟨k,m,tt,d⟩ ca cn=RD at hrd ⊢;generalize iI t p=N at hnm ⊢;cases k14:(ck==14)
 .cases is
  ·
   refine eT func103 λX0 hX=>?_;simp only[f103,go_sem]
   repeat' (first|exact⟨⟩|refine sq ?_)
   all_goals exact⟨rfl,rfl,rfl,rfl,.inr ⟨_,rfl⟩,.inr ⟨_,rfl⟩,.inr ⟨_,rfl⟩⟩
  .cases k8:(ck==8)
   .cases k15:(ck==15)
    ·
     refine eT func103 λX0 hX=>?_;simp only[f103,go_sem]
     repeat' (first|exact⟨⟩|refine sq ?_)
     all_goals first|exact⟨rfl,rfl,rfl,rfl,.inr ⟨_,rfl⟩,.inr ⟨_,rfl⟩,.inr ⟨_,rfl⟩⟩|exact⟨rfl,rfl,rfl,.inr ⟨_,rfl⟩,.inr ⟨_,rfl⟩⟩|exact⟨.inr ⟨_,rfl⟩,.inr ⟨_,rfl⟩⟩
    .cases hk:(k==2)
     ·
      refine eT func103 λX0 hX=>?_;simp only[f103,go_sem]
      repeat' (first|exact⟨⟩|refine sq ?_|refine uF (dS) ?_)
      all_goals exact⟨rfl,rfl,rfl,rfl,.inr ⟨_,rfl⟩,.inr ⟨_,rfl⟩,.inr ⟨_,rfl⟩⟩
     ·
      refine eT func103 λX0 hX=>?_;simp only[f103,go_sem]
      repeat' (first|exact⟨⟩|refine sq ?_|refine uF (dS) ?_|refine uN (hnm) ?_)
      all_goals first|exact⟨rfl,rfl,rfl,rfl,.inr ⟨_,rfl⟩,.inr ⟨_,rfl⟩,.inr ⟨_,rfl⟩⟩|exact⟨rfl,rfl,rfl,.inr ⟨_,rfl⟩,.inr ⟨_,rfl⟩⟩|exact⟨.inr ⟨_,rfl⟩,.inr ⟨_,rfl⟩⟩
   .cases hk:(k==3)
    .have hk2:(k != 3)=true:=by rw[bne,hk];rfl
     refine eT func103 λX0 hX=>?_;simp only[f103,go_sem]
     repeat' (first|exact⟨⟩|refine sq ?_)
     all_goals exact⟨rfl,rfl,rfl,rfl,.inr ⟨_,rfl⟩,.inr ⟨_,rfl⟩,.inr ⟨_,rfl⟩⟩
    .have hk2:(k != 3)=false:=by rw[bne,hk];rfl
     refine eT func103 λX0 hX=>?_;simp only[f103,go_sem]
     repeat' (first|exact⟨⟩|refine sq ?_|refine uN (hcl) ?_)
     all_goals first|exact⟨rfl,rfl,rfl,rfl,.inr ⟨_,rfl⟩,.inr ⟨_,rfl⟩,.inr ⟨_,rfl⟩⟩|exact⟨rfl,rfl,rfl,.inr ⟨_,rfl⟩,.inr ⟨_,rfl⟩⟩|exact⟨.inr ⟨_,rfl⟩,.inr ⟨_,rfl⟩⟩
 ·
  refine eT func103 λX0 hX=>?_;simp only[f103,go_sem]
  repeat' (first|exact⟨⟩|refine sp ?_|refine uN (hrd) ?_)
  all_goals first|exact⟨rfl,rfl,rfl,rfl,.inr ⟨_,rfl⟩,.inr ⟨_,rfl⟩,.inr ⟨_,rfl⟩⟩|exact⟨rfl,rfl,rfl,.inr ⟨_,rfl⟩,.inr ⟨_,rfl⟩⟩|exact⟨.inr ⟨_,rfl⟩,.inr ⟨_,rfl⟩⟩
end places
theorem do_c{t:List It}{ck:Int}{cp cq:List UInt8}{cm:Int}{ct:Nat}{ca cn:Int}{cd:List UInt8}(h:OkT t)(hct:ct<18446744073709551616)(hcp:cp.length<=9223372036854775807)
  (hcd:cd.length<=140737488355328)(hcq:cq.length<=9223372036854775807)(hca:-9223372036854775808<=ca/\ca<=9223372036854775807):
  aA prog 44 [.c (.p (.sl 5 (aQ t))),.agg (clc ck cp cq cm ct ca cn cd)] [] λr h =>
   r=.tup [.c (.p (.sl 5 (aQ (doP t ⟨ck,cp,cq,cm,ct,ca,cn,cd⟩).1))),.agg (anv (doP t ⟨ck,cp,cq,cm,ct,ca,cn,cd⟩).2)]/\h=[]:=by
 have htl:=h.len;have hcpy:=zB (t:=t) (by omega) λx hx=>Nat.le_trans (h.dlen x hx) (by decide);have hwk:=zKO (s:=cp) (fo:=gY ck) h hcp;have hql:=RV (t:=t) (s:=cp) (fo:=gY ck);refine aI ?_;unfold doP;simp only;generalize cV t cp (gY ck)=W at hwk hql ⊢;obtain⟨p,is,e⟩:=W;simp only at hwk hql ⊢;have hat:=zP9 (p:=p) (is:=is) h (by omega);obtain⟨hnd,hnt⟩:=OkT.node h p;have hak:=zKX (p:=p) (is:=is) (k:=(nodeAt t p).k) (m:=(nodeAt t p).m) (tt:=(nodeAt t p).t) (ck:=ck) (cp:=cp) (cq:=cq) (cm:=cm) (ct:=ct) (ca:=ca) (cn:=cn) (cd:=cd) h hnd;have htu:=JW (p:=p) (is:=is) (k:=(nodeAt t p).k) (m:=(nodeAt t p).m) (ck:=ck) (cp:=cp) (cm:=cm) (cn:=cn) h (by omega) hnd hnt hct hcd hcq hca;have eta:(⟨(nodeAt t p).k,(nodeAt t p).m,(nodeAt t p).t,(nodeAt t p).d⟩:Nd)=nodeAt t p:=rfl;rw[eta] at hak htu;generalize mJ t p is (nodeAt t p) ⟨ck,cp,cq,cm,ct,ca,cn,cd⟩=A at hak ⊢;generalize cE t p is (nodeAt t p) ⟨ck,cp,cq,cm,ct,ca,cn,cd⟩=U at htu ⊢;clear hnd hnt eta;generalize nodeAt t p=n at hat hak htu;obtain⟨k1,m1,t1,d1⟩:=n;simp only at hat hak htu;have hfo:=zEc (k:=ck);generalize gY ck=fo at hwk hfo;have htn:=zCg (k:=ck);generalize mZ ck=tn at htn ⊢;obtain⟨U,ue⟩:=U;simp only at htu ⊢;cases r1:decide (ck<1)
 .cases r2:decide (15<ck)
  .cases q0:(e==0)
   .have q1:(e != 0)=true:=by rw[bne,q0];rfl
    refine eT func44 λX0 hX=>?_;simp only[f44,go_sem]
    repeat' (first|exact⟨⟩|refine sp ?_|((refine aG (id:=3) aD aL [] [0,1,2,3,4,5,6,7,8,9,10,11,12,13] (by decide +kernel) ?_);(repeat' (first|(refine aO ?_)|((refine bK ?_ rfl rfl ?_ ?_);(rotate_left 1);(focus ((repeat' (first|exact⟨⟩|refine sp ?_|refine uF (hfo) ?_|refine uN (hwk) ?_));exact rfl));(simp only[aC])))))|refine zB6 hcpy rfl ?_)
    all_goals first|exact⟨rfl,rfl,rfl,rfl,.inr ⟨_,rfl⟩,.inr ⟨_,rfl⟩,.inr ⟨_,rfl⟩⟩|exact⟨rfl,rfl,rfl,.inr ⟨_,rfl⟩,.inr ⟨_,rfl⟩⟩|exact⟨.inr ⟨_,rfl⟩,.inr ⟨_,rfl⟩⟩
   .have he:=eq_of_beq q0;subst he;cases tn
    ·
     refine eT func44 λX0 hX=>?_;simp only[f44,go_sem]
     repeat' (first|exact⟨⟩|refine sq ?_|((refine aG (id:=3) aD aL [] [0,1,2,3,4,5,6,7,8,9,10,11,12,13] (by decide +kernel) ?_);(repeat' (first|(refine aO ?_)|((refine bK ?_ rfl rfl ?_ ?_);(rotate_left 1);(focus ((repeat' (first|exact⟨⟩|refine sp ?_|refine uF (hfo) ?_|refine uN (hwk) ?_));exact rfl));(simp only[aC])))))|refine uN (hat) ?_|refine uF (htn) ?_|((refine aG (id:=8) aD aL [1,6] [0,1,2,3,4,5,6] (by decide +kernel) ?_);(repeat' (first|(refine aO ?_)|((refine cR ?_ ?_ rfl rfl rfl ?_ ?_);(rotate_left 2);(focus ((repeat' (first|exact⟨⟩|refine sp ?_|refine zB6 hcpy rfl ?_));((refine And.intro ?_ ?_<;>exact rfl))));(simp only[aC,bE]))|((refine cQ ?_ rfl rfl rfl ?_ ?_);(rotate_left 1);(focus ((repeat' (first|exact bB|refine aR ?_ ?_));(all_goals ((repeat' (first|exact⟨⟩|refine sp ?_|refine uN (hak) ?_));(try (exact rfl))))));(simp only[aC]))))))
     all_goals first|exact⟨rfl,rfl,rfl,rfl,.inr ⟨_,rfl⟩,.inr ⟨_,rfl⟩,.inr ⟨_,rfl⟩⟩|exact⟨rfl,rfl,rfl,.inr ⟨_,rfl⟩,.inr ⟨_,rfl⟩⟩|exact⟨.inr ⟨_,rfl⟩,.inr ⟨_,rfl⟩⟩
    .cases u0:(ue==0)
     .have u1:(ue != 0)=true:=by rw[bne,u0];rfl
      refine eT func44 λX0 hX=>?_;simp only[f44,go_sem]
      repeat' (first|exact⟨⟩|refine sq ?_|((refine aG (id:=3) aD aL [] [0,1,2,3,4,5,6,7,8,9,10,11,12,13] (by decide +kernel) ?_);(repeat' (first|(refine aO ?_)|((refine bK ?_ rfl rfl ?_ ?_);(rotate_left 1);(focus ((repeat' (first|exact⟨⟩|refine sp ?_|refine uF (hfo) ?_|refine uN (hwk) ?_));exact rfl));(simp only[aC])))))|refine uN (hat) ?_|refine uF (htn) ?_|refine uN (htu) ?_|refine zB6 hcpy rfl ?_)
      all_goals first|exact⟨rfl,rfl,rfl,rfl,.inr ⟨_,rfl⟩,.inr ⟨_,rfl⟩,.inr ⟨_,rfl⟩⟩|exact⟨rfl,rfl,rfl,.inr ⟨_,rfl⟩,.inr ⟨_,rfl⟩⟩|exact⟨.inr ⟨_,rfl⟩,.inr ⟨_,rfl⟩⟩
     .have ue0:=eq_of_beq u0;subst ue0;refine eT func44 λX0 hX=>?_;simp only[f44,go_sem]
      repeat' (first|exact⟨⟩|refine sq ?_|((refine aG (id:=3) aD aL [] [0,1,2,3,4,5,6,7,8,9,10,11,12,13] (by decide +kernel) ?_);(repeat' (first|(refine aO ?_)|((refine bK ?_ rfl rfl ?_ ?_);(rotate_left 1);(focus ((repeat' (first|exact⟨⟩|refine sp ?_|refine uF (hfo) ?_|refine uN (hwk) ?_));exact rfl));(simp only[aC])))))|refine uN (hat) ?_|refine uF (htn) ?_|refine uN (htu) ?_)
      all_goals first|exact⟨rfl,rfl,rfl,rfl,.inr ⟨_,rfl⟩,.inr ⟨_,rfl⟩,.inr ⟨_,rfl⟩⟩|exact⟨rfl,rfl,rfl,.inr ⟨_,rfl⟩,.inr ⟨_,rfl⟩⟩|exact⟨.inr ⟨_,rfl⟩,.inr ⟨_,rfl⟩⟩
  ·
   refine eT func44 λX0 hX=>?_;simp only[f44,go_sem]
   repeat' (first|exact⟨⟩|refine sp ?_|refine zB6 hcpy rfl ?_)
   all_goals first|exact⟨rfl,rfl,rfl,rfl,.inr ⟨_,rfl⟩,.inr ⟨_,rfl⟩,.inr ⟨_,rfl⟩⟩|exact⟨rfl,rfl,rfl,.inr ⟨_,rfl⟩,.inr ⟨_,rfl⟩⟩|exact⟨.inr ⟨_,rfl⟩,.inr ⟨_,rfl⟩⟩
 ·
  refine eT func44 λX0 hX=>?_;simp only[f44,go_sem]
  repeat' (first|exact⟨⟩|refine sp ?_|refine zB6 hcpy rfl ?_)
  all_goals first|exact⟨rfl,rfl,rfl,rfl,.inr ⟨_,rfl⟩,.inr ⟨_,rfl⟩,.inr ⟨_,rfl⟩⟩|exact⟨rfl,rfl,rfl,.inr ⟨_,rfl⟩,.inr ⟨_,rfl⟩⟩|exact⟨.inr ⟨_,rfl⟩,.inr ⟨_,rfl⟩⟩
end
end Go.Proofs.YtlbfnbldeefgmaaGreatDoor
end
