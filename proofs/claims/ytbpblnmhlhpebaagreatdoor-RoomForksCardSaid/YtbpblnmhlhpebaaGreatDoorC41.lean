/- Part 42 of the proof of roomForks_card, set without needless blanks. No condition. -/
import Derived.Test.YtbpblnmhlhpebaaGreatDoorC40
set_option linter.unusedSimpArgs false
set_option linter.unusedVariables false
set_option maxRecDepth 100000
set_option maxHeartbeats 8000000
namespace Go.Proofs.YtbpblnmhlhpebaaGreatDoor
open Go Go.Dm Go.Proofs
section
theorem OkT.node {t:List It} (h:OkT t) (p:List UInt8):(nodeAt t p).d.length≤2000∧(nodeAt t p).t<18446744073709551616:=by
 unfold nodeAt
 split
 ·exact ⟨by simp,by simp⟩
 ·exact ⟨h.getd p,h.gett p⟩
section places
variable {t:List It} {p:List UInt8} {is:Bool} {k m:Int} {tt:Nat} {d:List UInt8}
theorem zFo {to':List UInt8} (h:OkT t) (hp:p.length≤1000000000) (hs:to'.length≤9223372036854775807):
  aA Tryz.prog 191 [.agg (plc t p is k m tt d),.c (.p (.s to'))] [] fun r h =>
   r=.tup [.c (.p (.sl 5 (aT (pM t p is ⟨k,m,tt,d⟩ to').1))),.c (.p (.i .i64 (pM t p is ⟨k,m,tt,d⟩ to').2))]∧h=[]:=by
 have htl:=h.len
 have hwk:=zHs (s:=to') (fo:=false) h hs
 have hql:=LS (t:=t) (s:=to') (fo:=false)
 refine bJ ?_
 unfold pM
 generalize cJ t to' false=W at hwk hql ⊢
 obtain ⟨q,is',e⟩:=W
 simp only at hwk hql ⊢
 cases is
 ·
  refine ent aB aK Tryz.func191 rfl rfl fun X0 hX=>?_
  simp only [Tryz.f191,go_sem]
  repeat' (simp only [*,go_sem,Nat.reduceLT,Nat.reduceEqDiff,↓reduceIte,Bool.not_false])
  all_goals exact .inr ⟨_,rfl⟩
 ·cases q0:(e == 0)
  ·have q1:(e != 0)=true:=by rw [bne,q0];rfl
   refine ent aB aK Tryz.func191 rfl rfl fun X0 hX=>?_
   simp only [Tryz.f191,go_sem]
   repeat' (first|simp only [*,go_sem,Nat.reduceLT,Nat.reduceEqDiff,↓reduceIte,Bool.not_true]|((with_reducible refine bK (hwk) ?_ ?_ ?_);exact rfl;exact fun _=>rfl))
   all_goals exact .inr ⟨_,rfl⟩
  ·have he:=eq_of_beq q0
   subst he
   have hat:=zMy (p:=q) (is:=is') h (by omega)
   have hon:=zLd (p:=p) (k:=k) (m:=m) (tt:=tt) (d:=d) (q:=q) (is':=is') (k':=(nodeAt t q).k) (m':=(nodeAt t q).m) (tt':=(nodeAt t q).t) (d':=(nodeAt t q).d) h
   have eta:(⟨(nodeAt t q).k,(nodeAt t q).m,(nodeAt t q).t,(nodeAt t q).d⟩:Nd)=nodeAt t q:=rfl
   rw [eta] at hon
   have hdp:TF true ⟨k,m,tt,d⟩=(k == 2):=rfl
   rw [hdp]
   clear eta hdp
   have hcp:=zG (t:=t) (by omega) fun x hx=>Nat.le_trans (h.dlen x hx) (by decide)
   have hrm:=nD (t:=t) (p:=q) (by omega) (by omega) fun x hx=>Nat.le_trans (h.dlen x hx) (by decide)
   have hmv:=zK3 (t:=bN t q) (a:=p) (b:=q) (h.remove q) hp (by omega)
   generalize XF (k == 2) t q is' (nodeAt t q)=O at hon ⊢
   generalize nodeAt t q=n at hat hon
   obtain ⟨k1,m1,t1,d1⟩:=n
   simp only at hat hon
   generalize hD (bN t q) p q=M at hmv ⊢
   cases hz:(p == [])
   ·cases hz2:(q == [])
    ·cases hpq:(p == q)
     ·cases hbl:aO p q
      ·cases ho:(O == 0)
       ·have ho2:(O != 0)=true:=by rw [bne,ho];rfl
        refine ent aB aK Tryz.func191 rfl rfl fun X0 hX=>?_
        simp only [Tryz.f191,go_sem]
        repeat' (first|simp only [*,go_sem,Nat.reduceLT,Nat.reduceLeDiff,Nat.reduceEqDiff,↓reduceIte,Nat.reduceAdd,bne_self_eq_false,Bool.not_true]|((with_reducible refine bK (hwk) ?_ ?_ ?_);exact rfl;exact fun _=>rfl)|((with_reducible refine bK (hat) ?_ ?_ ?_);exact rfl;exact fun _=>rfl)|((with_reducible refine aQ (iE) ?_ ?_ ?_);exact rfl;exact rfl)|((with_reducible refine aQ (cI hp) ?_ ?_ ?_);exact rfl;exact rfl)|((with_reducible refine aQ (hon) ?_ ?_ ?_);exact rfl;exact rfl))
        all_goals exact .inr ⟨_,rfl⟩
       ·have ho:=eq_of_beq ho
        subst ho
        refine ent aB aK Tryz.func191 rfl rfl fun X0 hX=>?_
        simp only [Tryz.f191,go_sem]
        repeat' (first|simp only [*,go_sem,Nat.reduceLT,Nat.reduceLeDiff,Nat.reduceEqDiff,↓reduceIte,Nat.reduceAdd,bne_self_eq_false,Bool.not_true]|((with_reducible refine bK (hwk) ?_ ?_ ?_);exact rfl;exact fun _=>rfl)|((with_reducible refine bK (hat) ?_ ?_ ?_);exact rfl;exact fun _=>rfl)|((with_reducible refine aQ (iE) ?_ ?_ ?_);exact rfl;exact rfl)|((with_reducible refine aQ (cI hp) ?_ ?_ ?_);exact rfl;exact rfl)|((with_reducible refine aQ (hon) ?_ ?_ ?_);exact rfl;exact rfl)|((refine aP (id:=16) aB aK [] [0,1,2,3,4,5,6,7,8,9,10,11,12,13] (by decide +kernel) ?_);(repeat' (first|(refine bA ?_)|((refine cQ ?_ rfl rfl ?_ ?_);(rotate_left 1);(focus ((repeat' (first|simp only [*,go_sem,Nat.reduceLT,Nat.reduceEqDiff,↓reduceIte]|((with_reducible refine bK (hrm) ?_ ?_ ?_);exact rfl;exact fun _=>rfl)|((with_reducible refine bK (hmv) ?_ ?_ ?_);exact rfl;exact fun _=>rfl)));exact rfl));(simp only [aJ]))))))
      ·
       refine ent aB aK Tryz.func191 rfl rfl fun X0 hX=>?_
       simp only [Tryz.f191,go_sem]
       repeat' (first|simp only [*,go_sem,Nat.reduceLT,Nat.reduceLeDiff,Nat.reduceEqDiff,↓reduceIte,Nat.reduceAdd,bne_self_eq_false,Bool.not_true]|((with_reducible refine bK (hwk) ?_ ?_ ?_);exact rfl;exact fun _=>rfl)|((with_reducible refine bK (hat) ?_ ?_ ?_);exact rfl;exact fun _=>rfl)|((with_reducible refine aQ (iE) ?_ ?_ ?_);exact rfl;exact rfl)|((with_reducible refine aQ (cI hp) ?_ ?_ ?_);exact rfl;exact rfl))
       all_goals exact .inr ⟨_,rfl⟩
     ·
      refine ent aB aK Tryz.func191 rfl rfl fun X0 hX=>?_
      simp only [Tryz.f191,go_sem]
      repeat' (first|simp only [*,go_sem,Nat.reduceLT,Nat.reduceLeDiff,Nat.reduceEqDiff,↓reduceIte,Nat.reduceAdd,bne_self_eq_false,Bool.not_true]|((with_reducible refine bK (hwk) ?_ ?_ ?_);exact rfl;exact fun _=>rfl)|((with_reducible refine bK (hat) ?_ ?_ ?_);exact rfl;exact fun _=>rfl)|((with_reducible refine aQ (iE) ?_ ?_ ?_);exact rfl;exact rfl)|refine zB2 hcp rfl ?_)
    ·
     refine ent aB aK Tryz.func191 rfl rfl fun X0 hX=>?_
     simp only [Tryz.f191,go_sem]
     repeat' (first|simp only [*,go_sem,Nat.reduceLT,Nat.reduceLeDiff,Nat.reduceEqDiff,↓reduceIte,Nat.reduceAdd,bne_self_eq_false,Bool.not_true]|((with_reducible refine bK (hwk) ?_ ?_ ?_);exact rfl;exact fun _=>rfl)|((with_reducible refine bK (hat) ?_ ?_ ?_);exact rfl;exact fun _=>rfl)|((with_reducible refine aQ (iE) ?_ ?_ ?_);exact rfl;exact rfl))
     all_goals exact .inr ⟨_,rfl⟩
   ·
    refine ent aB aK Tryz.func191 rfl rfl fun X0 hX=>?_
    simp only [Tryz.f191,go_sem]
    repeat' (first|simp only [*,go_sem,Nat.reduceLT,Nat.reduceLeDiff,Nat.reduceEqDiff,↓reduceIte,Nat.reduceAdd,bne_self_eq_false,Bool.not_true]|((with_reducible refine bK (hwk) ?_ ?_ ?_);exact rfl;exact fun _=>rfl)|((with_reducible refine bK (hat) ?_ ?_ ?_);exact rfl;exact fun _=>rfl)|((with_reducible refine aQ (iE) ?_ ?_ ?_);exact rfl;exact rfl))
    all_goals exact .inr ⟨_,rfl⟩
theorem GG {ck:Int} {cp cq:List UInt8} {cm:Int} {ct:Nat} {ca cn:Int} {cd:List UInt8} (h:OkT t) (hp:p.length≤1000000000) (hd:d.length≤2000) (ht:tt<18446744073709551616) (hct:ct<18446744073709551616)
  (hcd:cd.length≤140737488355328) (hcq:cq.length≤9223372036854775807) (hca:-9223372036854775808≤ca∧ca≤9223372036854775807):
  aA Tryz.prog 123 [.agg (plc t p is k m tt d),.agg (clc ck cp cq cm ct ca cn cd)] [] fun r h =>
   r=.tup [.c (.p (.sl 5 (aT (bY t p is ⟨k,m,tt,d⟩ ⟨ck,cp,cq,cm,ct,ca,cn,cd⟩).1))),.c (.p (.i .i64 (bY t p is ⟨k,m,tt,d⟩ ⟨ck,cp,cq,cm,ct,ca,cn,cd⟩).2))]∧h=[]:=by
 have htl:=h.len
 have hmk:=fun (kind:Int) (hk:kind=1∨kind=2∨kind=3)=>zKk (is:=is) (k:=k) (m:=m) (tt:=tt) (d:=d) (kind:=kind) (ck:=ck) (cp:=cp) (cq:=cq) (cm:=cm) (ca:=ca) (cn:=cn) h hp hcd hct hk
 have hrd:=zH9 (is:=is) (k:=k) (m:=m) (tt:=tt) (d:=d) h hp
 have hst:=zL6 (is:=is) (k:=k) (m:=m) (ck:=ck) (cp:=cp) (cq:=cq) (cm:=cm) (ca:=ca) (cn:=cn) (cd:=cd) h hp hd ht hct
 have hrn:=zFo (is:=is) (k:=k) (m:=m) (tt:=tt) (d:=d) h hp hcq
 have hfi:=zHy (t:=t) (p:=p) (is:=is) (k:=k) (m:=m) (tt:=tt) (d:=d)
 have hwr:=zIq (is:=is) (k:=k) (m:=m) (b:=cd) h hp hd ht hca hcd
 have htr:=zIw (is:=is) (k:=k) (m:=m) (n:=cn) h hp hd ht
 have hrm:=nD (t:=t) (p:=p) hp (by omega) fun x hx=>Nat.le_trans (h.dlen x hx) (by decide)
 refine bJ ?_
 unfold bY
 simp only
 generalize vC t p is=MK at hmk ⊢
 generalize zJ t p is ⟨k,m,tt,d⟩=RD at hrd ⊢
 generalize zHN t p is ⟨k,m,tt,d⟩ ⟨ck,cp,cq,cm,ct,ca,cn,cd⟩=ST at hst ⊢
 generalize pM t p is ⟨k,m,tt,d⟩ cq=RN at hrn ⊢
 generalize tH is ⟨k,m,tt,d⟩=FI at hfi ⊢
 generalize zU t p ⟨k,m,tt,d⟩ ca cd=WR at hwr ⊢
 generalize zS t p ⟨k,m,tt,d⟩ cn=TR at htr ⊢
 cases k1:(ck == 1)
 ·cases k2:(ck == 2)
  ·cases k7:(ck == 7)
   ·cases k6:(ck == 6)
    ·cases k10:(ck == 10)
     ·cases k11:(ck == 11)
      ·cases k9:(ck == 9)
       ·cases hf:(FI == 0)
        ·have hf2:(FI != 0)=true:=by rw [bne,hf];rfl
         refine ent aB aK Tryz.func123 rfl rfl fun X0 hX=>?_
         simp only [Tryz.f123,go_sem]
         repeat' (first|simp only [*,go_sem,Nat.reduceLT,Nat.reduceLeDiff,Nat.reduceEqDiff,↓reduceIte,Nat.reduceAdd]|((with_reducible refine aQ (hfi) ?_ ?_ ?_);exact rfl;exact rfl))
         all_goals exact .inr ⟨_,rfl⟩
        ·have hf:=eq_of_beq hf
         subst hf
         cases k3:(ck == 3)
         ·cases k4:(ck == 4)
          ·
           refine ent aB aK Tryz.func123 rfl rfl fun X0 hX=>?_
           simp only [Tryz.f123,go_sem]
           repeat' (first|simp only [*,go_sem,Nat.reduceLT,Nat.reduceLeDiff,Nat.reduceEqDiff,↓reduceIte,Nat.reduceAdd,bne_self_eq_false]|((with_reducible refine aQ (hfi) ?_ ?_ ?_);exact rfl;exact rfl)|((with_reducible refine bK (hrm) ?_ ?_ ?_);exact rfl;exact fun _=>rfl))
          ·
           refine ent aB aK Tryz.func123 rfl rfl fun X0 hX=>?_
           simp only [Tryz.f123,go_sem]
           repeat' (first|simp only [*,go_sem,Nat.reduceLT,Nat.reduceLeDiff,Nat.reduceEqDiff,↓reduceIte,Nat.reduceAdd,bne_self_eq_false]|((with_reducible refine aQ (hfi) ?_ ?_ ?_);exact rfl;exact rfl)|((with_reducible refine bK (htr) ?_ ?_ ?_);exact rfl;exact fun _=>rfl))
         ·
          refine ent aB aK Tryz.func123 rfl rfl fun X0 hX=>?_
          simp only [Tryz.f123,go_sem]
          repeat' (first|simp only [*,go_sem,Nat.reduceLT,Nat.reduceLeDiff,Nat.reduceEqDiff,↓reduceIte,Nat.reduceAdd,bne_self_eq_false]|((with_reducible refine aQ (hfi) ?_ ?_ ?_);exact rfl;exact rfl)|((with_reducible refine bK (hwr) ?_ ?_ ?_);exact rfl;exact fun _=>rfl))
       ·
        refine ent aB aK Tryz.func123 rfl rfl fun X0 hX=>?_
        simp only [Tryz.f123,go_sem]
        repeat' (first|simp only [*,go_sem,Nat.reduceLT,Nat.reduceLeDiff,Nat.reduceEqDiff,↓reduceIte,Nat.reduceAdd]|((with_reducible refine bK (hrn) ?_ ?_ ?_);exact rfl;exact fun _=>rfl))
      ·
       refine ent aB aK Tryz.func123 rfl rfl fun X0 hX=>?_
       simp only [Tryz.f123,go_sem]
       repeat' (first|simp only [*,go_sem,Nat.reduceLT,Nat.reduceLeDiff,Nat.reduceEqDiff,↓reduceIte,Nat.reduceAdd]|((with_reducible refine bK (hst) ?_ ?_ ?_);exact rfl;exact fun _=>rfl))
     ·
      refine ent aB aK Tryz.func123 rfl rfl fun X0 hX=>?_
      simp only [Tryz.f123,go_sem]
      repeat' (first|simp only [*,go_sem,Nat.reduceLT,Nat.reduceLeDiff,Nat.reduceEqDiff,↓reduceIte,Nat.reduceAdd]|((with_reducible refine bK (hst) ?_ ?_ ?_);exact rfl;exact fun _=>rfl))
    ·
     refine ent aB aK Tryz.func123 rfl rfl fun X0 hX=>?_
     simp only [Tryz.f123,go_sem]
     repeat' (first|simp only [*,go_sem,Nat.reduceLT,Nat.reduceLeDiff,Nat.reduceEqDiff,↓reduceIte,Nat.reduceAdd]|((with_reducible refine bK (hrd) ?_ ?_ ?_);exact rfl;exact fun _=>rfl))
   ·have hm:=hmk 3 (by simp)
    refine ent aB aK Tryz.func123 rfl rfl fun X0 hX=>?_
    simp only [Tryz.f123,go_sem]
    repeat' (first|simp only [*,go_sem,Nat.reduceLT,Nat.reduceLeDiff,Nat.reduceEqDiff,↓reduceIte,Nat.reduceAdd]|((with_reducible refine bK (hm) ?_ ?_ ?_);exact rfl;exact fun _=>rfl))
  ·have hm:=hmk 1 (by simp)
   refine ent aB aK Tryz.func123 rfl rfl fun X0 hX=>?_
   simp only [Tryz.f123,go_sem]
   repeat' (first|simp only [*,go_sem,Nat.reduceLT,Nat.reduceLeDiff,Nat.reduceEqDiff,↓reduceIte,Nat.reduceAdd]|((with_reducible refine bK (hm) ?_ ?_ ?_);exact rfl;exact fun _=>rfl))
 ·have hm:=hmk 2 (by simp)
  refine ent aB aK Tryz.func123 rfl rfl fun X0 hX=>?_
  simp only [Tryz.f123,go_sem]
  repeat' (first|simp only [*,go_sem,Nat.reduceLT,Nat.reduceLeDiff,Nat.reduceEqDiff,↓reduceIte,Nat.reduceAdd]|((with_reducible refine bK (hm) ?_ ?_ ?_);exact rfl;exact fun _=>rfl))
end places
end
section
section places
variable {t:List It} {p:List UInt8} {is:Bool} {k m:Int} {tt:Nat} {d:List UInt8}
abbrev anv (a:An):List CV:=anc a.e a.n.k a.n.m a.n.t a.n.d a.d a.l
theorem zKc {a n:Int} (hd:d.length≤2000):
  aA Tryz.prog 185 [.agg (plc t p is k m tt d),.c (.p (.i .i64 a)),.c (.p (.i .i64 n))] [] fun r h=>r=.agg (anv (yH is ⟨k,m,tt,d⟩ a n))∧h=[]:=by
 have hfi:=zHy (t:=t) (p:=p) (is:=is) (k:=k) (m:=m) (tt:=tt) (d:=d)
 refine bJ ?_
 unfold yH
 generalize tH is ⟨k,m,tt,d⟩=FI at hfi ⊢
 cases hf:(FI == 0)
 ·have hf2:(FI != 0)=true:=by rw [bne,hf];rfl
  refine ent aB aK Tryz.func185 rfl rfl fun X0 hX=>?_
  simp only [Tryz.f185,go_sem]
  repeat' (first|simp only [*,go_sem,Nat.reduceLT,Nat.reduceLeDiff,Nat.reduceEqDiff,↓reduceIte,Nat.reduceAdd]|((with_reducible refine aQ (hfi) ?_ ?_ ?_);exact rfl;exact rfl))
  all_goals exact ⟨rfl,rfl,rfl,rfl,.inr ⟨_,rfl⟩,.inr ⟨_,rfl⟩,.inr ⟨_,rfl⟩⟩
 ·have hf:=eq_of_beq hf
  subst hf
  cases h1:decide (a<0)
  ·cases h2:decide (n<0)
   ·obtain ⟨f,rfl⟩:∃ f:Nat,a=f:=⟨a.toNat,by simp at h1;omega⟩
    obtain ⟨g,rfl⟩:∃ g:Nat,n=g:=⟨n.toNat,by simp at h2;omega⟩
    simp only [Int.toNat_natCast]
    have hf0:(0:Int)≤(f:Int):=by omega
    have hg0:(0:Int)≤(g:Int):=by omega
    by_cases hfd:f≤d.length
    ·have x1:¬ ((d.length:Int)<(f:Int)):=by omega
     have x3:(f:Int)≤(d.length:Int):=by omega
     have hel:(d.drop f).length≤2000:=by rw [List.length_drop];omega
     generalize he:d.drop f=e at hel ⊢
     by_cases hge:g≤e.length
     ·have x2:¬ ((e.length:Int)<(g:Int)):=by omega
      have x4:(g:Int)≤(e.length:Int):=by omega
      have hcl:=yT (a:=e.take g) (by rw [List.length_take];omega)
      refine ent aB aK Tryz.func185 rfl rfl fun X0 hX=>?_
      simp only [Tryz.f185,go_sem]
      repeat' (first|simp only [*,go_sem,Nat.reduceLT,Nat.reduceLeDiff,Nat.reduceEqDiff,↓reduceIte,Nat.reduceAdd,Int.reduceLE,Int.reduceToNat,bne_self_eq_false]|((with_reducible refine aQ (hfi) ?_ ?_ ?_);exact rfl;exact rfl)|((with_reducible refine bK (hcl) ?_ ?_ ?_);exact rfl;exact fun _=>rfl)|((with_reducible refine And.intro ?_ ?_);(focus (omega))))
      all_goals exact ⟨rfl,rfl,rfl,.inr ⟨_,rfl⟩,.inr ⟨_,rfl⟩⟩
     ·have x2:(e.length:Int)<(g:Int):=by omega
      have hcl:=yT (a:=e) (by omega)
      have htk:e.take e.length=e:=List.take_length
      rw [List.take_of_length_le (by omega)]
      refine ent aB aK Tryz.func185 rfl rfl fun X0 hX=>?_
      simp only [Tryz.f185,go_sem]
      repeat' (first|simp only [*,go_sem,Nat.reduceLT,Nat.reduceLeDiff,Nat.reduceEqDiff,↓reduceIte,Nat.reduceAdd,Int.reduceLE,Int.reduceToNat,bne_self_eq_false]|((with_reducible refine aQ (hfi) ?_ ?_ ?_);exact rfl;exact rfl)|((with_reducible refine bK (hcl) ?_ ?_ ?_);exact rfl;exact fun _=>rfl)|((with_reducible refine And.intro ?_ ?_);(focus (omega))))
      all_goals exact ⟨rfl,rfl,rfl,.inr ⟨_,rfl⟩,.inr ⟨_,rfl⟩⟩
    ·have x1:(d.length:Int)<(f:Int):=by omega
     have hd0:d.drop d.length=[]:=List.drop_length
     rw [List.drop_of_length_le (by omega),List.take_nil]
     have hcl:=yT (a:=[]) (by simp)
     rw [oA] at hcl
     refine ent aB aK Tryz.func185 rfl rfl fun X0 hX=>?_
     simp only [Tryz.f185,go_sem]
     repeat' (first|simp only [*,go_sem,Nat.reduceLT,Nat.reduceLeDiff,Nat.reduceEqDiff,↓reduceIte,Nat.reduceAdd,Int.reduceLE,Int.reduceToNat,bne_self_eq_false,List.take_nil,List.length_nil]|((with_reducible refine aQ (hfi) ?_ ?_ ?_);exact rfl;exact rfl)|((with_reducible refine bK (hcl) ?_ ?_ ?_);exact rfl;exact fun _=>rfl)|((with_reducible refine And.intro ?_ ?_);(focus (omega))))
     all_goals exact ⟨rfl,rfl,rfl,.inr ⟨_,rfl⟩,.inr ⟨_,rfl⟩⟩
   ·
    refine ent aB aK Tryz.func185 rfl rfl fun X0 hX=>?_
    simp only [Tryz.f185,go_sem]
    repeat' (first|simp only [*,go_sem,Nat.reduceLT,Nat.reduceLeDiff,Nat.reduceEqDiff,↓reduceIte,Nat.reduceAdd,bne_self_eq_false]|((with_reducible refine aQ (hfi) ?_ ?_ ?_);exact rfl;exact rfl))
    all_goals exact ⟨rfl,rfl,rfl,rfl,.inr ⟨_,rfl⟩,.inr ⟨_,rfl⟩,.inr ⟨_,rfl⟩⟩
  ·
   refine ent aB aK Tryz.func185 rfl rfl fun X0 hX=>?_
   simp only [Tryz.f185,go_sem]
   repeat' (first|simp only [*,go_sem,Nat.reduceLT,Nat.reduceLeDiff,Nat.reduceEqDiff,↓reduceIte,Nat.reduceAdd,bne_self_eq_false]|((with_reducible refine aQ (hfi) ?_ ?_ ?_);exact rfl;exact rfl))
   all_goals exact ⟨rfl,rfl,rfl,rfl,.inr ⟨_,rfl⟩,.inr ⟨_,rfl⟩,.inr ⟨_,rfl⟩⟩
theorem zIW {ck:Int} {cp cq:List UInt8} {cm:Int} {ct:Nat} {ca cn:Int} {cd:List UInt8} (h:OkT t) (hd:d.length≤2000):
  aA Tryz.prog 122 [.agg (plc t p is k m tt d),.agg (clc ck cp cq cm ct ca cn cd)] [] fun r h =>
   r=.agg (anv (kH t p is ⟨k,m,tt,d⟩ ⟨ck,cp,cq,cm,ct,ca,cn,cd⟩))∧h=[]:=by
 have hrd:=zKc (t:=t) (p:=p) (is:=is) (k:=k) (m:=m) (tt:=tt) (a:=ca) (n:=cn) hd
 have hcl:=yT (a:=d) (by omega)
 have hnm:=GU (p:=p) h
 refine bJ ?_
 unfold kH TF
 simp only
 generalize yH is ⟨k,m,tt,d⟩ ca cn=RD at hrd ⊢
 generalize fX t p=N at hnm ⊢
 cases k14:(ck == 14)
 ·cases is
  ·
   refine ent aB aK Tryz.func122 rfl rfl fun X0 hX=>?_
   simp only [Tryz.f122,go_sem]
   repeat' (simp only [*,go_sem,Nat.reduceLT,Nat.reduceLeDiff,Nat.reduceEqDiff,↓reduceIte,Nat.reduceAdd,Bool.not_false])
   all_goals exact ⟨rfl,rfl,rfl,rfl,.inr ⟨_,rfl⟩,.inr ⟨_,rfl⟩,.inr ⟨_,rfl⟩⟩
  ·cases k8:(ck == 8)
   ·cases k15:(ck == 15)
    ·
     refine ent aB aK Tryz.func122 rfl rfl fun X0 hX=>?_
     simp only [Tryz.f122,go_sem]
     repeat' (simp only [*,go_sem,Nat.reduceLT,Nat.reduceLeDiff,Nat.reduceEqDiff,↓reduceIte,Nat.reduceAdd,Bool.not_true])
     all_goals first|exact ⟨rfl,rfl,rfl,rfl,.inr ⟨_,rfl⟩,.inr ⟨_,rfl⟩,.inr ⟨_,rfl⟩⟩|exact ⟨rfl,rfl,rfl,.inr ⟨_,rfl⟩,.inr ⟨_,rfl⟩⟩|exact ⟨.inr ⟨_,rfl⟩,.inr ⟨_,rfl⟩⟩
    ·cases hk:(k == 2)
     ·
      refine ent aB aK Tryz.func122 rfl rfl fun X0 hX=>?_
      simp only [Tryz.f122,go_sem]
      repeat' (first|simp only [*,go_sem,Nat.reduceLT,Nat.reduceLeDiff,Nat.reduceEqDiff,↓reduceIte,Nat.reduceAdd,Bool.not_true,Bool.not_false]|((with_reducible refine aQ (dH) ?_ ?_ ?_);exact rfl;exact rfl))
      all_goals exact ⟨rfl,rfl,rfl,rfl,.inr ⟨_,rfl⟩,.inr ⟨_,rfl⟩,.inr ⟨_,rfl⟩⟩
     ·
      refine ent aB aK Tryz.func122 rfl rfl fun X0 hX=>?_
      simp only [Tryz.f122,go_sem]
      repeat' (first|simp only [*,go_sem,Nat.reduceLT,Nat.reduceLeDiff,Nat.reduceEqDiff,↓reduceIte,Nat.reduceAdd,Bool.not_true]|((with_reducible refine aQ (dH) ?_ ?_ ?_);exact rfl;exact rfl)|((with_reducible refine bK (hnm) ?_ ?_ ?_);exact rfl;exact fun _=>rfl))
      all_goals first|exact ⟨rfl,rfl,rfl,rfl,.inr ⟨_,rfl⟩,.inr ⟨_,rfl⟩,.inr ⟨_,rfl⟩⟩|exact ⟨rfl,rfl,rfl,.inr ⟨_,rfl⟩,.inr ⟨_,rfl⟩⟩|exact ⟨.inr ⟨_,rfl⟩,.inr ⟨_,rfl⟩⟩
   ·cases hk:(k == 3)
    ·have hk2:(k != 3)=true:=by rw [bne,hk];rfl
     refine ent aB aK Tryz.func122 rfl rfl fun X0 hX=>?_
     simp only [Tryz.f122,go_sem]
     repeat' (simp only [*,go_sem,Nat.reduceLT,Nat.reduceLeDiff,Nat.reduceEqDiff,↓reduceIte,Nat.reduceAdd,Bool.not_true])
     all_goals exact ⟨rfl,rfl,rfl,rfl,.inr ⟨_,rfl⟩,.inr ⟨_,rfl⟩,.inr ⟨_,rfl⟩⟩
    ·have hk2:(k != 3)=false:=by rw [bne,hk];rfl
     refine ent aB aK Tryz.func122 rfl rfl fun X0 hX=>?_
     simp only [Tryz.f122,go_sem]
     repeat' (first|simp only [*,go_sem,Nat.reduceLT,Nat.reduceLeDiff,Nat.reduceEqDiff,↓reduceIte,Nat.reduceAdd,Bool.not_true]|((with_reducible refine bK (hcl) ?_ ?_ ?_);exact rfl;exact fun _=>rfl))
     all_goals first|exact ⟨rfl,rfl,rfl,rfl,.inr ⟨_,rfl⟩,.inr ⟨_,rfl⟩,.inr ⟨_,rfl⟩⟩|exact ⟨rfl,rfl,rfl,.inr ⟨_,rfl⟩,.inr ⟨_,rfl⟩⟩|exact ⟨.inr ⟨_,rfl⟩,.inr ⟨_,rfl⟩⟩
 ·
  refine ent aB aK Tryz.func122 rfl rfl fun X0 hX=>?_
  simp only [Tryz.f122,go_sem]
  repeat' (first|simp only [*,go_sem,Nat.reduceLT,Nat.reduceLeDiff,Nat.reduceEqDiff,↓reduceIte,Nat.reduceAdd]|((with_reducible refine bK (hrd) ?_ ?_ ?_);exact rfl;exact fun _=>rfl))
  all_goals first|exact ⟨rfl,rfl,rfl,rfl,.inr ⟨_,rfl⟩,.inr ⟨_,rfl⟩,.inr ⟨_,rfl⟩⟩|exact ⟨rfl,rfl,rfl,.inr ⟨_,rfl⟩,.inr ⟨_,rfl⟩⟩|exact ⟨.inr ⟨_,rfl⟩,.inr ⟨_,rfl⟩⟩
end places
theorem do_c {t:List It} {ck:Int} {cp cq:List UInt8} {cm:Int} {ct:Nat} {ca cn:Int} {cd:List UInt8} (h:OkT t) (hct:ct<18446744073709551616) (hcp:cp.length≤9223372036854775807)
  (hcd:cd.length≤140737488355328) (hcq:cq.length≤9223372036854775807) (hca:-9223372036854775808≤ca∧ca≤9223372036854775807):
  aA Tryz.prog 60 [.c (.p (.sl 5 (aT t))),.agg (clc ck cp cq cm ct ca cn cd)] [] fun r h =>
   r=.tup [.c (.p (.sl 5 (aT (doP t ⟨ck,cp,cq,cm,ct,ca,cn,cd⟩).1))),.agg (anv (doP t ⟨ck,cp,cq,cm,ct,ca,cn,cd⟩).2)]∧h=[]:=by
 have htl:=h.len
 have hcpy:=zG (t:=t) (by omega) fun x hx=>Nat.le_trans (h.dlen x hx) (by decide)
 have hwk:=zHs (s:=cp) (fo:=fN ck) h hcp
 have hql:=LS (t:=t) (s:=cp) (fo:=fN ck)
 refine bJ ?_
 unfold doP
 simp only
 generalize cJ t cp (fN ck)=W at hwk hql ⊢
 obtain ⟨p,is,e⟩:=W
 simp only at hwk hql ⊢
 have hat:=zMy (p:=p) (is:=is) h (by omega)
 obtain ⟨hnd,hnt⟩:=OkT.node h p
 have hak:=zIW (p:=p) (is:=is) (k:=(nodeAt t p).k) (m:=(nodeAt t p).m) (tt:=(nodeAt t p).t) (ck:=ck) (cp:=cp) (cq:=cq) (cm:=cm) (ct:=ct) (ca:=ca) (cn:=cn) (cd:=cd) h hnd
 have htu:=GG (p:=p) (is:=is) (k:=(nodeAt t p).k) (m:=(nodeAt t p).m) (ck:=ck) (cp:=cp) (cm:=cm) (cn:=cn) h (by omega) hnd hnt hct hcd hcq hca
 have eta:(⟨(nodeAt t p).k,(nodeAt t p).m,(nodeAt t p).t,(nodeAt t p).d⟩:Nd)=nodeAt t p:=rfl
 rw [eta] at hak htu
 generalize kH t p is (nodeAt t p) ⟨ck,cp,cq,cm,ct,ca,cn,cd⟩=A at hak ⊢
 generalize bY t p is (nodeAt t p) ⟨ck,cp,cq,cm,ct,ca,cn,cd⟩=U at htu ⊢
 clear hnd hnt eta
 generalize nodeAt t p=n at hat hak htu
 obtain ⟨k1,m1,t1,d1⟩:=n
 simp only at hat hak htu
 have hfo:=zCM (k:=ck)
 generalize fN ck=fo at hwk hfo
 have htn:=zDC (k:=ck)
 generalize lF ck=tn at htn ⊢
 obtain ⟨U,ue⟩:=U
 simp only at htu ⊢
 cases r1:decide (ck<1)
 ·cases r2:decide (15<ck)
  ·cases q0:(e == 0)
   ·have q1:(e != 0)=true:=by rw [bne,q0];rfl
    refine ent aB aK Tryz.func60 rfl rfl fun X0 hX=>?_
    simp only [Tryz.f60,go_sem]
    repeat' (first|simp only [*,go_sem,Nat.reduceLT,Nat.reduceLeDiff,Nat.reduceEqDiff,↓reduceIte,Nat.reduceAdd]|((refine aP (id:=3) aB aK [] [0,1,2,3,4,5,6,7,8,9,10,11,12,13] (by decide +kernel) ?_);(repeat' (first|(refine bA ?_)|((refine cQ ?_ rfl rfl ?_ ?_);(rotate_left 1);(focus ((repeat' (first|simp only [*,go_sem,Nat.reduceLT,Nat.reduceEqDiff,↓reduceIte]|((with_reducible refine aQ (hfo) ?_ ?_ ?_);exact rfl;exact rfl)|((with_reducible refine bK (hwk) ?_ ?_ ?_);exact rfl;exact fun _=>rfl)));exact rfl));(simp only [aJ])))))|refine zB2 hcpy rfl ?_)
    all_goals first|exact ⟨rfl,rfl,rfl,rfl,.inr ⟨_,rfl⟩,.inr ⟨_,rfl⟩,.inr ⟨_,rfl⟩⟩|exact ⟨rfl,rfl,rfl,.inr ⟨_,rfl⟩,.inr ⟨_,rfl⟩⟩|exact ⟨.inr ⟨_,rfl⟩,.inr ⟨_,rfl⟩⟩
   ·have he:=eq_of_beq q0
    subst he
    cases tn
    ·
     refine ent aB aK Tryz.func60 rfl rfl fun X0 hX=>?_
     simp only [Tryz.f60,go_sem]
     repeat' (first|simp only [*,go_sem,Nat.reduceLT,Nat.reduceLeDiff,Nat.reduceEqDiff,↓reduceIte,Nat.reduceAdd,bne_self_eq_false,Bool.not_false]|((refine aP (id:=3) aB aK [] [0,1,2,3,4,5,6,7,8,9,10,11,12,13] (by decide +kernel) ?_);(repeat' (first|(refine bA ?_)|((refine cQ ?_ rfl rfl ?_ ?_);(rotate_left 1);(focus ((repeat' (first|simp only [*,go_sem,Nat.reduceLT,Nat.reduceEqDiff,↓reduceIte]|((with_reducible refine aQ (hfo) ?_ ?_ ?_);exact rfl;exact rfl)|((with_reducible refine bK (hwk) ?_ ?_ ?_);exact rfl;exact fun _=>rfl)));exact rfl));(simp only [aJ])))))|((with_reducible refine bK (hat) ?_ ?_ ?_);exact rfl;exact fun _=>rfl)|((with_reducible refine aQ (htn) ?_ ?_ ?_);exact rfl;exact rfl)|((refine aP (id:=8) aB aK [1,6] [0,1,2,3,4,5,6] (by decide +kernel) ?_);(repeat' (first|(refine bA ?_)|((refine dB ?_ ?_ rfl rfl rfl ?_ ?_);(rotate_left 2);(focus ((repeat' (first|simp only [*,go_sem,Nat.reduceLT,Nat.reduceLeDiff,Nat.reduceEqDiff,↓reduceIte,Nat.reduceAdd]|refine zB2 hcpy rfl ?_));((refine And.intro ?_ ?_ <;> exact rfl))));(simp only [aJ,bQ]))|((refine dC ?_ rfl rfl rfl ?_ ?_);(rotate_left 1);(focus ((repeat' (first|exact bP|refine bE ?_ ?_));(all_goals ((repeat' (first|simp only [*,go_sem,Nat.reduceLT,Nat.reduceLeDiff,Nat.reduceEqDiff,↓reduceIte,Nat.reduceAdd]|((with_reducible refine bK (hak) ?_ ?_ ?_);exact rfl;exact fun _=>rfl)));(try (exact rfl))))));(simp only [aJ]))))))
     all_goals first|exact ⟨rfl,rfl,rfl,rfl,.inr ⟨_,rfl⟩,.inr ⟨_,rfl⟩,.inr ⟨_,rfl⟩⟩|exact ⟨rfl,rfl,rfl,.inr ⟨_,rfl⟩,.inr ⟨_,rfl⟩⟩|exact ⟨.inr ⟨_,rfl⟩,.inr ⟨_,rfl⟩⟩
    ·cases u0:(ue == 0)
     ·have u1:(ue != 0)=true:=by rw [bne,u0];rfl
      refine ent aB aK Tryz.func60 rfl rfl fun X0 hX=>?_
      simp only [Tryz.f60,go_sem]
      repeat' (first|simp only [*,go_sem,Nat.reduceLT,Nat.reduceLeDiff,Nat.reduceEqDiff,↓reduceIte,Nat.reduceAdd,bne_self_eq_false,Bool.not_true]|((refine aP (id:=3) aB aK [] [0,1,2,3,4,5,6,7,8,9,10,11,12,13] (by decide +kernel) ?_);(repeat' (first|(refine bA ?_)|((refine cQ ?_ rfl rfl ?_ ?_);(rotate_left 1);(focus ((repeat' (first|simp only [*,go_sem,Nat.reduceLT,Nat.reduceEqDiff,↓reduceIte]|((with_reducible refine aQ (hfo) ?_ ?_ ?_);exact rfl;exact rfl)|((with_reducible refine bK (hwk) ?_ ?_ ?_);exact rfl;exact fun _=>rfl)));exact rfl));(simp only [aJ])))))|((with_reducible refine bK (hat) ?_ ?_ ?_);exact rfl;exact fun _=>rfl)|((with_reducible refine aQ (htn) ?_ ?_ ?_);exact rfl;exact rfl)|((with_reducible refine bK (htu) ?_ ?_ ?_);exact rfl;exact fun _=>rfl)|refine zB2 hcpy rfl ?_)
      all_goals first|exact ⟨rfl,rfl,rfl,rfl,.inr ⟨_,rfl⟩,.inr ⟨_,rfl⟩,.inr ⟨_,rfl⟩⟩|exact ⟨rfl,rfl,rfl,.inr ⟨_,rfl⟩,.inr ⟨_,rfl⟩⟩|exact ⟨.inr ⟨_,rfl⟩,.inr ⟨_,rfl⟩⟩
     ·have ue0:=eq_of_beq u0
      subst ue0
      refine ent aB aK Tryz.func60 rfl rfl fun X0 hX=>?_
      simp only [Tryz.f60,go_sem]
      repeat' (first|simp only [*,go_sem,Nat.reduceLT,Nat.reduceLeDiff,Nat.reduceEqDiff,↓reduceIte,Nat.reduceAdd,bne_self_eq_false,Bool.not_true]|((refine aP (id:=3) aB aK [] [0,1,2,3,4,5,6,7,8,9,10,11,12,13] (by decide +kernel) ?_);(repeat' (first|(refine bA ?_)|((refine cQ ?_ rfl rfl ?_ ?_);(rotate_left 1);(focus ((repeat' (first|simp only [*,go_sem,Nat.reduceLT,Nat.reduceEqDiff,↓reduceIte]|((with_reducible refine aQ (hfo) ?_ ?_ ?_);exact rfl;exact rfl)|((with_reducible refine bK (hwk) ?_ ?_ ?_);exact rfl;exact fun _=>rfl)));exact rfl));(simp only [aJ])))))|((with_reducible refine bK (hat) ?_ ?_ ?_);exact rfl;exact fun _=>rfl)|((with_reducible refine aQ (htn) ?_ ?_ ?_);exact rfl;exact rfl)|((with_reducible refine bK (htu) ?_ ?_ ?_);exact rfl;exact fun _=>rfl))
      all_goals first|exact ⟨rfl,rfl,rfl,rfl,.inr ⟨_,rfl⟩,.inr ⟨_,rfl⟩,.inr ⟨_,rfl⟩⟩|exact ⟨rfl,rfl,rfl,.inr ⟨_,rfl⟩,.inr ⟨_,rfl⟩⟩|exact ⟨.inr ⟨_,rfl⟩,.inr ⟨_,rfl⟩⟩
  ·
   refine ent aB aK Tryz.func60 rfl rfl fun X0 hX=>?_
   simp only [Tryz.f60,go_sem]
   repeat' (first|simp only [*,go_sem,Nat.reduceLT,Nat.reduceLeDiff,Nat.reduceEqDiff,↓reduceIte,Nat.reduceAdd]|refine zB2 hcpy rfl ?_)
   all_goals first|exact ⟨rfl,rfl,rfl,rfl,.inr ⟨_,rfl⟩,.inr ⟨_,rfl⟩,.inr ⟨_,rfl⟩⟩|exact ⟨rfl,rfl,rfl,.inr ⟨_,rfl⟩,.inr ⟨_,rfl⟩⟩|exact ⟨.inr ⟨_,rfl⟩,.inr ⟨_,rfl⟩⟩
 ·
  refine ent aB aK Tryz.func60 rfl rfl fun X0 hX=>?_
  simp only [Tryz.f60,go_sem]
  repeat' (first|simp only [*,go_sem,Nat.reduceLT,Nat.reduceLeDiff,Nat.reduceEqDiff,↓reduceIte,Nat.reduceAdd]|refine zB2 hcpy rfl ?_)
  all_goals first|exact ⟨rfl,rfl,rfl,rfl,.inr ⟨_,rfl⟩,.inr ⟨_,rfl⟩,.inr ⟨_,rfl⟩⟩|exact ⟨rfl,rfl,rfl,.inr ⟨_,rfl⟩,.inr ⟨_,rfl⟩⟩|exact ⟨.inr ⟨_,rfl⟩,.inr ⟨_,rfl⟩⟩
end
end Go.Proofs.YtbpblnmhlhpebaaGreatDoor
