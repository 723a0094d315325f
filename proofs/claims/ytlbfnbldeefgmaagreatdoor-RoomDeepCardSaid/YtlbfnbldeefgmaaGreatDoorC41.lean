/- Part 42 of the proof of roomDeep_card, set without needless blanks. No condition. -/
import Derived.Test.YtlbfnbldeefgmaaGreatDoorC40
set_option linter.all false
section
namespace Go.Proofs.YtlbfnbldeefgmaaGreatDoor
open Go Go.Dm Go.Proofs
set_option maxRecDepth 100000
set_option maxHeartbeats 8000000
section places
variable {t:List It} {p:List UInt8} {is:Bool} {k m:Int} {tt:Nat} {d:List UInt8}
theorem zHC {n:Int} (h:OkT t) (hp:p.length≤1000000000) (hd:d.length≤2000) (ht:tt<18446744073709551616):
  aA Tryz.prog 186 [.agg (plc t p is k m tt d),.c (.p (.i .i64 n))] [] fun r h =>
   r=.tup [.c (.p (.sl 5 (aZ (xG t p ⟨k,m,tt,d⟩ n).1))),.c (.p (.i .i64 (xG t p ⟨k,m,tt,d⟩ n).2))]∧h=[]:=by
 refine bN ?_;unfold xG;simp only;cases h0:decide (n<0)
 ·obtain ⟨f,rfl⟩:∃ f:Nat,n=f:=⟨n.toNat,by simp at h0;omega⟩
  rw [Int.toNat_natCast];cases h1:decide ((d.length:Int)<(f:Int))
  ·have h1':f≤d.length:=by simp at h1;omega
   have hf0:(0:Int)≤(f:Int):=by omega
   have hfl:(f:Int)≤(d.length:Int):=by omega
   have htl:(d.take f).length≤140737488355328:=by rw [List.length_take];omega
   have hput:=gE (is:=is) (k:=k) (m:=m) (tt:=tt) (d:=d.take f) (k':=k) (m':=m) (tt':=tt) (d':=d.take f) h hp htl ht;refine ent aC aK Tryz.func186 rfl rfl fun X0 hX=>?_;simp only [Tryz.f186,go_sem]
   repeat' (first|simp only [*,go_sem,Nat.reduceLT,Nat.reduceLeDiff,Nat.reduceEqDiff,↓reduceIte,Nat.reduceAdd,Int.reduceLE,Int.reduceToNat,]|((with_reducible refine cH (hput) ?_ ?_ ?_);exact rfl;exact fun _=>rfl))
  ·
   refine ent aC aK Tryz.func186 rfl rfl fun X0 hX=>?_;simp only [Tryz.f186,go_sem]
   repeat' (simp only [*,go_sem,Nat.reduceLT,Nat.reduceEqDiff,↓reduceIte,Nat.reduceAdd,])
   all_goals exact .inr ⟨_,rfl⟩
 ·
  refine ent aC aK Tryz.func186 rfl rfl fun X0 hX=>?_;simp only [Tryz.f186,go_sem]
  repeat' (simp only [*,go_sem,Nat.reduceLT,Nat.reduceEqDiff,↓reduceIte,])
  all_goals exact .inr ⟨_,rfl⟩
theorem zHR {a:Int} {b:List UInt8} (h:OkT t) (hp:p.length≤1000000000) (hd:d.length≤2000) (ht:tt<18446744073709551616) (ha:-9223372036854775808≤a∧a≤9223372036854775807) (hb:b.length≤140737488355328):
  aA Tryz.prog 185 [.agg (plc t p is k m tt d),.c (.p (.i .i64 a)),.c (.p (.sl 1 (bW b)))] [] fun r h =>
   r=.tup [.c (.p (.sl 5 (aZ (xK t p ⟨k,m,tt,d⟩ a b).1))),.c (.p (.i .i64 (xK t p ⟨k,m,tt,d⟩ a b).2))]∧h=[]:=by
 refine bN ?_;unfold xK;simp only;cases h0:decide (a<0)
 ·obtain ⟨f,rfl⟩:∃ f:Nat,a=f:=⟨a.toNat,by simp at h0;omega⟩
  rw [Int.toNat_natCast];cases h1:decide ((d.length:Int)<(f:Int))
  ·have h1':f≤d.length:=by simp at h1;omega
   have hf0:(0:Int)≤(f:Int):=by omega
   have hfl:(f:Int)≤(d.length:Int):=by omega
   have w1:IntKind.i64.wrap (2000-(f:Int))=2000-(f:Int):=wrap_i64 (by omega) (by omega);cases h2:decide (2000-(f:Int)<(b.length:Int))
   ·have h2':f+b.length≤2000:=by simp at h2;omega
    have htk:(d.take f).length=f:=by rw [List.length_take];omega
    have hcc:=QW (a:=d.take f) (b:=b) (by omega) (by omega);rw [htk] at hcc;have hwl:(wrD d f b).length≤140737488355328:=Nat.le_trans (zCu hd h1' h2') (by decide);have hput:=gE (is:=is) (k:=k) (m:=m) (tt:=tt) (d:=wrD d f b) (k':=k) (m':=m) (tt':=tt) (d':=wrD d f b) h hp hwl ht;have hal:(d.take f++b).length=f+b.length:=by rw [List.length_append,htk]
    cases h3:decide (((f+b.length:Nat):Int)<(d.length:Int))
    ·have e1:wrD d f b=(d.take f++b).take (f+b.length):=by
      have:¬ f+b.length<d.length:=by simp at h3;omega
      unfold wrD;rw [List.drop_of_length_le (by omega),List.append_nil,List.take_of_length_le (l:=d.take f++b) (by omega)]
     rw [e1] at hput ⊢;refine ent aC aK Tryz.func185 rfl rfl fun X0 hX=>?_;simp only [Tryz.f185,go_sem]
     repeat' (first|simp only [*,go_sem,Nat.reduceLT,Nat.reduceLeDiff,Nat.reduceEqDiff,↓reduceIte,Nat.reduceAdd,Int.reduceLE,Int.reduceToNat,]|refine zCc hcc rfl ?_|((with_reducible refine cH (hput) ?_ ?_ ?_);exact rfl;exact fun _=>rfl)|((with_reducible apply aA.frz);exact rfl;exact rfl)|((with_reducible refine And.intro ?_ ?_);decide))
    ·have h4:f+b.length≤d.length:=by simp at h3;omega
     have h5:((f+b.length:Nat):Int)≤(d.length:Int):=by omega
     have h6:(0:Int)≤((f+b.length:Nat):Int):=by omega
     have hdl:(d.drop (f+b.length)).length=d.length-(f+b.length):=List.length_drop;have e2:wrD d f b=(d.take f++b++d.drop (f+b.length)).take (f+b.length+(d.length-(f+b.length))):=by
      unfold wrD;rw [List.take_of_length_le (l:=d.take f++b++d.drop (f+b.length)) (by rw [List.length_append,hal,hdl];omega)]
     rw [e2] at hput ⊢;refine ent aC aK Tryz.func185 rfl rfl fun X0 hX=>?_;simp only [Tryz.f185,go_sem]
     repeat' (first|simp only [*,go_sem,Nat.reduceLT,Nat.reduceLeDiff,Nat.reduceEqDiff,↓reduceIte,Nat.reduceAdd,Int.reduceLE,Int.reduceToNat,]|refine zCc hcc rfl ?_|((refine aO (id:=8) aC aK [9,12] [0,1,2,3,4,5,6,7,8,9,10,11,12] (by decide +kernel) ?_);(repeat' (first|(refine bC ?_)|((refine dB ?_ ?_ rfl rfl rfl ?_ ?_);(rotate_left 2);(focus ((repeat' (first|simp only [*,go_sem,Nat.reduceLT,Nat.reduceLeDiff,Nat.reduceEqDiff,↓reduceIte,Nat.reduceAdd,]|((with_reducible refine And.intro ?_ ?_);omega)));((refine And.intro ?_ ?_ <;> exact rfl))));(simp only [aF,bF]))|((refine dA ?_ rfl rfl rfl ?_ ?_);(rotate_left 1);(focus ((repeat' (first|exact bI|refine bA ?_ ?_));(all_goals ((repeat' (first|simp only [*,go_sem,Nat.reduceLT,Nat.reduceEqDiff,↓reduceIte,Nat.reduceAdd,]|((with_reducible refine And.intro ?_ ?_);omega)));(try (exact rfl))))));(simp only [aF])))))|((with_reducible refine cH (hput) ?_ ?_ ?_);exact rfl;exact fun _=>rfl)|((with_reducible apply aA.frz);exact rfl;exact rfl)|((with_reducible refine And.intro ?_ ?_);decide))
   ·
    refine ent aC aK Tryz.func185 rfl rfl fun X0 hX=>?_;simp only [Tryz.f185,go_sem]
    repeat' (simp only [*,go_sem,Nat.reduceLT,Nat.reduceEqDiff,↓reduceIte,Nat.reduceAdd,])
    all_goals exact .inr ⟨_,rfl⟩
  ·
   refine ent aC aK Tryz.func185 rfl rfl fun X0 hX=>?_;simp only [Tryz.f185,go_sem]
   repeat' (simp only [*,go_sem,Nat.reduceLT,Nat.reduceEqDiff,↓reduceIte,Nat.reduceAdd,])
   all_goals exact .inr ⟨_,rfl⟩
 ·
  refine ent aC aK Tryz.func185 rfl rfl fun X0 hX=>?_;simp only [Tryz.f185,go_sem]
  repeat' (simp only [*,go_sem,Nat.reduceLT,Nat.reduceEqDiff,↓reduceIte,Nat.reduceAdd,])
  all_goals exact .inr ⟨_,rfl⟩
theorem zHd (h:OkT t) (hp:p.length≤1000000000):
  aA Tryz.prog 181 [.agg (plc t p is k m tt d)] [] fun r h =>
   r=.tup [.c (.p (.sl 5 (aZ (wR t p is ⟨k,m,tt,d⟩).1))),.c (.p (.i .i64 (wR t p is ⟨k,m,tt,d⟩).2))]∧h=[]:=by
 have htl:=h.len;have hnm:=CI (p:=p) h;have hrm:=mR (t:=t) (p:=p) hp (by omega) fun x hx=>Nat.le_trans (h.dlen x hx) (by decide);refine bN ?_;unfold wR NT;generalize gA t p=N at hnm ⊢;cases h0:(p == [])
 ·cases is
  ·
   refine ent aC aK Tryz.func181 rfl rfl fun X0 hX=>?_;simp only [Tryz.f181,go_sem]
   repeat' (first|simp only [*,go_sem,Nat.reduceLT,Nat.reduceLeDiff,Nat.reduceEqDiff,↓reduceIte,Nat.reduceAdd,Bool.not_false]|((with_reducible refine aQ (iP) ?_ ?_ ?_);exact rfl;exact rfl))
   all_goals exact .inr ⟨_,rfl⟩
  ·cases hk:(k == 2)
   ·
    refine ent aC aK Tryz.func181 rfl rfl fun X0 hX=>?_;simp only [Tryz.f181,go_sem]
    repeat' (first|simp only [*,go_sem,Nat.reduceLT,Nat.reduceLeDiff,Nat.reduceEqDiff,↓reduceIte,Nat.reduceAdd,Bool.not_true,Bool.not_false]|((with_reducible refine aQ (iP) ?_ ?_ ?_);exact rfl;exact rfl)|((with_reducible refine aQ (dG) ?_ ?_ ?_);exact rfl;exact rfl))
    all_goals exact .inr ⟨_,rfl⟩
   ·cases hn:decide ((0:Int)<(N.length:Int))
    ·
     refine ent aC aK Tryz.func181 rfl rfl fun X0 hX=>?_;simp only [Tryz.f181,go_sem]
     repeat' (first|simp only [*,go_sem,Nat.reduceLT,Nat.reduceLeDiff,Nat.reduceEqDiff,↓reduceIte,Nat.reduceAdd,Bool.not_true]|((with_reducible refine aQ (iP) ?_ ?_ ?_);exact rfl;exact rfl)|((with_reducible refine aQ (dG) ?_ ?_ ?_);exact rfl;exact rfl)|((with_reducible refine cH (hnm) ?_ ?_ ?_);exact rfl;exact fun _=>rfl)|((with_reducible refine cH (hrm) ?_ ?_ ?_);exact rfl;exact fun _=>rfl))
    ·
     refine ent aC aK Tryz.func181 rfl rfl fun X0 hX=>?_;simp only [Tryz.f181,go_sem]
     repeat' (first|simp only [*,go_sem,Nat.reduceLT,Nat.reduceLeDiff,Nat.reduceEqDiff,↓reduceIte,Nat.reduceAdd,Bool.not_true]|((with_reducible refine aQ (iP) ?_ ?_ ?_);exact rfl;exact rfl)|((with_reducible refine aQ (dG) ?_ ?_ ?_);exact rfl;exact rfl)|((with_reducible refine cH (hnm) ?_ ?_ ?_);exact rfl;exact fun _=>rfl))
     all_goals exact .inr ⟨_,rfl⟩
 ·
  refine ent aC aK Tryz.func181 rfl rfl fun X0 hX=>?_;simp only [Tryz.f181,go_sem]
  repeat' (first|simp only [*,go_sem,Nat.reduceLT,Nat.reduceLeDiff,Nat.reduceEqDiff,↓reduceIte,Nat.reduceAdd,]|((with_reducible refine aQ (iP) ?_ ?_ ?_);exact rfl;exact rfl))
  all_goals exact .inr ⟨_,rfl⟩
theorem zKh {ck:Int} {cp cq:List UInt8} {cm:Int} {ct:Nat} {ca cn:Int} {cd:List UInt8} (h:OkT t) (hp:p.length≤1000000000) (hd:d.length≤2000) (ht:tt<18446744073709551616) (hct:ct<18446744073709551616):
  aA Tryz.prog 182 [.agg (plc t p is k m tt d),.agg (clc ck cp cq cm ct ca cn cd)] [] fun r h =>
   r=.tup [.c (.p (.sl 5 (aZ (zFJ t p is ⟨k,m,tt,d⟩ ⟨ck,cp,cq,cm,ct,ca,cn,cd⟩).1))),.c (.p (.i .i64 (zFJ t p is ⟨k,m,tt,d⟩ ⟨ck,cp,cq,cm,ct,ca,cn,cd⟩).2))]∧h=[]:=by
 have hb:=pB hct;have hputm:=gE (is:=is) (k:=k) (m:=cm) (tt:=tt) (d:=d) (k':=k) (m':=cm) (tt':=tt) (d':=d) h hp (by omega) ht;have hputt:=gE (is:=is) (k:=k) (m:=m) (tt:=cW ct) (d:=d) (k':=k) (m':=m) (tt':=cW ct) (d':=d) h hp (by omega) hb;refine bN ?_;unfold zFJ;simp only;cases is
 ·
  refine ent aC aK Tryz.func182 rfl rfl fun X0 hX=>?_;simp only [Tryz.f182,go_sem]
  repeat' (simp only [*,go_sem,Nat.reduceLT,Nat.reduceEqDiff,↓reduceIte,Bool.not_false])
  all_goals exact .inr ⟨_,rfl⟩
 ·cases h0:(p == [])
  ·cases hk:(ck == 10)
   ·
    refine ent aC aK Tryz.func182 rfl rfl fun X0 hX=>?_;simp only [Tryz.f182,go_sem]
    repeat' (first|simp only [*,go_sem,Nat.reduceLT,Nat.reduceLeDiff,Nat.reduceEqDiff,↓reduceIte,Nat.reduceAdd,Bool.not_true]|((with_reducible refine aQ (iP) ?_ ?_ ?_);exact rfl;exact rfl)|((with_reducible refine aQ (cV ct) ?_ ?_ ?_);exact rfl;exact rfl)|((with_reducible refine cH (hputt) ?_ ?_ ?_);exact rfl;exact fun _=>rfl))
   ·cases hm:iN cm
    ·
     refine ent aC aK Tryz.func182 rfl rfl fun X0 hX=>?_;simp only [Tryz.f182,go_sem]
     repeat' (first|simp only [*,go_sem,Nat.reduceLT,Nat.reduceLeDiff,Nat.reduceEqDiff,↓reduceIte,Nat.reduceAdd,Bool.not_true,Bool.not_false]|((with_reducible refine aQ (iP) ?_ ?_ ?_);exact rfl;exact rfl)|((with_reducible refine aQ (eE) ?_ ?_ ?_);exact rfl;exact rfl))
     all_goals exact .inr ⟨_,rfl⟩
    ·
     refine ent aC aK Tryz.func182 rfl rfl fun X0 hX=>?_;simp only [Tryz.f182,go_sem]
     repeat' (first|simp only [*,go_sem,Nat.reduceLT,Nat.reduceLeDiff,Nat.reduceEqDiff,↓reduceIte,Nat.reduceAdd,Bool.not_true]|((with_reducible refine aQ (iP) ?_ ?_ ?_);exact rfl;exact rfl)|((with_reducible refine aQ (eE) ?_ ?_ ?_);exact rfl;exact rfl)|((with_reducible refine cH (hputm) ?_ ?_ ?_);exact rfl;exact fun _=>rfl))
  ·
   refine ent aC aK Tryz.func182 rfl rfl fun X0 hX=>?_;simp only [Tryz.f182,go_sem]
   repeat' (first|simp only [*,go_sem,Nat.reduceLT,Nat.reduceLeDiff,Nat.reduceEqDiff,↓reduceIte,Nat.reduceAdd,Bool.not_true]|((with_reducible refine aQ (iP) ?_ ?_ ?_);exact rfl;exact rfl))
   all_goals exact .inr ⟨_,rfl⟩
theorem zIR {q:List UInt8} {is':Bool} {k' m':Int} {tt':Nat} {d':List UInt8} (h:OkT t):
  aA Tryz.prog 245 [.agg (plc t p true k m tt d),.agg (plc t q is' k' m' tt' d')] [] fun r h =>
   r=.c (.p (.i .i64 (TB (k == 2) t q is' ⟨k',m',tt',d'⟩)))∧h=[]:=by
 have hnm:=CI (p:=q) h;unfold TB NT;generalize gA t q=N at hnm ⊢;cases is'
 ·
  refine ent aC aK Tryz.func245 rfl rfl fun X0 hX=>?_;simp only [Tryz.f245,go_sem]
  repeat' (simp only [*,go_sem,Nat.reduceLT,Nat.reduceEqDiff,↓reduceIte,Bool.not_false])
 ·cases hk:(k == 2)
  ·cases hk':(k' == 2)
   ·
    refine ent aC aK Tryz.func245 rfl rfl fun X0 hX=>?_;simp only [Tryz.f245,go_sem]
    repeat' (first|simp only [*,go_sem,Nat.reduceLT,Nat.reduceLeDiff,Nat.reduceEqDiff,↓reduceIte,Nat.reduceAdd,Bool.not_true,Bool.not_false]|((with_reducible refine aQ (dG) ?_ ?_ ?_);exact rfl;exact rfl))
   ·
    refine ent aC aK Tryz.func245 rfl rfl fun X0 hX=>?_;simp only [Tryz.f245,go_sem]
    repeat' (first|simp only [*,go_sem,Nat.reduceLT,Nat.reduceLeDiff,Nat.reduceEqDiff,↓reduceIte,Nat.reduceAdd,Bool.not_true,Bool.not_false]|((with_reducible refine aQ (dG) ?_ ?_ ?_);exact rfl;exact rfl))
  ·cases hk':(k' == 2)
   ·
    refine ent aC aK Tryz.func245 rfl rfl fun X0 hX=>?_;simp only [Tryz.f245,go_sem]
    repeat' (first|simp only [*,go_sem,Nat.reduceLT,Nat.reduceLeDiff,Nat.reduceEqDiff,↓reduceIte,Nat.reduceAdd,Bool.not_true,Bool.not_false]|((with_reducible refine aQ (dG) ?_ ?_ ?_);exact rfl;exact rfl))
   ·cases hn:decide ((0:Int)<(N.length:Int))
    ·
     refine ent aC aK Tryz.func245 rfl rfl fun X0 hX=>?_;simp only [Tryz.f245,go_sem]
     repeat' (first|simp only [*,go_sem,Nat.reduceLT,Nat.reduceLeDiff,Nat.reduceEqDiff,↓reduceIte,Nat.reduceAdd,Bool.not_true]|((with_reducible refine aQ (dG) ?_ ?_ ?_);exact rfl;exact rfl)|((with_reducible refine cH (hnm) ?_ ?_ ?_);exact rfl;exact fun _=>rfl))
    ·
     refine ent aC aK Tryz.func245 rfl rfl fun X0 hX=>?_;simp only [Tryz.f245,go_sem]
     repeat' (first|simp only [*,go_sem,Nat.reduceLT,Nat.reduceLeDiff,Nat.reduceEqDiff,↓reduceIte,Nat.reduceAdd,Bool.not_true]|((with_reducible refine aQ (dG) ?_ ?_ ?_);exact rfl;exact rfl)|((with_reducible refine cH (hnm) ?_ ?_ ?_);exact rfl;exact fun _=>rfl))
end places
end Go.Proofs.YtlbfnbldeefgmaaGreatDoor
end
section
namespace Go.Proofs.YtlbfnbldeefgmaaGreatDoor
open Go Go.Dm Go.Proofs
set_option maxRecDepth 100000
set_option maxHeartbeats 8000000
theorem OkT.node {t:List It} (h:OkT t) (p:List UInt8):(nodeAt t p).d.length≤2000∧(nodeAt t p).t<18446744073709551616:=by
 unfold nodeAt;split
 ·exact ⟨by simp,by simp⟩
 ·exact ⟨h.getd p,h.gett p⟩
section places
variable {t:List It} {p:List UInt8} {is:Bool} {k m:Int} {tt:Nat} {d:List UInt8}
theorem zEB {to':List UInt8} (h:OkT t) (hp:p.length≤1000000000) (hs:to'.length≤9223372036854775807):
  aA Tryz.prog 183 [.agg (plc t p is k m tt d),.c (.p (.s to'))] [] fun r h =>
   r=.tup [.c (.p (.sl 5 (aZ (oK t p is ⟨k,m,tt,d⟩ to').1))),.c (.p (.i .i64 (oK t p is ⟨k,m,tt,d⟩ to').2))]∧h=[]:=by
 have htl:=h.len;have hwk:=zFV (s:=to') (fo:=false) h hs;have hql:=JQ (t:=t) (s:=to') (fo:=false);refine bN ?_;unfold oK;generalize cF t to' false=W at hwk hql ⊢;obtain ⟨q,is',e⟩:=W;simp only at hwk hql ⊢;cases is
 ·
  refine ent aC aK Tryz.func183 rfl rfl fun X0 hX=>?_;simp only [Tryz.f183,go_sem]
  repeat' (simp only [*,go_sem,Nat.reduceLT,Nat.reduceEqDiff,↓reduceIte,Bool.not_false])
  all_goals exact .inr ⟨_,rfl⟩
 ·cases q0:(e == 0)
  ·have q1:(e != 0)=true:=by rw [bne,q0];rfl
   refine ent aC aK Tryz.func183 rfl rfl fun X0 hX=>?_;simp only [Tryz.f183,go_sem]
   repeat' (first|simp only [*,go_sem,Nat.reduceLT,Nat.reduceEqDiff,↓reduceIte,Bool.not_true]|((with_reducible refine cH (hwk) ?_ ?_ ?_);exact rfl;exact fun _=>rfl))
   all_goals exact .inr ⟨_,rfl⟩
  ·have he:=eq_of_beq q0;subst he;have hat:=zKA (p:=q) (is:=is') h (by omega);have hon:=zIR (p:=p) (k:=k) (m:=m) (tt:=tt) (d:=d) (q:=q) (is':=is') (k':=(nodeAt t q).k) (m':=(nodeAt t q).m) (tt':=(nodeAt t q).t) (d':=(nodeAt t q).d) h;have eta:(⟨(nodeAt t q).k,(nodeAt t q).m,(nodeAt t q).t,(nodeAt t q).d⟩:Nd)=nodeAt t q:=rfl;rw [eta] at hon;have hdp:NT true ⟨k,m,tt,d⟩=(k == 2):=rfl;rw [hdp];clear eta hdp;have hcp:=uF (t:=t) (by omega) fun x hx=>Nat.le_trans (h.dlen x hx) (by decide);have hrm:=mR (t:=t) (p:=q) (by omega) (by omega) fun x hx=>Nat.le_trans (h.dlen x hx) (by decide);have hmv:=zIJ (t:=bR t q) (a:=p) (b:=q) (h.remove q) hp (by omega);generalize TB (k == 2) t q is' (nodeAt t q)=O at hon ⊢;generalize nodeAt t q=n at hat hon;obtain ⟨k1,m1,t1,d1⟩:=n;simp only at hat hon;generalize mE (bR t q) p q=M at hmv ⊢;cases hz:(p == [])
   ·cases hz2:(q == [])
    ·cases hpq:(p == q)
     ·cases hbl:aM p q
      ·cases ho:(O == 0)
       ·have ho2:(O != 0)=true:=by rw [bne,ho];rfl
        refine ent aC aK Tryz.func183 rfl rfl fun X0 hX=>?_;simp only [Tryz.f183,go_sem]
        repeat' (first|simp only [*,go_sem,Nat.reduceLT,Nat.reduceLeDiff,Nat.reduceEqDiff,↓reduceIte,Nat.reduceAdd,bne_self_eq_false,Bool.not_true]|((with_reducible refine cH (hwk) ?_ ?_ ?_);exact rfl;exact fun _=>rfl)|((with_reducible refine cH (hat) ?_ ?_ ?_);exact rfl;exact fun _=>rfl)|((with_reducible refine aQ (iP) ?_ ?_ ?_);exact rfl;exact rfl)|((with_reducible refine aQ (cE hp) ?_ ?_ ?_);exact rfl;exact rfl)|((with_reducible refine aQ (hon) ?_ ?_ ?_);exact rfl;exact rfl))
        all_goals exact .inr ⟨_,rfl⟩
       ·have ho:=eq_of_beq ho;subst ho;refine ent aC aK Tryz.func183 rfl rfl fun X0 hX=>?_;simp only [Tryz.f183,go_sem]
        repeat' (first|simp only [*,go_sem,Nat.reduceLT,Nat.reduceLeDiff,Nat.reduceEqDiff,↓reduceIte,Nat.reduceAdd,bne_self_eq_false,Bool.not_true]|((with_reducible refine cH (hwk) ?_ ?_ ?_);exact rfl;exact fun _=>rfl)|((with_reducible refine cH (hat) ?_ ?_ ?_);exact rfl;exact fun _=>rfl)|((with_reducible refine aQ (iP) ?_ ?_ ?_);exact rfl;exact rfl)|((with_reducible refine aQ (cE hp) ?_ ?_ ?_);exact rfl;exact rfl)|((with_reducible refine aQ (hon) ?_ ?_ ?_);exact rfl;exact rfl)|((refine aO (id:=16) aC aK [] [0,1,2,3,4,5,6,7,8,9,10,11,12,13] (by decide +kernel) ?_);(repeat' (first|(refine bC ?_)|((refine dF ?_ rfl rfl ?_ ?_);(rotate_left 1);(focus ((repeat' (first|simp only [*,go_sem,Nat.reduceLT,Nat.reduceEqDiff,↓reduceIte,]|((with_reducible refine cH (hrm) ?_ ?_ ?_);exact rfl;exact fun _=>rfl)|((with_reducible refine cH (hmv) ?_ ?_ ?_);exact rfl;exact fun _=>rfl)));exact rfl));(simp only [aF]))))))
      ·
       refine ent aC aK Tryz.func183 rfl rfl fun X0 hX=>?_;simp only [Tryz.f183,go_sem]
       repeat' (first|simp only [*,go_sem,Nat.reduceLT,Nat.reduceLeDiff,Nat.reduceEqDiff,↓reduceIte,Nat.reduceAdd,bne_self_eq_false,Bool.not_true]|((with_reducible refine cH (hwk) ?_ ?_ ?_);exact rfl;exact fun _=>rfl)|((with_reducible refine cH (hat) ?_ ?_ ?_);exact rfl;exact fun _=>rfl)|((with_reducible refine aQ (iP) ?_ ?_ ?_);exact rfl;exact rfl)|((with_reducible refine aQ (cE hp) ?_ ?_ ?_);exact rfl;exact rfl))
       all_goals exact .inr ⟨_,rfl⟩
     ·
      refine ent aC aK Tryz.func183 rfl rfl fun X0 hX=>?_;simp only [Tryz.f183,go_sem]
      repeat' (first|simp only [*,go_sem,Nat.reduceLT,Nat.reduceLeDiff,Nat.reduceEqDiff,↓reduceIte,Nat.reduceAdd,bne_self_eq_false,Bool.not_true]|((with_reducible refine cH (hwk) ?_ ?_ ?_);exact rfl;exact fun _=>rfl)|((with_reducible refine cH (hat) ?_ ?_ ?_);exact rfl;exact fun _=>rfl)|((with_reducible refine aQ (iP) ?_ ?_ ?_);exact rfl;exact rfl)|refine zCc hcp rfl ?_)
    ·
     refine ent aC aK Tryz.func183 rfl rfl fun X0 hX=>?_;simp only [Tryz.f183,go_sem]
     repeat' (first|simp only [*,go_sem,Nat.reduceLT,Nat.reduceLeDiff,Nat.reduceEqDiff,↓reduceIte,Nat.reduceAdd,bne_self_eq_false,Bool.not_true]|((with_reducible refine cH (hwk) ?_ ?_ ?_);exact rfl;exact fun _=>rfl)|((with_reducible refine cH (hat) ?_ ?_ ?_);exact rfl;exact fun _=>rfl)|((with_reducible refine aQ (iP) ?_ ?_ ?_);exact rfl;exact rfl))
     all_goals exact .inr ⟨_,rfl⟩
   ·
    refine ent aC aK Tryz.func183 rfl rfl fun X0 hX=>?_;simp only [Tryz.f183,go_sem]
    repeat' (first|simp only [*,go_sem,Nat.reduceLT,Nat.reduceLeDiff,Nat.reduceEqDiff,↓reduceIte,Nat.reduceAdd,bne_self_eq_false,Bool.not_true]|((with_reducible refine cH (hwk) ?_ ?_ ?_);exact rfl;exact fun _=>rfl)|((with_reducible refine cH (hat) ?_ ?_ ?_);exact rfl;exact fun _=>rfl)|((with_reducible refine aQ (iP) ?_ ?_ ?_);exact rfl;exact rfl))
    all_goals exact .inr ⟨_,rfl⟩
theorem CP {ck:Int} {cp cq:List UInt8} {cm:Int} {ct:Nat} {ca cn:Int} {cd:List UInt8} (h:OkT t) (hp:p.length≤1000000000) (hd:d.length≤2000) (ht:tt<18446744073709551616) (hct:ct<18446744073709551616)
  (hcd:cd.length≤140737488355328) (hcq:cq.length≤9223372036854775807) (hca:-9223372036854775808≤ca∧ca≤9223372036854775807):
  aA Tryz.prog 104 [.agg (plc t p is k m tt d),.agg (clc ck cp cq cm ct ca cn cd)] [] fun r h =>
   r=.tup [.c (.p (.sl 5 (aZ (bU t p is ⟨k,m,tt,d⟩ ⟨ck,cp,cq,cm,ct,ca,cn,cd⟩).1))),.c (.p (.i .i64 (bU t p is ⟨k,m,tt,d⟩ ⟨ck,cp,cq,cm,ct,ca,cn,cd⟩).2))]∧h=[]:=by
 have htl:=h.len;have hmk:=fun (kind:Int) (hk:kind=1∨kind=2∨kind=3)=>zIH (is:=is) (k:=k) (m:=m) (tt:=tt) (d:=d) (kind:=kind) (ck:=ck) (cp:=cp) (cq:=cq) (cm:=cm) (ca:=ca) (cn:=cn) h hp hcd hct hk;have hrd:=zHd (is:=is) (k:=k) (m:=m) (tt:=tt) (d:=d) h hp;have hst:=zKh (is:=is) (k:=k) (m:=m) (ck:=ck) (cp:=cp) (cq:=cq) (cm:=cm) (ca:=ca) (cn:=cn) (cd:=cd) h hp hd ht hct;have hrn:=zEB (is:=is) (k:=k) (m:=m) (tt:=tt) (d:=d) h hp hcq;have hfi:=zFt (t:=t) (p:=p) (is:=is) (k:=k) (m:=m) (tt:=tt) (d:=d);have hwr:=zHR (is:=is) (k:=k) (m:=m) (b:=cd) h hp hd ht hca hcd;have htr:=zHC (is:=is) (k:=k) (m:=m) (n:=cn) h hp hd ht;have hrm:=mR (t:=t) (p:=p) hp (by omega) fun x hx=>Nat.le_trans (h.dlen x hx) (by decide);refine bN ?_;unfold bU;simp only;generalize sX t p is=MK at hmk ⊢;generalize wR t p is ⟨k,m,tt,d⟩=RD at hrd ⊢;generalize zFJ t p is ⟨k,m,tt,d⟩ ⟨ck,cp,cq,cm,ct,ca,cn,cd⟩=ST at hst ⊢;generalize oK t p is ⟨k,m,tt,d⟩ cq=RN at hrn ⊢;generalize rF is ⟨k,m,tt,d⟩=FI at hfi ⊢;generalize xK t p ⟨k,m,tt,d⟩ ca cd=WR at hwr ⊢;generalize xG t p ⟨k,m,tt,d⟩ cn=TR at htr ⊢;cases k1:(ck == 1)
 ·cases k2:(ck == 2)
  ·cases k7:(ck == 7)
   ·cases k6:(ck == 6)
    ·cases k10:(ck == 10)
     ·cases k11:(ck == 11)
      ·cases k9:(ck == 9)
       ·cases hf:(FI == 0)
        ·have hf2:(FI != 0)=true:=by rw [bne,hf];rfl
         refine ent aC aK Tryz.func104 rfl rfl fun X0 hX=>?_;simp only [Tryz.f104,go_sem]
         repeat' (first|simp only [*,go_sem,Nat.reduceLT,Nat.reduceLeDiff,Nat.reduceEqDiff,↓reduceIte,Nat.reduceAdd,]|((with_reducible refine aQ (hfi) ?_ ?_ ?_);exact rfl;exact rfl))
         all_goals exact .inr ⟨_,rfl⟩
        ·have hf:=eq_of_beq hf;subst hf;cases k3:(ck == 3)
         ·cases k4:(ck == 4)
          ·
           refine ent aC aK Tryz.func104 rfl rfl fun X0 hX=>?_;simp only [Tryz.f104,go_sem]
           repeat' (first|simp only [*,go_sem,Nat.reduceLT,Nat.reduceLeDiff,Nat.reduceEqDiff,↓reduceIte,Nat.reduceAdd,bne_self_eq_false,]|((with_reducible refine aQ (hfi) ?_ ?_ ?_);exact rfl;exact rfl)|((with_reducible refine cH (hrm) ?_ ?_ ?_);exact rfl;exact fun _=>rfl))
          ·
           refine ent aC aK Tryz.func104 rfl rfl fun X0 hX=>?_;simp only [Tryz.f104,go_sem]
           repeat' (first|simp only [*,go_sem,Nat.reduceLT,Nat.reduceLeDiff,Nat.reduceEqDiff,↓reduceIte,Nat.reduceAdd,bne_self_eq_false,]|((with_reducible refine aQ (hfi) ?_ ?_ ?_);exact rfl;exact rfl)|((with_reducible refine cH (htr) ?_ ?_ ?_);exact rfl;exact fun _=>rfl))
         ·
          refine ent aC aK Tryz.func104 rfl rfl fun X0 hX=>?_;simp only [Tryz.f104,go_sem]
          repeat' (first|simp only [*,go_sem,Nat.reduceLT,Nat.reduceLeDiff,Nat.reduceEqDiff,↓reduceIte,Nat.reduceAdd,bne_self_eq_false,]|((with_reducible refine aQ (hfi) ?_ ?_ ?_);exact rfl;exact rfl)|((with_reducible refine cH (hwr) ?_ ?_ ?_);exact rfl;exact fun _=>rfl))
       ·
        refine ent aC aK Tryz.func104 rfl rfl fun X0 hX=>?_;simp only [Tryz.f104,go_sem]
        repeat' (first|simp only [*,go_sem,Nat.reduceLT,Nat.reduceLeDiff,Nat.reduceEqDiff,↓reduceIte,Nat.reduceAdd,]|((with_reducible refine cH (hrn) ?_ ?_ ?_);exact rfl;exact fun _=>rfl))
      ·
       refine ent aC aK Tryz.func104 rfl rfl fun X0 hX=>?_;simp only [Tryz.f104,go_sem]
       repeat' (first|simp only [*,go_sem,Nat.reduceLT,Nat.reduceLeDiff,Nat.reduceEqDiff,↓reduceIte,Nat.reduceAdd,]|((with_reducible refine cH (hst) ?_ ?_ ?_);exact rfl;exact fun _=>rfl))
     ·
      refine ent aC aK Tryz.func104 rfl rfl fun X0 hX=>?_;simp only [Tryz.f104,go_sem]
      repeat' (first|simp only [*,go_sem,Nat.reduceLT,Nat.reduceLeDiff,Nat.reduceEqDiff,↓reduceIte,Nat.reduceAdd,]|((with_reducible refine cH (hst) ?_ ?_ ?_);exact rfl;exact fun _=>rfl))
    ·
     refine ent aC aK Tryz.func104 rfl rfl fun X0 hX=>?_;simp only [Tryz.f104,go_sem]
     repeat' (first|simp only [*,go_sem,Nat.reduceLT,Nat.reduceLeDiff,Nat.reduceEqDiff,↓reduceIte,Nat.reduceAdd,]|((with_reducible refine cH (hrd) ?_ ?_ ?_);exact rfl;exact fun _=>rfl))
   ·have hm:=hmk 3 (by simp);refine ent aC aK Tryz.func104 rfl rfl fun X0 hX=>?_;simp only [Tryz.f104,go_sem]
    repeat' (first|simp only [*,go_sem,Nat.reduceLT,Nat.reduceLeDiff,Nat.reduceEqDiff,↓reduceIte,Nat.reduceAdd,]|((with_reducible refine cH (hm) ?_ ?_ ?_);exact rfl;exact fun _=>rfl))
  ·have hm:=hmk 1 (by simp);refine ent aC aK Tryz.func104 rfl rfl fun X0 hX=>?_;simp only [Tryz.f104,go_sem]
   repeat' (first|simp only [*,go_sem,Nat.reduceLT,Nat.reduceLeDiff,Nat.reduceEqDiff,↓reduceIte,Nat.reduceAdd,]|((with_reducible refine cH (hm) ?_ ?_ ?_);exact rfl;exact fun _=>rfl))
 ·have hm:=hmk 2 (by simp);refine ent aC aK Tryz.func104 rfl rfl fun X0 hX=>?_;simp only [Tryz.f104,go_sem]
  repeat' (first|simp only [*,go_sem,Nat.reduceLT,Nat.reduceLeDiff,Nat.reduceEqDiff,↓reduceIte,Nat.reduceAdd,]|((with_reducible refine cH (hm) ?_ ?_ ?_);exact rfl;exact fun _=>rfl))
end places
end Go.Proofs.YtlbfnbldeefgmaaGreatDoor
end
