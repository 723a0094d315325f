/- Part 40 of the proof of roomAsks_card, set without needless blanks. No condition. -/
import Derived.Test.YtlbfnbldeefgmaaGreatDoorA38
set_option linter.all false
section
namespace Go.Proofs.YtlbfnbldeefgmaaGreatDoor
open Go Go.Dm Go.Proofs
set_option maxRecDepth 100000
set_option maxHeartbeats 8000000
section places
variable {t:List It} {p:List UInt8} {is:Bool} {k m:Int} {tt:Nat} {d:List UInt8}
theorem zKw {n:Int} (h:OkT t) (hp:p.length≤1000000000) (hd:d.length≤2000) (ht:tt<18446744073709551616):
  aA Tryz.prog 186 [.agg (plc t p is k m tt d),.c (.p (.i .i64 n))] [] fun r h =>
   r=.tup [.c (.p (.sl 5 (aU (AG t p ⟨k,m,tt,d⟩ n).1))),.c (.p (.i .i64 (AG t p ⟨k,m,tt,d⟩ n).2))]∧h=[]:=by
 refine bK ?_;unfold AG;simp only;cases h0:decide (n<0)
 ·obtain ⟨f,rfl⟩:∃ f:Nat,n=f:=⟨n.toNat,by simp at h0;omega⟩
  rw [Int.toNat_natCast];cases h1:decide ((d.length:Int)<(f:Int))
  ·have h1':f≤d.length:=by simp at h1;omega
   have hf0:(0:Int)≤(f:Int):=by omega
   have hfl:(f:Int)≤(d.length:Int):=by omega
   have htl:(d.take f).length≤140737488355328:=by rw [List.length_take];omega
   have hput:=gO (is:=is) (k:=k) (m:=m) (tt:=tt) (d:=d.take f) (k':=k) (m':=m) (tt':=tt) (d':=d.take f) h hp htl ht;refine ent aB aK Tryz.func186 rfl rfl fun X0 hX=>?_;simp only [Tryz.f186,go_sem]
   repeat' (first|exact ⟨⟩|refine sp ?_|refine uN (hput) ?_)
  ·
   refine ent aB aK Tryz.func186 rfl rfl fun X0 hX=>?_;simp only [Tryz.f186,go_sem]
   repeat' (first|exact ⟨⟩|refine sp ?_)
   all_goals exact .inr ⟨_,rfl⟩
 ·
  refine ent aB aK Tryz.func186 rfl rfl fun X0 hX=>?_;simp only [Tryz.f186,go_sem]
  repeat' (first|exact ⟨⟩|refine sp ?_)
  all_goals exact .inr ⟨_,rfl⟩
theorem zKM {a:Int} {b:List UInt8} (h:OkT t) (hp:p.length≤1000000000) (hd:d.length≤2000) (ht:tt<18446744073709551616) (ha:-9223372036854775808≤a∧a≤9223372036854775807) (hb:b.length≤140737488355328):
  aA Tryz.prog 185 [.agg (plc t p is k m tt d),.c (.p (.i .i64 a)),.c (.p (.sl 1 (bO b)))] [] fun r h =>
   r=.tup [.c (.p (.sl 5 (aU (AM t p ⟨k,m,tt,d⟩ a b).1))),.c (.p (.i .i64 (AM t p ⟨k,m,tt,d⟩ a b).2))]∧h=[]:=by
 refine bK ?_;unfold AM;simp only;cases h0:decide (a<0)
 ·obtain ⟨f,rfl⟩:∃ f:Nat,a=f:=⟨a.toNat,by simp at h0;omega⟩
  rw [Int.toNat_natCast];cases h1:decide ((d.length:Int)<(f:Int))
  ·have h1':f≤d.length:=by simp at h1;omega
   have hf0:(0:Int)≤(f:Int):=by omega
   have hfl:(f:Int)≤(d.length:Int):=by omega
   have w1:IntKind.i64.wrap (2000-(f:Int))=2000-(f:Int):=wrap_i64 (by omega) (by omega);cases h2:decide (2000-(f:Int)<(b.length:Int))
   ·have h2':f+b.length≤2000:=by simp at h2;omega
    have htk:(d.take f).length=f:=by rw [List.length_take];omega
    have hcc:=YD (a:=d.take f) (b:=b) (by omega) (by omega);rw [htk] at hcc;have hwl:(wrD d f b).length≤140737488355328:=Nat.le_trans (zE9 hd h1' h2') (by decide);have hput:=gO (is:=is) (k:=k) (m:=m) (tt:=tt) (d:=wrD d f b) (k':=k) (m':=m) (tt':=tt) (d':=wrD d f b) h hp hwl ht;have hal:(d.take f++b).length=f+b.length:=by rw [List.length_append,htk]
    cases h3:decide (((f+b.length:Nat):Int)<(d.length:Int))
    ·have e1:wrD d f b=(d.take f++b).take (f+b.length):=by
      have:¬ f+b.length<d.length:=by simp at h3;omega
      unfold wrD;rw [List.drop_of_length_le (by omega),List.append_nil,List.take_of_length_le (l:=d.take f++b) (by omega)]
     rw [e1] at hput ⊢;refine ent aB aK Tryz.func185 rfl rfl fun X0 hX=>?_;simp only [Tryz.f185,go_sem]
     repeat' (first|exact ⟨⟩|refine sp ?_|refine zER hcc rfl ?_|refine uN (hput) ?_|((with_reducible apply aA.frz);exact rfl;exact rfl)|((with_reducible refine And.intro ?_ ?_);decide))
    ·have h4:f+b.length≤d.length:=by simp at h3;omega
     have h5:((f+b.length:Nat):Int)≤(d.length:Int):=by omega
     have h6:(0:Int)≤((f+b.length:Nat):Int):=by omega
     have hdl:(d.drop (f+b.length)).length=d.length-(f+b.length):=List.length_drop;have e2:wrD d f b=(d.take f++b++d.drop (f+b.length)).take (f+b.length+(d.length-(f+b.length))):=by
      unfold wrD;rw [List.take_of_length_le (l:=d.take f++b++d.drop (f+b.length)) (by rw [List.length_append,hal,hdl];omega)]
     rw [e2] at hput ⊢;refine ent aB aK Tryz.func185 rfl rfl fun X0 hX=>?_;simp only [Tryz.f185,go_sem]
     repeat' (first|exact ⟨⟩|refine sp ?_|refine zER hcc rfl ?_|((refine aN (id:=8) aB aK [9,12] [0,1,2,3,4,5,6,7,8,9,10,11,12] (by decide +kernel) ?_);(repeat' (first|(refine aT ?_)|((refine cV ?_ ?_ rfl rfl rfl ?_ ?_);(rotate_left 2);(focus ((repeat' (first|exact ⟨⟩|refine sp ?_|((with_reducible refine And.intro ?_ ?_);omega)));((refine And.intro ?_ ?_ <;> exact rfl))));(simp only [aG,bI]))|((refine cU ?_ rfl rfl rfl ?_ ?_);(rotate_left 1);(focus ((repeat' (first|exact bG|refine aZ ?_ ?_));(all_goals ((repeat' (first|exact ⟨⟩|refine sp ?_|((with_reducible refine And.intro ?_ ?_);omega)));(try (exact rfl))))));(simp only [aG])))))|refine uN (hput) ?_|((with_reducible apply aA.frz);exact rfl;exact rfl)|((with_reducible refine And.intro ?_ ?_);decide))
   ·
    refine ent aB aK Tryz.func185 rfl rfl fun X0 hX=>?_;simp only [Tryz.f185,go_sem]
    repeat' (first|exact ⟨⟩|refine sp ?_)
    all_goals exact .inr ⟨_,rfl⟩
  ·
   refine ent aB aK Tryz.func185 rfl rfl fun X0 hX=>?_;simp only [Tryz.f185,go_sem]
   repeat' (first|exact ⟨⟩|refine sp ?_)
   all_goals exact .inr ⟨_,rfl⟩
 ·
  refine ent aB aK Tryz.func185 rfl rfl fun X0 hX=>?_;simp only [Tryz.f185,go_sem]
  repeat' (first|exact ⟨⟩|refine sp ?_)
  all_goals exact .inr ⟨_,rfl⟩
theorem zJ4 (h:OkT t) (hp:p.length≤1000000000):
  aA Tryz.prog 181 [.agg (plc t p is k m tt d)] [] fun r h =>
   r=.tup [.c (.p (.sl 5 (aU (zL t p is ⟨k,m,tt,d⟩).1))),.c (.p (.i .i64 (zL t p is ⟨k,m,tt,d⟩).2))]∧h=[]:=by
 have htl:=h.len;have hnm:=FZ (p:=p) h;have hrm:=nZ (t:=t) (p:=p) hp (by omega) fun x hx=>Nat.le_trans (h.dlen x hx) (by decide);refine bK ?_;unfold zL VE;generalize fR t p=N at hnm ⊢;cases h0:(p == [])
 ·cases is
  ·
   refine ent aB aK Tryz.func181 rfl rfl fun X0 hX=>?_;simp only [Tryz.f181,go_sem]
   repeat' (first|exact ⟨⟩|refine sq ?_|refine uF (jF) ?_)
   all_goals exact .inr ⟨_,rfl⟩
  ·cases hk:(k == 2)
   ·
    refine ent aB aK Tryz.func181 rfl rfl fun X0 hX=>?_;simp only [Tryz.f181,go_sem]
    repeat' (first|exact ⟨⟩|refine sq ?_|refine uF (jF) ?_|refine uF (dH) ?_)
    all_goals exact .inr ⟨_,rfl⟩
   ·cases hn:decide ((0:Int)<(N.length:Int))
    ·
     refine ent aB aK Tryz.func181 rfl rfl fun X0 hX=>?_;simp only [Tryz.f181,go_sem]
     repeat' (first|exact ⟨⟩|refine sq ?_|refine uF (jF) ?_|refine uF (dH) ?_|refine uN (hnm) ?_|refine uN (hrm) ?_)
    ·
     refine ent aB aK Tryz.func181 rfl rfl fun X0 hX=>?_;simp only [Tryz.f181,go_sem]
     repeat' (first|exact ⟨⟩|refine sq ?_|refine uF (jF) ?_|refine uF (dH) ?_|refine uN (hnm) ?_)
     all_goals exact .inr ⟨_,rfl⟩
 ·
  refine ent aB aK Tryz.func181 rfl rfl fun X0 hX=>?_;simp only [Tryz.f181,go_sem]
  repeat' (first|exact ⟨⟩|refine sp ?_|refine uF (jF) ?_)
  all_goals exact .inr ⟨_,rfl⟩
theorem zNm {ck:Int} {cp cq:List UInt8} {cm:Int} {ct:Nat} {ca cn:Int} {cd:List UInt8} (h:OkT t) (hp:p.length≤1000000000) (hd:d.length≤2000) (ht:tt<18446744073709551616) (hct:ct<18446744073709551616):
  aA Tryz.prog 182 [.agg (plc t p is k m tt d),.agg (clc ck cp cq cm ct ca cn cd)] [] fun r h =>
   r=.tup [.c (.p (.sl 5 (aU (zIx t p is ⟨k,m,tt,d⟩ ⟨ck,cp,cq,cm,ct,ca,cn,cd⟩).1))),.c (.p (.i .i64 (zIx t p is ⟨k,m,tt,d⟩ ⟨ck,cp,cq,cm,ct,ca,cn,cd⟩).2))]∧h=[]:=by
 have hb:=oF hct;have hputm:=gO (is:=is) (k:=k) (m:=cm) (tt:=tt) (d:=d) (k':=k) (m':=cm) (tt':=tt) (d':=d) h hp (by omega) ht;have hputt:=gO (is:=is) (k:=k) (m:=m) (tt:=cY ct) (d:=d) (k':=k) (m':=m) (tt':=cY ct) (d':=d) h hp (by omega) hb;refine bK ?_;unfold zIx;simp only;cases is
 ·
  refine ent aB aK Tryz.func182 rfl rfl fun X0 hX=>?_;simp only [Tryz.f182,go_sem]
  repeat' (first|exact ⟨⟩|refine sq ?_)
  all_goals exact .inr ⟨_,rfl⟩
 ·cases h0:(p == [])
  ·cases hk:(ck == 10)
   ·
    refine ent aB aK Tryz.func182 rfl rfl fun X0 hX=>?_;simp only [Tryz.f182,go_sem]
    repeat' (first|exact ⟨⟩|refine sq ?_|refine uF (jF) ?_|refine uF (cX ct) ?_|refine uN (hputt) ?_)
   ·cases hm:jC cm
    ·
     refine ent aB aK Tryz.func182 rfl rfl fun X0 hX=>?_;simp only [Tryz.f182,go_sem]
     repeat' (first|exact ⟨⟩|refine sq ?_|refine uF (jF) ?_|refine uF (eL) ?_)
     all_goals exact .inr ⟨_,rfl⟩
    ·
     refine ent aB aK Tryz.func182 rfl rfl fun X0 hX=>?_;simp only [Tryz.f182,go_sem]
     repeat' (first|exact ⟨⟩|refine sq ?_|refine uF (jF) ?_|refine uF (eL) ?_|refine uN (hputm) ?_)
  ·
   refine ent aB aK Tryz.func182 rfl rfl fun X0 hX=>?_;simp only [Tryz.f182,go_sem]
   repeat' (first|exact ⟨⟩|refine sq ?_|refine uF (jF) ?_)
   all_goals exact .inr ⟨_,rfl⟩
theorem zLT {q:List UInt8} {is':Bool} {k' m':Int} {tt':Nat} {d':List UInt8} (h:OkT t):
  aA Tryz.prog 245 [.agg (plc t p true k m tt d),.agg (plc t q is' k' m' tt' d')] [] fun r h =>
   r=.c (.p (.i .i64 (ZY (k == 2) t q is' ⟨k',m',tt',d'⟩)))∧h=[]:=by
 have hnm:=FZ (p:=q) h;unfold ZY VE;generalize fR t q=N at hnm ⊢;cases is'
 ·
  refine ent aB aK Tryz.func245 rfl rfl fun X0 hX=>?_;simp only [Tryz.f245,go_sem]
  repeat' (first|exact ⟨⟩|refine sq ?_)
 ·cases hk:(k == 2)
  ·cases hk':(k' == 2)
   ·
    refine ent aB aK Tryz.func245 rfl rfl fun X0 hX=>?_;simp only [Tryz.f245,go_sem]
    repeat' (first|exact ⟨⟩|refine sq ?_|refine uF (dH) ?_)
   ·
    refine ent aB aK Tryz.func245 rfl rfl fun X0 hX=>?_;simp only [Tryz.f245,go_sem]
    repeat' (first|exact ⟨⟩|refine sq ?_|refine uF (dH) ?_)
  ·cases hk':(k' == 2)
   ·
    refine ent aB aK Tryz.func245 rfl rfl fun X0 hX=>?_;simp only [Tryz.f245,go_sem]
    repeat' (first|exact ⟨⟩|refine sq ?_|refine uF (dH) ?_)
   ·cases hn:decide ((0:Int)<(N.length:Int))
    ·
     refine ent aB aK Tryz.func245 rfl rfl fun X0 hX=>?_;simp only [Tryz.f245,go_sem]
     repeat' (first|exact ⟨⟩|refine sq ?_|refine uF (dH) ?_|refine uN (hnm) ?_)
    ·
     refine ent aB aK Tryz.func245 rfl rfl fun X0 hX=>?_;simp only [Tryz.f245,go_sem]
     repeat' (first|exact ⟨⟩|refine sq ?_|refine uF (dH) ?_|refine uN (hnm) ?_)
end places
end Go.Proofs.YtlbfnbldeefgmaaGreatDoor
end
section
namespace Go.Proofs.YtlbfnbldeefgmaaGreatDoor
open Go Go.Dm Go.Proofs
set_option maxRecDepth 100000
set_option maxHeartbeats 8000000
theorem OkT.node {t:List It} (h:OkT t) (p:List UInt8):(nodeAt t p).d.length≤2000∧(nodeAt t p).t<18446744073709551616:=by
 unfold nodeAt;split
 ·exact ⟨by simp,by simp⟩
 ·exact ⟨h.getd p,h.gett p⟩
section places
variable {t:List It} {p:List UInt8} {is:Bool} {k m:Int} {tt:Nat} {d:List UInt8}
theorem zHm {to':List UInt8} (h:OkT t) (hp:p.length≤1000000000) (hs:to'.length≤9223372036854775807):
  aA Tryz.prog 183 [.agg (plc t p is k m tt d),.c (.p (.s to'))] [] fun r h =>
   r=.tup [.c (.p (.sl 5 (aU (qD t p is ⟨k,m,tt,d⟩ to').1))),.c (.p (.i .i64 (qD t p is ⟨k,m,tt,d⟩ to').2))]∧h=[]:=by
 have htl:=h.len;have hwk:=zIH (s:=to') (fo:=false) h hs;have hql:=PA (t:=t) (s:=to') (fo:=false);refine bK ?_;unfold qD;generalize cF t to' false=W at hwk hql ⊢;obtain ⟨q,is',e⟩:=W;simp only at hwk hql ⊢;cases is
 ·
  refine ent aB aK Tryz.func183 rfl rfl fun X0 hX=>?_;simp only [Tryz.f183,go_sem]
  repeat' (first|exact ⟨⟩|refine sq ?_)
  all_goals exact .inr ⟨_,rfl⟩
 ·cases q0:(e == 0)
  ·have q1:(e != 0)=true:=by rw [bne,q0];rfl
   refine ent aB aK Tryz.func183 rfl rfl fun X0 hX=>?_;simp only [Tryz.f183,go_sem]
   repeat' (first|exact ⟨⟩|refine sq ?_|refine uN (hwk) ?_)
   all_goals exact .inr ⟨_,rfl⟩
  ·have he:=eq_of_beq q0;subst he;have hat:=zND (p:=q) (is:=is') h (by omega);have hon:=zLT (p:=p) (k:=k) (m:=m) (tt:=tt) (d:=d) (q:=q) (is':=is') (k':=(nodeAt t q).k) (m':=(nodeAt t q).m) (tt':=(nodeAt t q).t) (d':=(nodeAt t q).d) h;have eta:(⟨(nodeAt t q).k,(nodeAt t q).m,(nodeAt t q).t,(nodeAt t q).d⟩:Nd)=nodeAt t q:=rfl;rw [eta] at hon;have hdp:VE true ⟨k,m,tt,d⟩=(k == 2):=rfl;rw [hdp];clear eta hdp;have hcp:=xA (t:=t) (by omega) fun x hx=>Nat.le_trans (h.dlen x hx) (by decide);have hrm:=nZ (t:=t) (p:=q) (by omega) (by omega) fun x hx=>Nat.le_trans (h.dlen x hx) (by decide);have hmv:=zLK (t:=bU t q) (a:=p) (b:=q) (h.remove q) hp (by omega);generalize ZY (k == 2) t q is' (nodeAt t q)=O at hon ⊢;generalize nodeAt t q=n at hat hon;obtain ⟨k1,m1,t1,d1⟩:=n;simp only at hat hon;generalize nN (bU t q) p q=M at hmv ⊢;cases hz:(p == [])
   ·cases hz2:(q == [])
    ·cases hpq:(p == q)
     ·cases hbl:aP p q
      ·cases ho:(O == 0)
       ·have ho2:(O != 0)=true:=by rw [bne,ho];rfl
        refine ent aB aK Tryz.func183 rfl rfl fun X0 hX=>?_;simp only [Tryz.f183,go_sem]
        repeat' (first|exact ⟨⟩|refine sq ?_|refine uN (hwk) ?_|refine uN (hat) ?_|refine uF (jF) ?_|refine uF (cK hp) ?_|refine uF (hon) ?_)
        all_goals exact .inr ⟨_,rfl⟩
       ·have ho:=eq_of_beq ho;subst ho;refine ent aB aK Tryz.func183 rfl rfl fun X0 hX=>?_;simp only [Tryz.f183,go_sem]
        repeat' (first|exact ⟨⟩|refine sq ?_|refine uN (hwk) ?_|refine uN (hat) ?_|refine uF (jF) ?_|refine uF (cK hp) ?_|refine uF (hon) ?_|((refine aN (id:=16) aB aK [] [0,1,2,3,4,5,6,7,8,9,10,11,12,13] (by decide +kernel) ?_);(repeat' (first|(refine aT ?_)|((refine bV ?_ rfl rfl ?_ ?_);(rotate_left 1);(focus ((repeat' (first|exact ⟨⟩|refine sp ?_|refine uN (hrm) ?_|refine uN (hmv) ?_));exact rfl));(simp only [aG]))))))
      ·
       refine ent aB aK Tryz.func183 rfl rfl fun X0 hX=>?_;simp only [Tryz.f183,go_sem]
       repeat' (first|exact ⟨⟩|refine sq ?_|refine uN (hwk) ?_|refine uN (hat) ?_|refine uF (jF) ?_|refine uF (cK hp) ?_)
       all_goals exact .inr ⟨_,rfl⟩
     ·
      refine ent aB aK Tryz.func183 rfl rfl fun X0 hX=>?_;simp only [Tryz.f183,go_sem]
      repeat' (first|exact ⟨⟩|refine sq ?_|refine uN (hwk) ?_|refine uN (hat) ?_|refine uF (jF) ?_|refine zER hcp rfl ?_)
    ·
     refine ent aB aK Tryz.func183 rfl rfl fun X0 hX=>?_;simp only [Tryz.f183,go_sem]
     repeat' (first|exact ⟨⟩|refine sq ?_|refine uN (hwk) ?_|refine uN (hat) ?_|refine uF (jF) ?_)
     all_goals exact .inr ⟨_,rfl⟩
   ·
    refine ent aB aK Tryz.func183 rfl rfl fun X0 hX=>?_;simp only [Tryz.f183,go_sem]
    repeat' (first|exact ⟨⟩|refine sq ?_|refine uN (hwk) ?_|refine uN (hat) ?_|refine uF (jF) ?_)
    all_goals exact .inr ⟨_,rfl⟩
theorem GK {ck:Int} {cp cq:List UInt8} {cm:Int} {ct:Nat} {ca cn:Int} {cd:List UInt8} (h:OkT t) (hp:p.length≤1000000000) (hd:d.length≤2000) (ht:tt<18446744073709551616) (hct:ct<18446744073709551616)
  (hcd:cd.length≤140737488355328) (hcq:cq.length≤9223372036854775807) (hca:-9223372036854775808≤ca∧ca≤9223372036854775807):
  aA Tryz.prog 104 [.agg (plc t p is k m tt d),.agg (clc ck cp cq cm ct ca cn cd)] [] fun r h =>
   r=.tup [.c (.p (.sl 5 (aU (bY t p is ⟨k,m,tt,d⟩ ⟨ck,cp,cq,cm,ct,ca,cn,cd⟩).1))),.c (.p (.i .i64 (bY t p is ⟨k,m,tt,d⟩ ⟨ck,cp,cq,cm,ct,ca,cn,cd⟩).2))]∧h=[]:=by
 have htl:=h.len;have hmk:=fun (kind:Int) (hk:kind=1∨kind=2∨kind=3)=>zLH (is:=is) (k:=k) (m:=m) (tt:=tt) (d:=d) (kind:=kind) (ck:=ck) (cp:=cp) (cq:=cq) (cm:=cm) (ca:=ca) (cn:=cn) h hp hcd hct hk;have hrd:=zJ4 (is:=is) (k:=k) (m:=m) (tt:=tt) (d:=d) h hp;have hst:=zNm (is:=is) (k:=k) (m:=m) (ck:=ck) (cp:=cp) (cq:=cq) (cm:=cm) (ca:=ca) (cn:=cn) (cd:=cd) h hp hd ht hct;have hrn:=zHm (is:=is) (k:=k) (m:=m) (tt:=tt) (d:=d) h hp hcq;have hfi:=zIg (t:=t) (p:=p) (is:=is) (k:=k) (m:=m) (tt:=tt) (d:=d);have hwr:=zKM (is:=is) (k:=k) (m:=m) (b:=cd) h hp hd ht hca hcd;have htr:=zKw (is:=is) (k:=k) (m:=m) (n:=cn) h hp hd ht;have hrm:=nZ (t:=t) (p:=p) hp (by omega) fun x hx=>Nat.le_trans (h.dlen x hx) (by decide);refine bK ?_;unfold bY;simp only;generalize vN t p is=MK at hmk ⊢;generalize zL t p is ⟨k,m,tt,d⟩=RD at hrd ⊢;generalize zIx t p is ⟨k,m,tt,d⟩ ⟨ck,cp,cq,cm,ct,ca,cn,cd⟩=ST at hst ⊢;generalize qD t p is ⟨k,m,tt,d⟩ cq=RN at hrn ⊢;generalize pL is ⟨k,m,tt,d⟩=FI at hfi ⊢;generalize AM t p ⟨k,m,tt,d⟩ ca cd=WR at hwr ⊢;generalize AG t p ⟨k,m,tt,d⟩ cn=TR at htr ⊢;cases k1:(ck == 1)
 ·cases k2:(ck == 2)
  ·cases k7:(ck == 7)
   ·cases k6:(ck == 6)
    ·cases k10:(ck == 10)
     ·cases k11:(ck == 11)
      ·cases k9:(ck == 9)
       ·cases hf:(FI == 0)
        ·have hf2:(FI != 0)=true:=by rw [bne,hf];rfl
         refine ent aB aK Tryz.func104 rfl rfl fun X0 hX=>?_;simp only [Tryz.f104,go_sem]
         repeat' (first|exact ⟨⟩|refine sp ?_|refine uF (hfi) ?_)
         all_goals exact .inr ⟨_,rfl⟩
        ·have hf:=eq_of_beq hf;subst hf;cases k3:(ck == 3)
         ·cases k4:(ck == 4)
          ·
           refine ent aB aK Tryz.func104 rfl rfl fun X0 hX=>?_;simp only [Tryz.f104,go_sem]
           repeat' (first|exact ⟨⟩|refine sp ?_|refine uF (hfi) ?_|refine uN (hrm) ?_)
          ·
           refine ent aB aK Tryz.func104 rfl rfl fun X0 hX=>?_;simp only [Tryz.f104,go_sem]
           repeat' (first|exact ⟨⟩|refine sp ?_|refine uF (hfi) ?_|refine uN (htr) ?_)
         ·
          refine ent aB aK Tryz.func104 rfl rfl fun X0 hX=>?_;simp only [Tryz.f104,go_sem]
          repeat' (first|exact ⟨⟩|refine sp ?_|refine uF (hfi) ?_|refine uN (hwr) ?_)
       ·
        refine ent aB aK Tryz.func104 rfl rfl fun X0 hX=>?_;simp only [Tryz.f104,go_sem]
        repeat' (first|exact ⟨⟩|refine sp ?_|refine uN (hrn) ?_)
      ·
       refine ent aB aK Tryz.func104 rfl rfl fun X0 hX=>?_;simp only [Tryz.f104,go_sem]
       repeat' (first|exact ⟨⟩|refine sp ?_|refine uN (hst) ?_)
     ·
      refine ent aB aK Tryz.func104 rfl rfl fun X0 hX=>?_;simp only [Tryz.f104,go_sem]
      repeat' (first|exact ⟨⟩|refine sp ?_|refine uN (hst) ?_)
    ·
     refine ent aB aK Tryz.func104 rfl rfl fun X0 hX=>?_;simp only [Tryz.f104,go_sem]
     repeat' (first|exact ⟨⟩|refine sp ?_|refine uN (hrd) ?_)
   ·have hm:=hmk 3 (by simp);refine ent aB aK Tryz.func104 rfl rfl fun X0 hX=>?_;simp only [Tryz.f104,go_sem]
    repeat' (first|exact ⟨⟩|refine sp ?_|refine uN (hm) ?_)
  ·have hm:=hmk 1 (by simp);refine ent aB aK Tryz.func104 rfl rfl fun X0 hX=>?_;simp only [Tryz.f104,go_sem]
   repeat' (first|exact ⟨⟩|refine sp ?_|refine uN (hm) ?_)
 ·have hm:=hmk 2 (by simp);refine ent aB aK Tryz.func104 rfl rfl fun X0 hX=>?_;simp only [Tryz.f104,go_sem]
  repeat' (first|exact ⟨⟩|refine sp ?_|refine uN (hm) ?_)
end places
end Go.Proofs.YtlbfnbldeefgmaaGreatDoor
end
