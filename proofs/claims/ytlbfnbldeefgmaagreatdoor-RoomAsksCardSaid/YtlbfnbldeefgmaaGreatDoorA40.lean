/- Part 41 of the proof of roomAsks_card, set without needless blanks. No condition. -/
import Derived.Test.YtlbfnbldeefgmaaGreatDoorA39
set_option linter.all false
section
namespace Go.Proofs.YtlbfnbldeefgmaaGreatDoor
open Go Go.Dm Go.Proofs
set_option maxRecDepth 100000
set_option maxHeartbeats 8000000
section places
variable {t:List It} {p:List UInt8} {is:Bool} {k m:Int} {tt:Nat} {d:List UInt8}
abbrev anv (a:An):List CV:=anc a.e a.n.k a.n.m a.n.t a.n.d a.d a.l
theorem zLY {a n:Int} (hd:d.length≤2000):
  aA Tryz.prog 176 [.agg (plc t p is k m tt d),.c (.p (.i .i64 a)),.c (.p (.i .i64 n))] [] fun r h=>r=.agg (anv (rW is ⟨k,m,tt,d⟩ a n))∧h=[]:=by
 have hfi:=zIg (t:=t) (p:=p) (is:=is) (k:=k) (m:=m) (tt:=tt) (d:=d);refine bK ?_;unfold rW;generalize pL is ⟨k,m,tt,d⟩=FI at hfi ⊢;cases hf:(FI == 0)
 ·have hf2:(FI != 0)=true:=by rw [bne,hf];rfl
  refine ent aB aK Tryz.func176 rfl rfl fun X0 hX=>?_;simp only [Tryz.f176,go_sem]
  repeat' (first|exact ⟨⟩|refine sp ?_|refine uF (hfi) ?_)
  all_goals exact ⟨rfl,rfl,rfl,rfl,.inr ⟨_,rfl⟩,.inr ⟨_,rfl⟩,.inr ⟨_,rfl⟩⟩
 ·have hf:=eq_of_beq hf;subst hf;cases h1:decide (a<0)
  ·cases h2:decide (n<0)
   ·obtain ⟨f,rfl⟩:∃ f:Nat,a=f:=⟨a.toNat,by simp at h1;omega⟩
    obtain ⟨g,rfl⟩:∃ g:Nat,n=g:=⟨n.toNat,by simp at h2;omega⟩
    simp only [Int.toNat_natCast];have hf0:(0:Int)≤(f:Int):=by omega
    have hg0:(0:Int)≤(g:Int):=by omega
    by_cases hfd:f≤d.length
    ·have x1:¬ ((d.length:Int)<(f:Int)):=by omega
     have x3:(f:Int)≤(d.length:Int):=by omega
     have hel:(d.drop f).length≤2000:=by rw [List.length_drop];omega
     generalize he:d.drop f=e at hel ⊢;by_cases hge:g≤e.length
     ·have x2:¬ ((e.length:Int)<(g:Int)):=by omega
      have x4:(g:Int)≤(e.length:Int):=by omega
      have hcl:=wY (a:=e.take g) (by rw [List.length_take];omega);refine ent aB aK Tryz.func176 rfl rfl fun X0 hX=>?_;simp only [Tryz.f176,go_sem]
      repeat' (first|exact ⟨⟩|refine sp ?_|refine uF (hfi) ?_|refine uN (hcl) ?_|((with_reducible refine And.intro ?_ ?_);omega))
      all_goals exact ⟨rfl,rfl,rfl,.inr ⟨_,rfl⟩,.inr ⟨_,rfl⟩⟩
     ·have x2:(e.length:Int)<(g:Int):=by omega
      have hcl:=wY (a:=e) (by omega);have htk:e.take e.length=e:=List.take_length;rw [List.take_of_length_le (by omega)];refine ent aB aK Tryz.func176 rfl rfl fun X0 hX=>?_;simp only [Tryz.f176,go_sem]
      repeat' (first|exact ⟨⟩|refine sp ?_|refine uF (hfi) ?_|refine uN (hcl) ?_|((with_reducible refine And.intro ?_ ?_);omega))
      all_goals exact ⟨rfl,rfl,rfl,.inr ⟨_,rfl⟩,.inr ⟨_,rfl⟩⟩
    ·have x1:(d.length:Int)<(f:Int):=by omega
     have hd0:d.drop d.length=[]:=List.drop_length;rw [List.drop_of_length_le (by omega),List.take_nil];have hcl:=wY (a:=[]) (by simp);rw [lJ] at hcl;refine ent aB aK Tryz.func176 rfl rfl fun X0 hX=>?_;simp only [Tryz.f176,go_sem]
     repeat' (first|simp only [*,go_sem,Nat.reduceLT,Nat.reduceLeDiff,Nat.reduceEqDiff,↓reduceIte,Nat.reduceAdd,Int.reduceLE,Int.reduceToNat,bne_self_eq_false,List.take_nil,List.length_nil]|refine uF (hfi) ?_|refine uN (hcl) ?_|((with_reducible refine And.intro ?_ ?_);omega))
     all_goals exact ⟨rfl,rfl,rfl,.inr ⟨_,rfl⟩,.inr ⟨_,rfl⟩⟩
   ·
    refine ent aB aK Tryz.func176 rfl rfl fun X0 hX=>?_;simp only [Tryz.f176,go_sem]
    repeat' (first|exact ⟨⟩|refine sp ?_|refine uF (hfi) ?_)
    all_goals exact ⟨rfl,rfl,rfl,rfl,.inr ⟨_,rfl⟩,.inr ⟨_,rfl⟩,.inr ⟨_,rfl⟩⟩
  ·
   refine ent aB aK Tryz.func176 rfl rfl fun X0 hX=>?_;simp only [Tryz.f176,go_sem]
   repeat' (first|exact ⟨⟩|refine sp ?_|refine uF (hfi) ?_)
   all_goals exact ⟨rfl,rfl,rfl,rfl,.inr ⟨_,rfl⟩,.inr ⟨_,rfl⟩,.inr ⟨_,rfl⟩⟩
theorem zIP {ck:Int} {cp cq:List UInt8} {cm:Int} {ct:Nat} {ca cn:Int} {cd:List UInt8} (h:OkT t) (hd:d.length≤2000):
  aA Tryz.prog 103 [.agg (plc t p is k m tt d),.agg (clc ck cp cq cm ct ca cn cd)] [] fun r h =>
   r=.agg (anv (gJ t p is ⟨k,m,tt,d⟩ ⟨ck,cp,cq,cm,ct,ca,cn,cd⟩))∧h=[]:=by
 have hrd:=zLY (t:=t) (p:=p) (is:=is) (k:=k) (m:=m) (tt:=tt) (a:=ca) (n:=cn) hd;have hcl:=wY (a:=d) (by omega);have hnm:=FZ (p:=p) h;refine bK ?_;unfold gJ VE;simp only;generalize rW is ⟨k,m,tt,d⟩ ca cn=RD at hrd ⊢;generalize fR t p=N at hnm ⊢;cases k14:(ck == 14)
 ·cases is
  ·
   refine ent aB aK Tryz.func103 rfl rfl fun X0 hX=>?_;simp only [Tryz.f103,go_sem]
   repeat' (first|exact ⟨⟩|refine sq ?_)
   all_goals exact ⟨rfl,rfl,rfl,rfl,.inr ⟨_,rfl⟩,.inr ⟨_,rfl⟩,.inr ⟨_,rfl⟩⟩
  ·cases k8:(ck == 8)
   ·cases k15:(ck == 15)
    ·
     refine ent aB aK Tryz.func103 rfl rfl fun X0 hX=>?_;simp only [Tryz.f103,go_sem]
     repeat' (first|exact ⟨⟩|refine sq ?_)
     all_goals first|exact ⟨rfl,rfl,rfl,rfl,.inr ⟨_,rfl⟩,.inr ⟨_,rfl⟩,.inr ⟨_,rfl⟩⟩|exact ⟨rfl,rfl,rfl,.inr ⟨_,rfl⟩,.inr ⟨_,rfl⟩⟩|exact ⟨.inr ⟨_,rfl⟩,.inr ⟨_,rfl⟩⟩
    ·cases hk:(k == 2)
     ·
      refine ent aB aK Tryz.func103 rfl rfl fun X0 hX=>?_;simp only [Tryz.f103,go_sem]
      repeat' (first|exact ⟨⟩|refine sq ?_|refine uF (dH) ?_)
      all_goals exact ⟨rfl,rfl,rfl,rfl,.inr ⟨_,rfl⟩,.inr ⟨_,rfl⟩,.inr ⟨_,rfl⟩⟩
     ·
      refine ent aB aK Tryz.func103 rfl rfl fun X0 hX=>?_;simp only [Tryz.f103,go_sem]
      repeat' (first|exact ⟨⟩|refine sq ?_|refine uF (dH) ?_|refine uN (hnm) ?_)
      all_goals first|exact ⟨rfl,rfl,rfl,rfl,.inr ⟨_,rfl⟩,.inr ⟨_,rfl⟩,.inr ⟨_,rfl⟩⟩|exact ⟨rfl,rfl,rfl,.inr ⟨_,rfl⟩,.inr ⟨_,rfl⟩⟩|exact ⟨.inr ⟨_,rfl⟩,.inr ⟨_,rfl⟩⟩
   ·cases hk:(k == 3)
    ·have hk2:(k != 3)=true:=by rw [bne,hk];rfl
     refine ent aB aK Tryz.func103 rfl rfl fun X0 hX=>?_;simp only [Tryz.f103,go_sem]
     repeat' (first|exact ⟨⟩|refine sq ?_)
     all_goals exact ⟨rfl,rfl,rfl,rfl,.inr ⟨_,rfl⟩,.inr ⟨_,rfl⟩,.inr ⟨_,rfl⟩⟩
    ·have hk2:(k != 3)=false:=by rw [bne,hk];rfl
     refine ent aB aK Tryz.func103 rfl rfl fun X0 hX=>?_;simp only [Tryz.f103,go_sem]
     repeat' (first|exact ⟨⟩|refine sq ?_|refine uN (hcl) ?_)
     all_goals first|exact ⟨rfl,rfl,rfl,rfl,.inr ⟨_,rfl⟩,.inr ⟨_,rfl⟩,.inr ⟨_,rfl⟩⟩|exact ⟨rfl,rfl,rfl,.inr ⟨_,rfl⟩,.inr ⟨_,rfl⟩⟩|exact ⟨.inr ⟨_,rfl⟩,.inr ⟨_,rfl⟩⟩
 ·
  refine ent aB aK Tryz.func103 rfl rfl fun X0 hX=>?_;simp only [Tryz.f103,go_sem]
  repeat' (first|exact ⟨⟩|refine sp ?_|refine uN (hrd) ?_)
  all_goals first|exact ⟨rfl,rfl,rfl,rfl,.inr ⟨_,rfl⟩,.inr ⟨_,rfl⟩,.inr ⟨_,rfl⟩⟩|exact ⟨rfl,rfl,rfl,.inr ⟨_,rfl⟩,.inr ⟨_,rfl⟩⟩|exact ⟨.inr ⟨_,rfl⟩,.inr ⟨_,rfl⟩⟩
end places
theorem do_c {t:List It} {ck:Int} {cp cq:List UInt8} {cm:Int} {ct:Nat} {ca cn:Int} {cd:List UInt8} (h:OkT t) (hct:ct<18446744073709551616) (hcp:cp.length≤9223372036854775807)
  (hcd:cd.length≤140737488355328) (hcq:cq.length≤9223372036854775807) (hca:-9223372036854775808≤ca∧ca≤9223372036854775807):
  aA Tryz.prog 44 [.c (.p (.sl 5 (aU t))),.agg (clc ck cp cq cm ct ca cn cd)] [] fun r h =>
   r=.tup [.c (.p (.sl 5 (aU (doP t ⟨ck,cp,cq,cm,ct,ca,cn,cd⟩).1))),.agg (anv (doP t ⟨ck,cp,cq,cm,ct,ca,cn,cd⟩).2)]∧h=[]:=by
 have htl:=h.len;have hcpy:=xA (t:=t) (by omega) fun x hx=>Nat.le_trans (h.dlen x hx) (by decide);have hwk:=zIH (s:=cp) (fo:=fW ck) h hcp;have hql:=PA (t:=t) (s:=cp) (fo:=fW ck);refine bK ?_;unfold doP;simp only;generalize cF t cp (fW ck)=W at hwk hql ⊢;obtain ⟨p,is,e⟩:=W;simp only at hwk hql ⊢;have hat:=zND (p:=p) (is:=is) h (by omega);obtain ⟨hnd,hnt⟩:=OkT.node h p;have hak:=zIP (p:=p) (is:=is) (k:=(nodeAt t p).k) (m:=(nodeAt t p).m) (tt:=(nodeAt t p).t) (ck:=ck) (cp:=cp) (cq:=cq) (cm:=cm) (ct:=ct) (ca:=ca) (cn:=cn) (cd:=cd) h hnd;have htu:=GK (p:=p) (is:=is) (k:=(nodeAt t p).k) (m:=(nodeAt t p).m) (ck:=ck) (cp:=cp) (cm:=cm) (cn:=cn) h (by omega) hnd hnt hct hcd hcq hca;have eta:(⟨(nodeAt t p).k,(nodeAt t p).m,(nodeAt t p).t,(nodeAt t p).d⟩:Nd)=nodeAt t p:=rfl;rw [eta] at hak htu;generalize gJ t p is (nodeAt t p) ⟨ck,cp,cq,cm,ct,ca,cn,cd⟩=A at hak ⊢;generalize bY t p is (nodeAt t p) ⟨ck,cp,cq,cm,ct,ca,cn,cd⟩=U at htu ⊢;clear hnd hnt eta;generalize nodeAt t p=n at hat hak htu;obtain ⟨k1,m1,t1,d1⟩:=n;simp only at hat hak htu;have hfo:=zCS (k:=ck);generalize fW ck=fo at hwk hfo;have htn:=PN (k:=ck);generalize fI ck=tn at htn ⊢;obtain ⟨U,ue⟩:=U;simp only at htu ⊢;cases r1:decide (ck<1)
 ·cases r2:decide (15<ck)
  ·cases q0:(e == 0)
   ·have q1:(e != 0)=true:=by rw [bne,q0];rfl
    refine ent aB aK Tryz.func44 rfl rfl fun X0 hX=>?_;simp only [Tryz.f44,go_sem]
    repeat' (first|exact ⟨⟩|refine sp ?_|((refine aN (id:=3) aB aK [] [0,1,2,3,4,5,6,7,8,9,10,11,12,13] (by decide +kernel) ?_);(repeat' (first|(refine aT ?_)|((refine bV ?_ rfl rfl ?_ ?_);(rotate_left 1);(focus ((repeat' (first|exact ⟨⟩|refine sp ?_|refine uF (hfo) ?_|refine uN (hwk) ?_));exact rfl));(simp only [aG])))))|refine zER hcpy rfl ?_)
    all_goals first|exact ⟨rfl,rfl,rfl,rfl,.inr ⟨_,rfl⟩,.inr ⟨_,rfl⟩,.inr ⟨_,rfl⟩⟩|exact ⟨rfl,rfl,rfl,.inr ⟨_,rfl⟩,.inr ⟨_,rfl⟩⟩|exact ⟨.inr ⟨_,rfl⟩,.inr ⟨_,rfl⟩⟩
   ·have he:=eq_of_beq q0;subst he;cases tn
    ·
     refine ent aB aK Tryz.func44 rfl rfl fun X0 hX=>?_;simp only [Tryz.f44,go_sem]
     repeat' (first|exact ⟨⟩|refine sq ?_|((refine aN (id:=3) aB aK [] [0,1,2,3,4,5,6,7,8,9,10,11,12,13] (by decide +kernel) ?_);(repeat' (first|(refine aT ?_)|((refine bV ?_ rfl rfl ?_ ?_);(rotate_left 1);(focus ((repeat' (first|exact ⟨⟩|refine sp ?_|refine uF (hfo) ?_|refine uN (hwk) ?_));exact rfl));(simp only [aG])))))|refine uN (hat) ?_|refine uF (htn) ?_|((refine aN (id:=8) aB aK [1,6] [0,1,2,3,4,5,6] (by decide +kernel) ?_);(repeat' (first|(refine aT ?_)|((refine cV ?_ ?_ rfl rfl rfl ?_ ?_);(rotate_left 2);(focus ((repeat' (first|exact ⟨⟩|refine sp ?_|refine zER hcpy rfl ?_));((refine And.intro ?_ ?_ <;> exact rfl))));(simp only [aG,bI]))|((refine cU ?_ rfl rfl rfl ?_ ?_);(rotate_left 1);(focus ((repeat' (first|exact bG|refine aZ ?_ ?_));(all_goals ((repeat' (first|exact ⟨⟩|refine sp ?_|refine uN (hak) ?_));(try (exact rfl))))));(simp only [aG]))))))
     all_goals first|exact ⟨rfl,rfl,rfl,rfl,.inr ⟨_,rfl⟩,.inr ⟨_,rfl⟩,.inr ⟨_,rfl⟩⟩|exact ⟨rfl,rfl,rfl,.inr ⟨_,rfl⟩,.inr ⟨_,rfl⟩⟩|exact ⟨.inr ⟨_,rfl⟩,.inr ⟨_,rfl⟩⟩
    ·cases u0:(ue == 0)
     ·have u1:(ue != 0)=true:=by rw [bne,u0];rfl
      refine ent aB aK Tryz.func44 rfl rfl fun X0 hX=>?_;simp only [Tryz.f44,go_sem]
      repeat' (first|exact ⟨⟩|refine sq ?_|((refine aN (id:=3) aB aK [] [0,1,2,3,4,5,6,7,8,9,10,11,12,13] (by decide +kernel) ?_);(repeat' (first|(refine aT ?_)|((refine bV ?_ rfl rfl ?_ ?_);(rotate_left 1);(focus ((repeat' (first|exact ⟨⟩|refine sp ?_|refine uF (hfo) ?_|refine uN (hwk) ?_));exact rfl));(simp only [aG])))))|refine uN (hat) ?_|refine uF (htn) ?_|refine uN (htu) ?_|refine zER hcpy rfl ?_)
      all_goals first|exact ⟨rfl,rfl,rfl,rfl,.inr ⟨_,rfl⟩,.inr ⟨_,rfl⟩,.inr ⟨_,rfl⟩⟩|exact ⟨rfl,rfl,rfl,.inr ⟨_,rfl⟩,.inr ⟨_,rfl⟩⟩|exact ⟨.inr ⟨_,rfl⟩,.inr ⟨_,rfl⟩⟩
     ·have ue0:=eq_of_beq u0;subst ue0;refine ent aB aK Tryz.func44 rfl rfl fun X0 hX=>?_;simp only [Tryz.f44,go_sem]
      repeat' (first|exact ⟨⟩|refine sq ?_|((refine aN (id:=3) aB aK [] [0,1,2,3,4,5,6,7,8,9,10,11,12,13] (by decide +kernel) ?_);(repeat' (first|(refine aT ?_)|((refine bV ?_ rfl rfl ?_ ?_);(rotate_left 1);(focus ((repeat' (first|exact ⟨⟩|refine sp ?_|refine uF (hfo) ?_|refine uN (hwk) ?_));exact rfl));(simp only [aG])))))|refine uN (hat) ?_|refine uF (htn) ?_|refine uN (htu) ?_)
      all_goals first|exact ⟨rfl,rfl,rfl,rfl,.inr ⟨_,rfl⟩,.inr ⟨_,rfl⟩,.inr ⟨_,rfl⟩⟩|exact ⟨rfl,rfl,rfl,.inr ⟨_,rfl⟩,.inr ⟨_,rfl⟩⟩|exact ⟨.inr ⟨_,rfl⟩,.inr ⟨_,rfl⟩⟩
  ·
   refine ent aB aK Tryz.func44 rfl rfl fun X0 hX=>?_;simp only [Tryz.f44,go_sem]
   repeat' (first|exact ⟨⟩|refine sp ?_|refine zER hcpy rfl ?_)
   all_goals first|exact ⟨rfl,rfl,rfl,rfl,.inr ⟨_,rfl⟩,.inr ⟨_,rfl⟩,.inr ⟨_,rfl⟩⟩|exact ⟨rfl,rfl,rfl,.inr ⟨_,rfl⟩,.inr ⟨_,rfl⟩⟩|exact ⟨.inr ⟨_,rfl⟩,.inr ⟨_,rfl⟩⟩
 ·
  refine ent aB aK Tryz.func44 rfl rfl fun X0 hX=>?_;simp only [Tryz.f44,go_sem]
  repeat' (first|exact ⟨⟩|refine sp ?_|refine zER hcpy rfl ?_)
  all_goals first|exact ⟨rfl,rfl,rfl,rfl,.inr ⟨_,rfl⟩,.inr ⟨_,rfl⟩,.inr ⟨_,rfl⟩⟩|exact ⟨rfl,rfl,rfl,.inr ⟨_,rfl⟩,.inr ⟨_,rfl⟩⟩|exact ⟨.inr ⟨_,rfl⟩,.inr ⟨_,rfl⟩⟩
end Go.Proofs.YtlbfnbldeefgmaaGreatDoor
end
section
namespace Go.Proofs.YtlbfnbldeefgmaaGreatDoor
open Go Go.Dm
set_option maxRecDepth 100000
set_option maxHeartbeats 4000000
theorem zHu {p q:List UInt8} {k m k' m':Int} {t t':Nat} {d d':List UInt8}:
  aA Tryz.prog 106 [.agg [.p (.s p),.p (.i .i64 k),.p (.i .i64 m),.p (.f t),.p (.sl 1 (bO d))],.agg [.p (.s q),.p (.i .i64 k'),.p (.i .i64 m'),.p (.f t'),.p (.sl 1 (bO d'))]] []
   fun r h=>r=.c (.p (.b (DC ⟨p,⟨k,m,t,d⟩⟩ ⟨q,⟨k',m',t',d'⟩⟩)))∧h=[]:=by
 refine ent aB aK Tryz.func106 rfl rfl fun X0 hX=>?_;simp only [Tryz.f106,go_sem]
 repeat' (first|simp only [*,go_sem,Nat.reduceLT,Nat.reduceLeDiff,Nat.reduceEqDiff,↓reduceIte,Nat.reduceAdd,]|((with_reducible refine dM (rO) ?_ ?_ ?_);exact rfl;exact rfl)|with_reducible refine bF (fun _=>?_) (fun _=>?_))
 all_goals ((simp_all [DC];done))
theorem zMT {a b:List It} (ha:a.length≤1000000) (hb:b.length≤1000000):
  aA Tryz.prog 105 [.c (.p (.sl 5 (aU a))),.c (.p (.sl 5 (aU b))),.c (.clo 106 [])] [] fun r h=>r=.c (.p (.b (fT a b)))∧h=[]:=by
 by_cases hl:b.length=a.length
 ·have q1:((a.length:Int) != a.length)=false:=by simp
  refine ent aB aK Tryz.func105 rfl rfl fun X0 hX=>?_;simp only [Tryz.f105,go_sem]
  repeat' (simp only [*,go_sem,Nat.reduceLT,Nat.reduceEqDiff,↓reduceIte,Nat.reduceAdd,bne_self_eq_false])
  refine aY aB aK (α:=Nat) (fun k=>⟨32,[(1,.c (.p (.sl 5 (aU b)))),(2,.c (.clo 106 [])),(15,.c (.p (.sl 5 (aU a)))),(16,.c (.p (.i .i64 a.length))),(17,.c (.p (.i .i64 k)))],[]⟩)
   (fun k=>k≤a.length∧fT (a.drop k) (b.drop k)=fT a b) (fun k=>a.length-k) 0 ⟨Nat.zero_le _,rfl⟩ (.inl (aI (by rw [hX];rfl) rfl rfl (by simp [aH,aL,aD,aJ,aF,]))) ?_
  rintro k ⟨hk,hs⟩;by_cases hlt:k<a.length
  ·have hx:a[k]? = some a[k]:=List.getElem?_eq_getElem hlt;have hy:b[k]? = some (b[k]'(by omega)):=List.getElem?_eq_getElem (by omega);have hg:=cQ hx;have hg2:=cQ hy;have h1:decide ((k:Int)<(a.length:Int))=true:=decide_eq_true (by omega);have hd:=SX hx hy;generalize a[k]=x at hx hg hd;generalize (b[k]'(by omega))=y at hy hg2 hd;have w1:IntKind.i64.wrap ((k:Int)+1)=k+1:=wrap_i64 (by omega) (by omega);rw [hd] at hs;clear hd
   repeat' (first|simp only [*,go_sem,Nat.reduceLT,Nat.reduceLeDiff,Nat.reduceEqDiff,↓reduceIte,Nat.reduceAdd,]|((with_reducible refine dM (zHu) ?_ ?_ ?_);exact rfl;exact rfl)|with_reducible refine aO (fun _=>?_) (fun _=>?_)|((with_reducible refine And.intro ?_ ?_);omega))
   ·rename_i hb;rw [Bool.not_eq_true'] at hb;rw [hb,Bool.false_and] at hs;rw [← hs]
   ·rename_i hb;rw [Bool.not_eq_false'] at hb;rw [hb,Bool.true_and] at hs;exact fD (k+1) ⟨by omega,hs⟩ (by omega) (aI rfl rfl rfl (by simp [aH,aL,aD,aJ,aF,]))
  ·have h1:decide ((k:Int)<(a.length:Int))=false:=decide_eq_false (by omega);rw [List.drop_of_length_le (by omega),List.drop_of_length_le (by omega)] at hs;have hs2:fT a b=true:=hs.symm;clear hs
   repeat' (simp only [*,go_sem,Nat.reduceLT,Nat.reduceEqDiff,↓reduceIte,])
 ·have q1:((a.length:Int) != b.length)=true:=by simpa [bne] using fun h=>hl (by omega)
  rw [DD fun h=>hl h.symm];refine ent aB aK Tryz.func105 rfl rfl fun X0 hX=>?_;simp only [Tryz.f105,go_sem]
  repeat' (simp only [*,go_sem,Nat.reduceLT,Nat.reduceEqDiff,↓reduceIte,Nat.reduceAdd,])
theorem DR {a b:List It} (ha:a.length≤1000000) (hb:b.length≤1000000):aA Tryz.prog 45 [.c (.p (.sl 5 (aU a))),.c (.p (.sl 5 (aU b)))] [] fun r h=>r=.c (.p (.b (fT a b)))∧h=[]:=by
 refine ent aB aK Tryz.func45 rfl rfl fun X0 hX=>?_;simp only [Tryz.f45,go_sem]
 repeat' (first|simp only [*,go_sem,Nat.reduceLT,Nat.reduceEqDiff,↓reduceIte,]|((with_reducible refine dM (zMT ha hb) ?_ ?_ ?_);exact rfl;exact rfl))
end Go.Proofs.YtlbfnbldeefgmaaGreatDoor
end
section
namespace Go.Proofs.YtlbfnbldeefgmaaGreatDoor
open Go Go.Dm Go.Proofs
set_option maxRecDepth 100000
set_option maxHeartbeats 8000000
theorem zHo {r:Rm} {s:List UInt8} {ck:Int} {cp cq:List UInt8} {cm:Int} {ct:Nat} {ca cn:Int} {cd:List UInt8} (hr:OkR r) (hct:ct<18446744073709551616) (hcp:cp.length≤9223372036854775807)
  (hcd:cd.length≤140737488355328) (hcq:cq.length≤9223372036854775807) (hca:-9223372036854775808≤ca∧ca≤9223372036854775807)
  (h3:((dJ r s).2 == 0)=true→OkT (treeR r (dJ r s).1.i)∧OkT (treeR r (dJ r s).1.p)∧OkT (doP (treeR r (dJ r s).1.i) ⟨ck,cp,cq,cm,ct,ca,cn,cd⟩).1):
  aA Tryz.prog 10 [.c (.ptr 0 0),.c (.p (.s s)),.agg (clc ck cp cq cm ct ca cn cd)] (cB r) fun d h=>d=.agg (anv (ER r s ⟨ck,cp,cq,cm,ct,ca,cn,cd⟩).2)∧h=cB (ER r s ⟨ck,cp,cq,cm,ct,ca,cn,cd⟩).1:=by
 have hly:=zO (s:=s) hr;have htr:=nY (a:=(dJ r s).1.i) hr;have htn:=PN (k:=ck);unfold ER;generalize hy:dJ r s=y at *;obtain ⟨⟨yi,yp,yq,yf⟩,e⟩:=y;simp only [Ly.cv] at *;cases he:(e == 0)
 ·have hb:(e != 0)=true:=by rw [bne,he];rfl
  simp only [Bool.not_false,if_true];clear h3 htr htn hr;refine bK ?_;refine ent aB aK Tryz.func10 rfl rfl fun X0 hX=>?_;simp only [Tryz.f10,go_sem]
  repeat' (first|simp only [*,go_sem,Nat.reduceLT,Nat.reduceLeDiff,Nat.reduceEqDiff,↓reduceIte,Nat.reduceAdd,]|((with_reducible refine bW [0,1,2,3] (hly) ?_ ?_ ?_ ?_);exact rfl;exact rfl;(focus ((simp only [go_sem];done)))))
  exact ⟨rfl,rfl,rfl,rfl,.inr ⟨1,rfl⟩,.inr ⟨1,rfl⟩,.inr ⟨1,rfl⟩⟩
 ·have hb:(e != 0)=false:=by rw [bne,he];rfl
  simp only [Bool.not_true,Bool.false_eq_true,if_false];obtain ⟨k1,k2,k3⟩:=h3 he;cases hft:(yf && fI ck)
  ·simp only [Bool.false_eq_true,if_false];have hdo:=do_c (cn:=cn) (cm:=cm) (ck:=ck) k1 hct hcp hcd hcq hca;have hsm:=DR (a:=treeR r yi) (b:=(doP (treeR r yi) ⟨ck,cp,cq,cm,ct,ca,cn,cd⟩).1) (by have:=k1.len;omega) (by have:=k3.len;omega);have hst:=NB (i:=yi) (p:=yp) (q:=yq) (f:=yf) hr k3 k2;unfold SY;simp only;generalize fX (treeR r yp) (doP (treeR r yi) ⟨ck,cp,cq,cm,ct,ca,cn,cd⟩).1=E1 at hst ⊢;generalize doP (treeR r yi) ⟨ck,cp,cq,cm,ct,ca,cn,cd⟩=T at *;obtain ⟨T1,a⟩:=T;obtain ⟨ae,⟨ak,am,at_,ad⟩,ab,al⟩:=a;simp only at *;generalize treeR r yi=T0 at *;clear h3 k1 k2 k3 hr;cases hs:fT T0 T1
   ·simp only [Bool.false_eq_true,if_false];cases yf
    ·
     refine ent aB aK Tryz.func10 rfl rfl fun X0 hX=>?_;simp only [Tryz.f10,go_sem]
     repeat' (first|simp only [*,go_sem,Nat.reduceLT,Nat.reduceLeDiff,Nat.reduceEqDiff,↓reduceIte,Nat.reduceAdd,Bool.not_false]|((with_reducible refine bW [0,1,2,3] (hly) ?_ ?_ ?_ ?_);exact rfl;exact rfl;(focus ((simp only [go_sem];done))))|((with_reducible refine bW [0,1,2,3] (htr) ?_ ?_ ?_ ?_);exact rfl;exact rfl;(focus ((simp only [go_sem];done))))|((with_reducible refine kM (hdo) ?_ ?_ ?_);exact rfl;exact fun _=>rfl)|((with_reducible refine kM (hsm) ?_ ?_ ?_);exact rfl;exact fun _=>rfl)|((with_reducible refine bW [0,1,2,3] (hst) ?_ ?_ ?_ ?_);exact rfl;exact rfl;(focus ((simp only [go_sem];done)))))
    ·rw [Bool.true_and] at hft;rw [hft] at htn;refine ent aB aK Tryz.func10 rfl rfl fun X0 hX=>?_;simp only [Tryz.f10,go_sem]
     repeat' (first|simp only [*,go_sem,Nat.reduceLT,Nat.reduceLeDiff,Nat.reduceEqDiff,↓reduceIte,Nat.reduceAdd,Bool.not_false]|((with_reducible refine bW [0,1,2,3] (hly) ?_ ?_ ?_ ?_);exact rfl;exact rfl;(focus ((simp only [go_sem];done))))|((with_reducible refine bW [0,1,2,3] (htr) ?_ ?_ ?_ ?_);exact rfl;exact rfl;(focus ((simp only [go_sem];done))))|((with_reducible refine dM (htn) ?_ ?_ ?_);exact rfl;exact rfl)|((with_reducible refine kM (hdo) ?_ ?_ ?_);exact rfl;exact fun _=>rfl)|((with_reducible refine kM (hsm) ?_ ?_ ?_);exact rfl;exact fun _=>rfl)|((with_reducible refine bW [0,1,2,3] (hst) ?_ ?_ ?_ ?_);exact rfl;exact rfl;(focus ((simp only [go_sem];done)))))
   ·simp only [if_true];cases yf
    ·
     refine ent aB aK Tryz.func10 rfl rfl fun X0 hX=>?_;simp only [Tryz.f10,go_sem]
     repeat' (first|simp only [*,go_sem,Nat.reduceLT,Nat.reduceLeDiff,Nat.reduceEqDiff,↓reduceIte,Nat.reduceAdd,Bool.not_true]|((with_reducible refine bW [0,1,2,3] (hly) ?_ ?_ ?_ ?_);exact rfl;exact rfl;(focus ((simp only [go_sem];done))))|((with_reducible refine bW [0,1,2,3] (htr) ?_ ?_ ?_ ?_);exact rfl;exact rfl;(focus ((simp only [go_sem];done))))|((with_reducible refine kM (hdo) ?_ ?_ ?_);exact rfl;exact fun _=>rfl)|((with_reducible refine kM (hsm) ?_ ?_ ?_);exact rfl;exact fun _=>rfl))
    ·rw [Bool.true_and] at hft;rw [hft] at htn;refine ent aB aK Tryz.func10 rfl rfl fun X0 hX=>?_;simp only [Tryz.f10,go_sem]
     repeat' (first|simp only [*,go_sem,Nat.reduceLT,Nat.reduceLeDiff,Nat.reduceEqDiff,↓reduceIte,Nat.reduceAdd,Bool.not_true]|((with_reducible refine bW [0,1,2,3] (hly) ?_ ?_ ?_ ?_);exact rfl;exact rfl;(focus ((simp only [go_sem];done))))|((with_reducible refine bW [0,1,2,3] (htr) ?_ ?_ ?_ ?_);exact rfl;exact rfl;(focus ((simp only [go_sem];done))))|((with_reducible refine dM (htn) ?_ ?_ ?_);exact rfl;exact rfl)|((with_reducible refine kM (hdo) ?_ ?_ ?_);exact rfl;exact fun _=>rfl)|((with_reducible refine kM (hsm) ?_ ?_ ?_);exact rfl;exact fun _=>rfl))
  ·simp only [if_true];rw [Bool.and_eq_true] at hft;obtain ⟨rfl,hft⟩:=hft;rw [hft] at htn;clear h3 k1 k2 k3 hr htr;refine bK ?_;refine ent aB aK Tryz.func10 rfl rfl fun X0 hX=>?_;simp only [Tryz.f10,go_sem]
   repeat' (first|simp only [*,go_sem,Nat.reduceLT,Nat.reduceLeDiff,Nat.reduceEqDiff,↓reduceIte,Nat.reduceAdd,]|((with_reducible refine bW [0,1,2,3] (hly) ?_ ?_ ?_ ?_);exact rfl;exact rfl;(focus ((simp only [go_sem];done))))|((with_reducible refine dM (htn) ?_ ?_ ?_);exact rfl;exact rfl))
   exact ⟨rfl,rfl,rfl,rfl,.inr ⟨1,rfl⟩,.inr ⟨1,rfl⟩,.inr ⟨1,rfl⟩⟩
end Go.Proofs.YtlbfnbldeefgmaaGreatDoor
end
section
namespace Go.Proofs.YtlbfnbldeefgmaaGreatDoor
open Go Go.Dm Go.Proofs
set_option maxRecDepth 100000
set_option maxHeartbeats 8000000
theorem zAy {r:Rm}:aA Tryz.prog 25 [.c (.ptr 0 0)] (cB r) fun d h=>d=.c (.p (.i .i64 r.x))∧h=cB r:=by
 refine ent aB aK Tryz.func25 rfl rfl fun X0 hX=>?_;simp only [Tryz.f25,go_sem]
 repeat' (simp only [*,go_sem,Nat.reduceLT,Nat.reduceEqDiff,↓reduceIte,Nat.reduceAdd,])
theorem JB {h:aC} {i n:Nat} {l:List Nm} {K:DV→aC→Prop} (hl:l.length≤1000000) (hn:n=l.length) (h0:h[i]? = some (.arr 2 (bM l) false)) (hk:K (.c (.own h.length 0 l.length)) (h++[.arr 2 (bM l) false])):
  aA Tryz.prog 51 [.c (.own i 0 n)] h K:=by
 refine zID (by rw [hn,← fC,List.take_length]) (zBo hl) h0 (by simp [uX,nV,iZ,bM,sF]) ?_;simpa [DV.sh,CV.sh,DB.sh,fC] using hk
theorem zFu {h:aC} {i n:Nat} {l:List Ly} {K:DV→aC→Prop} (hl:l.length≤1000000) (hn:n=l.length) (h0:h[i]? = some (.arr 4 (cZ l) false)) (hk:K (.c (.own h.length 0 l.length)) (h++[.arr 4 (cZ l) false])):
  aA Tryz.prog 52 [.c (.own i 0 n)] h K:=by
 refine zID (by rw [hn,← fZ,List.take_length]) (TY hl) h0 (by simp [uX,nV,iZ,cZ,sF,Ly.cs]) ?_;simpa [DV.sh,CV.sh,DB.sh,fZ] using hk
theorem SR {r:Rm} (hr:OkR r):aA Tryz.prog 26 [.c (.ptr 0 0)] (cB r) fun d h=>d=.c (.own 4 0 r.N.length)∧h=cB r++[.arr 2 (bM r.N) false]:=by
 have hnl:=hr.nl;have hk:∀ {h:aC} {K:DV→aC→Prop},h[1]? = some (.arr 2 (bM r.N) false)→K (.c (.own h.length 0 r.N.length)) (h++[.arr 2 (bM r.N) false])→aA Tryz.prog 51 [.c (.own 1 0 r.N.length)] h K:=fun h0 hk=>JB (by omega) rfl h0 hk;refine zFe aB aK Tryz.func26 rfl rfl fun X0 hX=>?_;simp only [Tryz.f26,go_sem]
 repeat' (simp only [*,go_sem,Nat.reduceLT,Nat.reduceEqDiff,↓reduceIte,Nat.reduceAdd,])
end Go.Proofs.YtlbfnbldeefgmaaGreatDoor
end
section
namespace Go.Proofs.YtlbfnbldeefgmaaGreatDoor
open Go Go.Dm
set_option maxRecDepth 100000
set_option maxHeartbeats 4000000
theorem zIJ {k m:Int} {t:Nat} {d:List UInt8}:aA Tryz.prog 262 [.agg (ndc k m t d)] [] fun r h=>r=.c (.p (.b (sN ⟨k,m,t,d⟩)))∧h=[]:=by
 refine ent aB aK Tryz.func262 rfl rfl fun X0 hX=>?_;simp only [Tryz.f262,go_sem]
 repeat' (first|simp only [*,go_sem,Nat.reduceLT,Nat.reduceEqDiff,↓reduceIte,]|((with_reducible refine dM (wR _) ?_ ?_ ?_);exact rfl;exact rfl)|with_reducible refine bF (fun _=>?_) (fun _=>?_))
 all_goals first|(simp_all [sN];done)|(simp_all [sN];rw [Bool.eq_iff_iff];simp)
end Go.Proofs.YtlbfnbldeefgmaaGreatDoor
end
