/- Part 41 of the proof of roomDeep_card, set without needless blanks. No condition. -/
import Derived.Test.YtlbfnbldeefgmaaGreatDoorC39
set_option linter.all false
section
namespace Go.Proofs.YtlbfnbldeefgmaaGreatDoor
open Go Go.Dm Go.Proofs
set_option maxRecDepth 100000
set_option maxHeartbeats 8000000
theorem QW {a b:List UInt8} (ha:a.length≤100000) (hb:b.length≤100000):
  aA Tryz.prog 247 [.c (.p (.sl 1 [[.sl 1 (bW a)],[.sl 1 (bW b)]]))] [] fun r h=>r=.c (.own 0 0 (a.length+b.length))∧h=[.arr 1 (bW (a++b)) false]:=by
 have w1:IntKind.i64.wrap ((a.length:Int))=a.length:=wrap_i64 (by omega) (by omega);have w2:IntKind.i64.wrap ((a.length:Int)+b.length)=((a.length+b.length:Nat):Int):=by rw [wrap_i64 (by omega) (by omega)];omega
 have h1:decide ((a.length:Int)<0)=false:=decide_eq_false (by omega);have h2:decide (((a.length+b.length:Nat):Int)<0)=false:=decide_eq_false (by omega);refine zKC aC aK Tryz.func247 rfl rfl fun X0 hX=>?_;simp only [Tryz.f247,go_sem]
 repeat' (first|simp only [*,go_sem,Nat.reduceLT,Nat.reduceLeDiff,Nat.reduceEqDiff,↓reduceIte,Nat.reduceAdd,Int.reduceLT,Int.reduceLE,Int.reduceAdd,Int.reduceNeg,Int.reduceToNat,Int.zero_add]|refine gD aC aK 3 ?_|refine SF (n:=a.length+b.length) (by omega) ?_|((with_reducible refine And.intro ?_ ?_);omega))
 all_goals exact ⟨rfl,Nat.zero_le _,rfl,_,_,rfl,rfl,rfl⟩
section places
variable {t:List It} {p:List UInt8} {is:Bool} {k m:Int} {tt:Nat} {d:List UInt8}
theorem zIH {kind ck:Int} {cp cq:List UInt8} {cm:Int} {ct:Nat} {ca cn:Int} {cd:List UInt8} (h:OkT t) (hp:p.length≤1000000000) (hd:cd.length≤140737488355328) (ht:ct<18446744073709551616) (hkind:kind=1∨kind=2∨kind=3):
  aA Tryz.prog 180 [.agg (plc t p is k m tt d),.c (.p (.i .i64 kind)),.agg (clc ck cp cq cm ct ca cn cd)] [] fun r h =>
   r=.tup [.c (.p (.sl 5 (aZ (sX t p is kind ⟨ck,cp,cq,cm,ct,ca,cn,cd⟩).1))),.c (.p (.i .i64 (sX t p is kind ⟨ck,cp,cq,cm,ct,ca,cn,cd⟩).2))]∧h=[]:=by
 refine bN ?_;have hb:=pB ht;have hz:decide (0≤Lib.indexByte cd (Nat.toUInt8 0)) = !(cd.all fun b=>!(b == 0)):=by
  have:=indexByte_none 0 cd;rw [← this,← decide_not];exact decide_eq_decide.2 (by rw [Int.not_lt];exact Iff.rfl)
 unfold sX zG2;rcases hkind with rfl|rfl|rfl
 ·have hput:=gE (is:=is) (k:=k) (m:=m) (tt:=tt) (d:=d) (k':=1) (m':=cm) (tt':=cW ct) (d':=cd) h hp hd hb;generalize hP:sL t p ⟨1,cm,cW ct,cd⟩=P at hput;have e:sL t p ⟨1,if ((1:Int) == 3)=true then 511 else cm,cW ct,if ((1:Int) == 2)=true then [] else cd⟩=P:=hP;rw [e];cases is
  ·cases hm:iN cm
   ·
    refine ent aC aK Tryz.func180 rfl rfl fun X0 hX=>?_;simp only [Tryz.f180,go_sem]
    repeat' (first|simp only [*,go_sem,Nat.reduceLT,Nat.reduceLeDiff,Nat.reduceEqDiff,↓reduceIte,Nat.reduceAdd,Int.reduceBEq,Int.reduceBNe,Bool.not_false]|((refine aO (id:=1) aC aK [7,8] [7,0,1,2,3,4,5,6,8] (by decide +kernel) ?_);(repeat' (first|(refine bC ?_)|((refine dB ?_ ?_ rfl rfl rfl ?_ ?_);(rotate_left 2);(focus ((repeat' (simp only [*,go_sem,Nat.reduceLT,Nat.reduceLeDiff,Nat.reduceEqDiff,↓reduceIte,Nat.reduceAdd,]));((refine And.intro ?_ ?_ <;> exact rfl))));(simp only [aF,bF]))|((refine dA ?_ rfl rfl rfl ?_ ?_);(rotate_left 1);(focus ((repeat' (first|exact bI|refine bA ?_ ?_));(all_goals ((repeat' (first|simp only [*,go_sem,Nat.reduceLT,Nat.reduceLeDiff,Nat.reduceEqDiff,↓reduceIte,Nat.reduceAdd,]|((with_reducible refine aQ (cV ct) ?_ ?_ ?_);exact rfl;exact rfl)));(try (exact rfl))))));(simp only [aF])))))|((with_reducible refine aQ (eE) ?_ ?_ ?_);exact rfl;exact rfl))
    all_goals exact .inr ⟨_,rfl⟩
   ·cases hl:decide ((2000:Int)<(cd.length:Int))
    ·
     refine ent aC aK Tryz.func180 rfl rfl fun X0 hX=>?_;simp only [Tryz.f180,go_sem]
     repeat' (first|simp only [*,go_sem,Nat.reduceLT,Nat.reduceLeDiff,Nat.reduceEqDiff,↓reduceIte,Nat.reduceAdd,Int.reduceBEq,Int.reduceBNe,beq_self_eq_true,Bool.not_true]|((refine aO (id:=1) aC aK [7,8] [7,0,1,2,3,4,5,6,8] (by decide +kernel) ?_);(repeat' (first|(refine bC ?_)|((refine dB ?_ ?_ rfl rfl rfl ?_ ?_);(rotate_left 2);(focus ((repeat' (simp only [*,go_sem,Nat.reduceLT,Nat.reduceLeDiff,Nat.reduceEqDiff,↓reduceIte,Nat.reduceAdd,]));((refine And.intro ?_ ?_ <;> exact rfl))));(simp only [aF,bF]))|((refine dA ?_ rfl rfl rfl ?_ ?_);(rotate_left 1);(focus ((repeat' (first|exact bI|refine bA ?_ ?_));(all_goals ((repeat' (first|simp only [*,go_sem,Nat.reduceLT,Nat.reduceLeDiff,Nat.reduceEqDiff,↓reduceIte,Nat.reduceAdd,]|((with_reducible refine aQ (cV ct) ?_ ?_ ?_);exact rfl;exact rfl)));(try (exact rfl))))));(simp only [aF])))))|((with_reducible refine aQ (eE) ?_ ?_ ?_);exact rfl;exact rfl)|((with_reducible refine cH (hput) ?_ ?_ ?_);exact rfl;exact fun _=>rfl))
    ·
     refine ent aC aK Tryz.func180 rfl rfl fun X0 hX=>?_;simp only [Tryz.f180,go_sem]
     repeat' (first|simp only [*,go_sem,Nat.reduceLT,Nat.reduceLeDiff,Nat.reduceEqDiff,↓reduceIte,Nat.reduceAdd,Int.reduceBEq,Int.reduceBNe,beq_self_eq_true,Bool.not_true]|((refine aO (id:=1) aC aK [7,8] [7,0,1,2,3,4,5,6,8] (by decide +kernel) ?_);(repeat' (first|(refine bC ?_)|((refine dB ?_ ?_ rfl rfl rfl ?_ ?_);(rotate_left 2);(focus ((repeat' (simp only [*,go_sem,Nat.reduceLT,Nat.reduceLeDiff,Nat.reduceEqDiff,↓reduceIte,Nat.reduceAdd,]));((refine And.intro ?_ ?_ <;> exact rfl))));(simp only [aF,bF]))|((refine dA ?_ rfl rfl rfl ?_ ?_);(rotate_left 1);(focus ((repeat' (first|exact bI|refine bA ?_ ?_));(all_goals ((repeat' (first|simp only [*,go_sem,Nat.reduceLT,Nat.reduceLeDiff,Nat.reduceEqDiff,↓reduceIte,Nat.reduceAdd,]|((with_reducible refine aQ (cV ct) ?_ ?_ ?_);exact rfl;exact rfl)));(try (exact rfl))))));(simp only [aF])))))|((with_reducible refine aQ (eE) ?_ ?_ ?_);exact rfl;exact rfl))
     all_goals exact .inr ⟨_,rfl⟩
  ·
   refine ent aC aK Tryz.func180 rfl rfl fun X0 hX=>?_;simp only [Tryz.f180,go_sem]
   repeat' (first|simp only [*,go_sem,Nat.reduceLT,Nat.reduceLeDiff,Nat.reduceEqDiff,↓reduceIte,Nat.reduceAdd,Int.reduceBEq,Int.reduceBNe,]|((refine aO (id:=1) aC aK [7,8] [7,0,1,2,3,4,5,6,8] (by decide +kernel) ?_);(repeat' (first|(refine bC ?_)|((refine dB ?_ ?_ rfl rfl rfl ?_ ?_);(rotate_left 2);(focus ((repeat' (simp only [*,go_sem,Nat.reduceLT,Nat.reduceLeDiff,Nat.reduceEqDiff,↓reduceIte,Nat.reduceAdd,]));((refine And.intro ?_ ?_ <;> exact rfl))));(simp only [aF,bF]))|((refine dA ?_ rfl rfl rfl ?_ ?_);(rotate_left 1);(focus ((repeat' (first|exact bI|refine bA ?_ ?_));(all_goals ((repeat' (first|simp only [*,go_sem,Nat.reduceLT,Nat.reduceLeDiff,Nat.reduceEqDiff,↓reduceIte,Nat.reduceAdd,]|((with_reducible refine aQ (cV ct) ?_ ?_ ?_);exact rfl;exact rfl)));(try (exact rfl))))));(simp only [aF]))))))
   all_goals exact .inr ⟨_,rfl⟩
 ·have hput:=gE (is:=is) (k:=k) (m:=m) (tt:=tt) (d:=d) (k':=2) (m':=cm) (tt':=cW ct) (d':=[]) h hp (by simp) hb;generalize hP:sL t p ⟨2,cm,cW ct,[]⟩=P at hput;have e:sL t p ⟨2,if ((2:Int) == 3)=true then 511 else cm,cW ct,if ((2:Int) == 2)=true then [] else cd⟩=P:=hP;rw [e];have hput:aA Tryz.prog 242 [.agg (plc t p is k m tt d),.agg [.p (.i .i64 2),.p (.i .i64 cm),.p (.f (cW ct)),.p .nil]] [] fun r h=>r=.tup [.c (.p (.sl 5 (aZ P.1))),.c (.p (.i .i64 P.2))]∧h=[]:=by
   refine aA.wkargs ?_ hput;simp [zCB,wkD,zCs,wkC,wkP,mZ]
  cases is
  ·cases hm:iN cm
   ·
    refine ent aC aK Tryz.func180 rfl rfl fun X0 hX=>?_;simp only [Tryz.f180,go_sem]
    repeat' (first|simp only [*,go_sem,Nat.reduceLT,Nat.reduceEqDiff,↓reduceIte,Nat.reduceAdd,Int.reduceBEq,bne_self_eq_false,Bool.not_false]|((refine aO (id:=1) aC aK [7,8] [7,0,1,2,3,4,5,6,8] (by decide +kernel) ?_);(repeat' (first|(refine bC ?_)|((refine dB ?_ ?_ rfl rfl rfl ?_ ?_);(rotate_left 2);(focus ((repeat' (simp only [*,go_sem,Nat.reduceLT,Nat.reduceLeDiff,Nat.reduceEqDiff,↓reduceIte,Nat.reduceAdd,]));((refine And.intro ?_ ?_ <;> exact rfl))));(simp only [aF,bF]))|((refine dA ?_ rfl rfl rfl ?_ ?_);(rotate_left 1);(focus ((repeat' (first|exact bI|refine bA ?_ ?_));(all_goals ((repeat' (first|simp only [*,go_sem,Nat.reduceLT,Nat.reduceLeDiff,Nat.reduceEqDiff,↓reduceIte,Nat.reduceAdd,]|((with_reducible refine aQ (cV ct) ?_ ?_ ?_);exact rfl;exact rfl)));(try (exact rfl))))));(simp only [aF])))))|((with_reducible refine aQ (eE) ?_ ?_ ?_);exact rfl;exact rfl))
    all_goals exact .inr ⟨_,rfl⟩
   ·
    refine ent aC aK Tryz.func180 rfl rfl fun X0 hX=>?_;simp only [Tryz.f180,go_sem]
    repeat' (first|simp only [*,go_sem,Nat.reduceLT,Nat.reduceLeDiff,Nat.reduceEqDiff,↓reduceIte,Nat.reduceAdd,Int.reduceBEq,bne_self_eq_false,Bool.not_true]|((refine aO (id:=1) aC aK [7,8] [7,0,1,2,3,4,5,6,8] (by decide +kernel) ?_);(repeat' (first|(refine bC ?_)|((refine dB ?_ ?_ rfl rfl rfl ?_ ?_);(rotate_left 2);(focus ((repeat' (simp only [*,go_sem,Nat.reduceLT,Nat.reduceLeDiff,Nat.reduceEqDiff,↓reduceIte,Nat.reduceAdd,]));((refine And.intro ?_ ?_ <;> exact rfl))));(simp only [aF,bF]))|((refine dA ?_ rfl rfl rfl ?_ ?_);(rotate_left 1);(focus ((repeat' (first|exact bI|refine bA ?_ ?_));(all_goals ((repeat' (first|simp only [*,go_sem,Nat.reduceLT,Nat.reduceLeDiff,Nat.reduceEqDiff,↓reduceIte,Nat.reduceAdd,]|((with_reducible refine aQ (cV ct) ?_ ?_ ?_);exact rfl;exact rfl)));(try (exact rfl))))));(simp only [aF])))))|((with_reducible refine aQ (eE) ?_ ?_ ?_);exact rfl;exact rfl)|((with_reducible refine cH (hput) ?_ ?_ ?_);exact rfl;exact fun _=>rfl))
  ·
   refine ent aC aK Tryz.func180 rfl rfl fun X0 hX=>?_;simp only [Tryz.f180,go_sem]
   repeat' (first|simp only [*,go_sem,Nat.reduceLT,Nat.reduceEqDiff,↓reduceIte,Nat.reduceAdd,Int.reduceBEq,bne_self_eq_false,]|((refine aO (id:=1) aC aK [7,8] [7,0,1,2,3,4,5,6,8] (by decide +kernel) ?_);(repeat' (first|(refine bC ?_)|((refine dB ?_ ?_ rfl rfl rfl ?_ ?_);(rotate_left 2);(focus ((repeat' (simp only [*,go_sem,Nat.reduceLT,Nat.reduceLeDiff,Nat.reduceEqDiff,↓reduceIte,Nat.reduceAdd,]));((refine And.intro ?_ ?_ <;> exact rfl))));(simp only [aF,bF]))|((refine dA ?_ rfl rfl rfl ?_ ?_);(rotate_left 1);(focus ((repeat' (first|exact bI|refine bA ?_ ?_));(all_goals ((repeat' (first|simp only [*,go_sem,Nat.reduceLT,Nat.reduceLeDiff,Nat.reduceEqDiff,↓reduceIte,Nat.reduceAdd,]|((with_reducible refine aQ (cV ct) ?_ ?_ ?_);exact rfl;exact rfl)));(try (exact rfl))))));(simp only [aF]))))))
   all_goals exact .inr ⟨_,rfl⟩
 ·have hput:=gE (is:=is) (k:=k) (m:=m) (tt:=tt) (d:=d) (k':=3) (m':=511) (tt':=cW ct) (d':=cd) h hp hd hb;generalize hP:sL t p ⟨3,511,cW ct,cd⟩=P at hput;have e:sL t p ⟨3,if ((3:Int) == 3)=true then 511 else cm,cW ct,if ((3:Int) == 2)=true then [] else cd⟩=P:=hP;rw [e];have hm:iN 511=true:=rfl;have hrm:=eE (m:=511);rw [hm] at hrm;cases is
  ·cases cd with
   | nil =>
    refine ent aC aK Tryz.func180 rfl rfl fun X0 hX=>?_;simp only [Tryz.f180,go_sem]
    repeat' (first|simp only [*,go_sem,Nat.reduceLT,Nat.reduceLeDiff,Nat.reduceEqDiff,↓reduceIte,Nat.reduceAdd,Int.reduceLT,Int.reduceBNe,beq_self_eq_true,Bool.not_true]|((refine aO (id:=1) aC aK [7,8] [7,0,1,2,3,4,5,6,8] (by decide +kernel) ?_);(repeat' (first|(refine bC ?_)|((refine dB ?_ ?_ rfl rfl rfl ?_ ?_);(rotate_left 2);(focus ((repeat' (simp only [*,go_sem,Nat.reduceLT,Nat.reduceLeDiff,Nat.reduceEqDiff,↓reduceIte,Nat.reduceAdd,]));((refine And.intro ?_ ?_ <;> exact rfl))));(simp only [aF,bF]))|((refine dA ?_ rfl rfl rfl ?_ ?_);(rotate_left 1);(focus ((repeat' (first|exact bI|refine bA ?_ ?_));(all_goals ((repeat' (first|simp only [*,go_sem,Nat.reduceLT,Nat.reduceLeDiff,Nat.reduceEqDiff,↓reduceIte,Nat.reduceAdd,]|((with_reducible refine aQ (cV ct) ?_ ?_ ?_);exact rfl;exact rfl)));(try (exact rfl))))));(simp only [aF])))))|((with_reducible refine aQ (hrm) ?_ ?_ ?_);exact rfl;exact rfl))
    all_goals exact .inr ⟨_,rfl⟩
   | cons x l =>
    have h1:decide (((l.length+1:Nat):Int)<1)=false:=decide_eq_false (by omega);have hib:=lD (d:=x::l) (c:=0) (by simp);rw [show Int.toNat 0=0 from rfl] at hib
    cases hl:decide ((120:Int)<((l.length+1:Nat):Int))
    ·generalize ((x::l).all fun b=>!(b == 0))=q at hz ⊢;cases q
     ·
      refine ent aC aK Tryz.func180 rfl rfl fun X0 hX=>?_;simp only [Tryz.f180,go_sem]
      repeat' (first|simp only [*,go_sem,Nat.reduceLT,Nat.reduceLeDiff,Nat.reduceEqDiff,↓reduceIte,Nat.reduceAdd,Int.reduceBNe,beq_self_eq_true,Bool.not_true,Bool.not_false]|((refine aO (id:=1) aC aK [7,8] [7,0,1,2,3,4,5,6,8] (by decide +kernel) ?_);(repeat' (first|(refine bC ?_)|((refine dB ?_ ?_ rfl rfl rfl ?_ ?_);(rotate_left 2);(focus ((repeat' (simp only [*,go_sem,Nat.reduceLT,Nat.reduceLeDiff,Nat.reduceEqDiff,↓reduceIte,Nat.reduceAdd,]));((refine And.intro ?_ ?_ <;> exact rfl))));(simp only [aF,bF]))|((refine dA ?_ rfl rfl rfl ?_ ?_);(rotate_left 1);(focus ((repeat' (first|exact bI|refine bA ?_ ?_));(all_goals ((repeat' (first|simp only [*,go_sem,Nat.reduceLT,Nat.reduceLeDiff,Nat.reduceEqDiff,↓reduceIte,Nat.reduceAdd,]|((with_reducible refine aQ (cV ct) ?_ ?_ ?_);exact rfl;exact rfl)));(try (exact rfl))))));(simp only [aF])))))|((with_reducible refine aQ (hrm) ?_ ?_ ?_);exact rfl;exact rfl)|((with_reducible refine aQ (hib) ?_ ?_ ?_);exact rfl;exact rfl))
      all_goals exact .inr ⟨_,rfl⟩
     ·
      refine ent aC aK Tryz.func180 rfl rfl fun X0 hX=>?_;simp only [Tryz.f180,go_sem]
      repeat' (first|simp only [*,go_sem,Nat.reduceLT,Nat.reduceLeDiff,Nat.reduceEqDiff,↓reduceIte,Nat.reduceAdd,Int.reduceBEq,Int.reduceBNe,beq_self_eq_true,Bool.not_true]|((refine aO (id:=1) aC aK [7,8] [7,0,1,2,3,4,5,6,8] (by decide +kernel) ?_);(repeat' (first|(refine bC ?_)|((refine dB ?_ ?_ rfl rfl rfl ?_ ?_);(rotate_left 2);(focus ((repeat' (simp only [*,go_sem,Nat.reduceLT,Nat.reduceLeDiff,Nat.reduceEqDiff,↓reduceIte,Nat.reduceAdd,]));((refine And.intro ?_ ?_ <;> exact rfl))));(simp only [aF,bF]))|((refine dA ?_ rfl rfl rfl ?_ ?_);(rotate_left 1);(focus ((repeat' (first|exact bI|refine bA ?_ ?_));(all_goals ((repeat' (first|simp only [*,go_sem,Nat.reduceLT,Nat.reduceLeDiff,Nat.reduceEqDiff,↓reduceIte,Nat.reduceAdd,]|((with_reducible refine aQ (cV ct) ?_ ?_ ?_);exact rfl;exact rfl)));(try (exact rfl))))));(simp only [aF])))))|((with_reducible refine aQ (hrm) ?_ ?_ ?_);exact rfl;exact rfl)|((with_reducible refine aQ (hib) ?_ ?_ ?_);exact rfl;exact rfl)|((with_reducible refine cH (hput) ?_ ?_ ?_);exact rfl;exact fun _=>rfl))
    ·
     refine ent aC aK Tryz.func180 rfl rfl fun X0 hX=>?_;simp only [Tryz.f180,go_sem]
     repeat' (first|simp only [*,go_sem,Nat.reduceLT,Nat.reduceLeDiff,Nat.reduceEqDiff,↓reduceIte,Nat.reduceAdd,Int.reduceBNe,beq_self_eq_true,Bool.not_true]|((refine aO (id:=1) aC aK [7,8] [7,0,1,2,3,4,5,6,8] (by decide +kernel) ?_);(repeat' (first|(refine bC ?_)|((refine dB ?_ ?_ rfl rfl rfl ?_ ?_);(rotate_left 2);(focus ((repeat' (simp only [*,go_sem,Nat.reduceLT,Nat.reduceLeDiff,Nat.reduceEqDiff,↓reduceIte,Nat.reduceAdd,]));((refine And.intro ?_ ?_ <;> exact rfl))));(simp only [aF,bF]))|((refine dA ?_ rfl rfl rfl ?_ ?_);(rotate_left 1);(focus ((repeat' (first|exact bI|refine bA ?_ ?_));(all_goals ((repeat' (first|simp only [*,go_sem,Nat.reduceLT,Nat.reduceLeDiff,Nat.reduceEqDiff,↓reduceIte,Nat.reduceAdd,]|((with_reducible refine aQ (cV ct) ?_ ?_ ?_);exact rfl;exact rfl)));(try (exact rfl))))));(simp only [aF])))))|((with_reducible refine aQ (hrm) ?_ ?_ ?_);exact rfl;exact rfl))
     all_goals exact .inr ⟨_,rfl⟩
  ·
   refine ent aC aK Tryz.func180 rfl rfl fun X0 hX=>?_;simp only [Tryz.f180,go_sem]
   repeat' (first|simp only [*,go_sem,Nat.reduceLT,Nat.reduceLeDiff,Nat.reduceEqDiff,↓reduceIte,Nat.reduceAdd,Int.reduceBNe,beq_self_eq_true,]|((refine aO (id:=1) aC aK [7,8] [7,0,1,2,3,4,5,6,8] (by decide +kernel) ?_);(repeat' (first|(refine bC ?_)|((refine dB ?_ ?_ rfl rfl rfl ?_ ?_);(rotate_left 2);(focus ((repeat' (simp only [*,go_sem,Nat.reduceLT,Nat.reduceLeDiff,Nat.reduceEqDiff,↓reduceIte,Nat.reduceAdd,]));((refine And.intro ?_ ?_ <;> exact rfl))));(simp only [aF,bF]))|((refine dA ?_ rfl rfl rfl ?_ ?_);(rotate_left 1);(focus ((repeat' (first|exact bI|refine bA ?_ ?_));(all_goals ((repeat' (first|simp only [*,go_sem,Nat.reduceLT,Nat.reduceLeDiff,Nat.reduceEqDiff,↓reduceIte,Nat.reduceAdd,]|((with_reducible refine aQ (cV ct) ?_ ?_ ?_);exact rfl;exact rfl)));(try (exact rfl))))));(simp only [aF]))))))
   all_goals exact .inr ⟨_,rfl⟩
end places
end Go.Proofs.YtlbfnbldeefgmaaGreatDoor
end
