/- Part 41 of the proof of roomForks_card, set without needless blanks. No condition. -/
import Derived.Test.YtbpblnmhlhpebaaGreatDoorC39
set_option linter.unusedSimpArgs false
set_option linter.unusedVariables false
set_option maxRecDepth 100000
set_option maxHeartbeats 8000000
namespace Go.Proofs.YtbpblnmhlhpebaaGreatDoor
open Go Go.Dm Go.Proofs
section
theorem WV {a b:List UInt8} (ha:a.length≤100000) (hb:b.length≤100000):
  aA Tryz.prog 260 [.c (.p (.sl 1 [[.sl 1 (bT a)],[.sl 1 (bT b)]]))] [] fun r h=>r=.c (.own 0 0 (a.length+b.length))∧h=[.arr 1 (bT (a++b)) false]:=by
 have w1:IntKind.i64.wrap ((a.length:Int))=a.length:=wrap_i64 (by omega) (by omega)
 have w2:IntKind.i64.wrap ((a.length:Int)+b.length)=((a.length+b.length:Nat):Int):=by rw [wrap_i64 (by omega) (by omega)];omega
 have h1:decide ((a.length:Int)<0)=false:=decide_eq_false (by omega)
 have h2:decide (((a.length+b.length:Nat):Int)<0)=false:=decide_eq_false (by omega)
 refine zMw aB aK Tryz.func260 rfl rfl fun X0 hX=>?_
 simp only [Tryz.f260,go_sem]
 repeat' (first|simp only [*,go_sem,Nat.reduceLT,Nat.reduceLeDiff,Nat.reduceEqDiff,↓reduceIte,Nat.reduceAdd,Int.reduceLT,Int.reduceLE,Int.reduceAdd,Int.reduceNeg,Int.reduceToNat,Int.zero_add]|refine fG aB aK 3 ?_|refine YV (n:=a.length+b.length) (by omega) ?_|((with_reducible refine And.intro ?_ ?_);(focus (omega))))
 all_goals exact ⟨rfl,Nat.zero_le _,rfl,_,_,rfl,rfl,rfl⟩
section places
variable {t:List It} {p:List UInt8} {is:Bool} {k m:Int} {tt:Nat} {d:List UInt8}
theorem zKk {kind ck:Int} {cp cq:List UInt8} {cm:Int} {ct:Nat} {ca cn:Int} {cd:List UInt8} (h:OkT t) (hp:p.length≤1000000000) (hd:cd.length≤140737488355328) (ht:ct<18446744073709551616) (hkind:kind=1∨kind=2∨kind=3):
  aA Tryz.prog 188 [.agg (plc t p is k m tt d),.c (.p (.i .i64 kind)),.agg (clc ck cp cq cm ct ca cn cd)] [] fun r h =>
   r=.tup [.c (.p (.sl 5 (aT (vC t p is kind ⟨ck,cp,cq,cm,ct,ca,cn,cd⟩).1))),.c (.p (.i .i64 (vC t p is kind ⟨ck,cp,cq,cm,ct,ca,cn,cd⟩).2))]∧h=[]:=by
 refine bJ ?_
 have hb:=lU ht
 have hz:decide (0≤Lib.indexByte cd (Nat.toUInt8 0)) = !(cd.all fun b=>!(b == 0)):=by
  have:=indexByte_none 0 cd
  rw [← this,← decide_not]
  exact decide_eq_decide.2 (by rw [Int.not_lt];exact Iff.rfl)
 unfold vC zI1
 rcases hkind with rfl|rfl|rfl
 ·have hput:=gB (is:=is) (k:=k) (m:=m) (tt:=tt) (d:=d) (k':=1) (m':=cm) (tt':=dA ct) (d':=cd) h hp hd hb
  generalize hP:jQ t p ⟨1,cm,dA ct,cd⟩=P at hput
  have e:jQ t p ⟨1,if ((1:Int) == 3)=true then 511 else cm,dA ct,if ((1:Int) == 2)=true then [] else cd⟩=P:=hP
  rw [e]
  cases is
  ·cases hm:iL cm
   ·
    refine ent aB aK Tryz.func188 rfl rfl fun X0 hX=>?_
    simp only [Tryz.f188,go_sem]
    repeat' (first|simp only [*,go_sem,Nat.reduceLT,Nat.reduceLeDiff,Nat.reduceEqDiff,↓reduceIte,Nat.reduceAdd,Int.reduceBEq,Int.reduceBNe,Bool.not_false]|((refine aP (id:=1) aB aK [7,8] [7,0,1,2,3,4,5,6,8] (by decide +kernel) ?_);(repeat' (first|(refine bA ?_)|((refine dB ?_ ?_ rfl rfl rfl ?_ ?_);(rotate_left 2);(focus ((repeat' (simp only [*,go_sem,Nat.reduceLT,Nat.reduceLeDiff,Nat.reduceEqDiff,↓reduceIte,Nat.reduceAdd]));((refine And.intro ?_ ?_ <;> exact rfl))));(simp only [aJ,bQ]))|((refine dC ?_ rfl rfl rfl ?_ ?_);(rotate_left 1);(focus ((repeat' (first|exact bP|refine bE ?_ ?_));(all_goals ((repeat' (first|simp only [*,go_sem,Nat.reduceLT,Nat.reduceLeDiff,Nat.reduceEqDiff,↓reduceIte,Nat.reduceAdd]|((with_reducible refine aQ (cX ct) ?_ ?_ ?_);exact rfl;exact rfl)));(try (exact rfl))))));(simp only [aJ])))))|((with_reducible refine aQ (eK) ?_ ?_ ?_);exact rfl;exact rfl))
    all_goals exact .inr ⟨_,rfl⟩
   ·cases hl:decide ((2000:Int)<(cd.length:Int))
    ·
     refine ent aB aK Tryz.func188 rfl rfl fun X0 hX=>?_
     simp only [Tryz.f188,go_sem]
     repeat' (first|simp only [*,go_sem,Nat.reduceLT,Nat.reduceLeDiff,Nat.reduceEqDiff,↓reduceIte,Nat.reduceAdd,Int.reduceBEq,Int.reduceBNe,beq_self_eq_true,Bool.not_true]|((refine aP (id:=1) aB aK [7,8] [7,0,1,2,3,4,5,6,8] (by decide +kernel) ?_);(repeat' (first|(refine bA ?_)|((refine dB ?_ ?_ rfl rfl rfl ?_ ?_);(rotate_left 2);(focus ((repeat' (simp only [*,go_sem,Nat.reduceLT,Nat.reduceLeDiff,Nat.reduceEqDiff,↓reduceIte,Nat.reduceAdd]));((refine And.intro ?_ ?_ <;> exact rfl))));(simp only [aJ,bQ]))|((refine dC ?_ rfl rfl rfl ?_ ?_);(rotate_left 1);(focus ((repeat' (first|exact bP|refine bE ?_ ?_));(all_goals ((repeat' (first|simp only [*,go_sem,Nat.reduceLT,Nat.reduceLeDiff,Nat.reduceEqDiff,↓reduceIte,Nat.reduceAdd]|((with_reducible refine aQ (cX ct) ?_ ?_ ?_);exact rfl;exact rfl)));(try (exact rfl))))));(simp only [aJ])))))|((with_reducible refine aQ (eK) ?_ ?_ ?_);exact rfl;exact rfl)|((with_reducible refine bK (hput) ?_ ?_ ?_);exact rfl;exact fun _=>rfl))
    ·
     refine ent aB aK Tryz.func188 rfl rfl fun X0 hX=>?_
     simp only [Tryz.f188,go_sem]
     repeat' (first|simp only [*,go_sem,Nat.reduceLT,Nat.reduceLeDiff,Nat.reduceEqDiff,↓reduceIte,Nat.reduceAdd,Int.reduceBEq,Int.reduceBNe,beq_self_eq_true,Bool.not_true]|((refine aP (id:=1) aB aK [7,8] [7,0,1,2,3,4,5,6,8] (by decide +kernel) ?_);(repeat' (first|(refine bA ?_)|((refine dB ?_ ?_ rfl rfl rfl ?_ ?_);(rotate_left 2);(focus ((repeat' (simp only [*,go_sem,Nat.reduceLT,Nat.reduceLeDiff,Nat.reduceEqDiff,↓reduceIte,Nat.reduceAdd]));((refine And.intro ?_ ?_ <;> exact rfl))));(simp only [aJ,bQ]))|((refine dC ?_ rfl rfl rfl ?_ ?_);(rotate_left 1);(focus ((repeat' (first|exact bP|refine bE ?_ ?_));(all_goals ((repeat' (first|simp only [*,go_sem,Nat.reduceLT,Nat.reduceLeDiff,Nat.reduceEqDiff,↓reduceIte,Nat.reduceAdd]|((with_reducible refine aQ (cX ct) ?_ ?_ ?_);exact rfl;exact rfl)));(try (exact rfl))))));(simp only [aJ])))))|((with_reducible refine aQ (eK) ?_ ?_ ?_);exact rfl;exact rfl))
     all_goals exact .inr ⟨_,rfl⟩
  ·
   refine ent aB aK Tryz.func188 rfl rfl fun X0 hX=>?_
   simp only [Tryz.f188,go_sem]
   repeat' (first|simp only [*,go_sem,Nat.reduceLT,Nat.reduceLeDiff,Nat.reduceEqDiff,↓reduceIte,Nat.reduceAdd,Int.reduceBEq,Int.reduceBNe]|((refine aP (id:=1) aB aK [7,8] [7,0,1,2,3,4,5,6,8] (by decide +kernel) ?_);(repeat' (first|(refine bA ?_)|((refine dB ?_ ?_ rfl rfl rfl ?_ ?_);(rotate_left 2);(focus ((repeat' (simp only [*,go_sem,Nat.reduceLT,Nat.reduceLeDiff,Nat.reduceEqDiff,↓reduceIte,Nat.reduceAdd]));((refine And.intro ?_ ?_ <;> exact rfl))));(simp only [aJ,bQ]))|((refine dC ?_ rfl rfl rfl ?_ ?_);(rotate_left 1);(focus ((repeat' (first|exact bP|refine bE ?_ ?_));(all_goals ((repeat' (first|simp only [*,go_sem,Nat.reduceLT,Nat.reduceLeDiff,Nat.reduceEqDiff,↓reduceIte,Nat.reduceAdd]|((with_reducible refine aQ (cX ct) ?_ ?_ ?_);exact rfl;exact rfl)));(try (exact rfl))))));(simp only [aJ]))))))
   all_goals exact .inr ⟨_,rfl⟩
 ·have hput:=gB (is:=is) (k:=k) (m:=m) (tt:=tt) (d:=d) (k':=2) (m':=cm) (tt':=dA ct) (d':=[]) h hp (by simp) hb
  generalize hP:jQ t p ⟨2,cm,dA ct,[]⟩=P at hput
  have e:jQ t p ⟨2,if ((2:Int) == 3)=true then 511 else cm,dA ct,if ((2:Int) == 2)=true then [] else cd⟩=P:=hP
  rw [e]
  have hput:aA Tryz.prog 255 [.agg (plc t p is k m tt d),.agg [.p (.i .i64 2),.p (.i .i64 cm),.p (.f (dA ct)),.p .nil]] [] fun r h=>r=.tup [.c (.p (.sl 5 (aT P.1))),.c (.p (.i .i64 P.2))]∧h=[]:=by
   refine aA.wkargs ?_ hput
   simp [zEp,wkD,zEr,wkC,wkP,oA]
  cases is
  ·cases hm:iL cm
   ·
    refine ent aB aK Tryz.func188 rfl rfl fun X0 hX=>?_
    simp only [Tryz.f188,go_sem]
    repeat' (first|simp only [*,go_sem,Nat.reduceLT,Nat.reduceEqDiff,↓reduceIte,Nat.reduceAdd,Int.reduceBEq,bne_self_eq_false,Bool.not_false]|((refine aP (id:=1) aB aK [7,8] [7,0,1,2,3,4,5,6,8] (by decide +kernel) ?_);(repeat' (first|(refine bA ?_)|((refine dB ?_ ?_ rfl rfl rfl ?_ ?_);(rotate_left 2);(focus ((repeat' (simp only [*,go_sem,Nat.reduceLT,Nat.reduceLeDiff,Nat.reduceEqDiff,↓reduceIte,Nat.reduceAdd]));((refine And.intro ?_ ?_ <;> exact rfl))));(simp only [aJ,bQ]))|((refine dC ?_ rfl rfl rfl ?_ ?_);(rotate_left 1);(focus ((repeat' (first|exact bP|refine bE ?_ ?_));(all_goals ((repeat' (first|simp only [*,go_sem,Nat.reduceLT,Nat.reduceLeDiff,Nat.reduceEqDiff,↓reduceIte,Nat.reduceAdd]|((with_reducible refine aQ (cX ct) ?_ ?_ ?_);exact rfl;exact rfl)));(try (exact rfl))))));(simp only [aJ])))))|((with_reducible refine aQ (eK) ?_ ?_ ?_);exact rfl;exact rfl))
    all_goals exact .inr ⟨_,rfl⟩
   ·
    refine ent aB aK Tryz.func188 rfl rfl fun X0 hX=>?_
    simp only [Tryz.f188,go_sem]
    repeat' (first|simp only [*,go_sem,Nat.reduceLT,Nat.reduceLeDiff,Nat.reduceEqDiff,↓reduceIte,Nat.reduceAdd,Int.reduceBEq,bne_self_eq_false,Bool.not_true]|((refine aP (id:=1) aB aK [7,8] [7,0,1,2,3,4,5,6,8] (by decide +kernel) ?_);(repeat' (first|(refine bA ?_)|((refine dB ?_ ?_ rfl rfl rfl ?_ ?_);(rotate_left 2);(focus ((repeat' (simp only [*,go_sem,Nat.reduceLT,Nat.reduceLeDiff,Nat.reduceEqDiff,↓reduceIte,Nat.reduceAdd]));((refine And.intro ?_ ?_ <;> exact rfl))));(simp only [aJ,bQ]))|((refine dC ?_ rfl rfl rfl ?_ ?_);(rotate_left 1);(focus ((repeat' (first|exact bP|refine bE ?_ ?_));(all_goals ((repeat' (first|simp only [*,go_sem,Nat.reduceLT,Nat.reduceLeDiff,Nat.reduceEqDiff,↓reduceIte,Nat.reduceAdd]|((with_reducible refine aQ (cX ct) ?_ ?_ ?_);exact rfl;exact rfl)));(try (exact rfl))))));(simp only [aJ])))))|((with_reducible refine aQ (eK) ?_ ?_ ?_);exact rfl;exact rfl)|((with_reducible refine bK (hput) ?_ ?_ ?_);exact rfl;exact fun _=>rfl))
  ·
   refine ent aB aK Tryz.func188 rfl rfl fun X0 hX=>?_
   simp only [Tryz.f188,go_sem]
   repeat' (first|simp only [*,go_sem,Nat.reduceLT,Nat.reduceEqDiff,↓reduceIte,Nat.reduceAdd,Int.reduceBEq,bne_self_eq_false]|((refine aP (id:=1) aB aK [7,8] [7,0,1,2,3,4,5,6,8] (by decide +kernel) ?_);(repeat' (first|(refine bA ?_)|((refine dB ?_ ?_ rfl rfl rfl ?_ ?_);(rotate_left 2);(focus ((repeat' (simp only [*,go_sem,Nat.reduceLT,Nat.reduceLeDiff,Nat.reduceEqDiff,↓reduceIte,Nat.reduceAdd]));((refine And.intro ?_ ?_ <;> exact rfl))));(simp only [aJ,bQ]))|((refine dC ?_ rfl rfl rfl ?_ ?_);(rotate_left 1);(focus ((repeat' (first|exact bP|refine bE ?_ ?_));(all_goals ((repeat' (first|simp only [*,go_sem,Nat.reduceLT,Nat.reduceLeDiff,Nat.reduceEqDiff,↓reduceIte,Nat.reduceAdd]|((with_reducible refine aQ (cX ct) ?_ ?_ ?_);exact rfl;exact rfl)));(try (exact rfl))))));(simp only [aJ]))))))
   all_goals exact .inr ⟨_,rfl⟩
 ·have hput:=gB (is:=is) (k:=k) (m:=m) (tt:=tt) (d:=d) (k':=3) (m':=511) (tt':=dA ct) (d':=cd) h hp hd hb
  generalize hP:jQ t p ⟨3,511,dA ct,cd⟩=P at hput
  have e:jQ t p ⟨3,if ((3:Int) == 3)=true then 511 else cm,dA ct,if ((3:Int) == 2)=true then [] else cd⟩=P:=hP
  rw [e]
  have hm:iL 511=true:=rfl
  have hrm:=eK (m:=511)
  rw [hm] at hrm
  cases is
  ·cases cd with
   | nil =>
    refine ent aB aK Tryz.func188 rfl rfl fun X0 hX=>?_
    simp only [Tryz.f188,go_sem]
    repeat' (first|simp only [*,go_sem,Nat.reduceLT,Nat.reduceLeDiff,Nat.reduceEqDiff,↓reduceIte,Nat.reduceAdd,Int.reduceLT,Int.reduceBNe,beq_self_eq_true,Bool.not_true]|((refine aP (id:=1) aB aK [7,8] [7,0,1,2,3,4,5,6,8] (by decide +kernel) ?_);(repeat' (first|(refine bA ?_)|((refine dB ?_ ?_ rfl rfl rfl ?_ ?_);(rotate_left 2);(focus ((repeat' (simp only [*,go_sem,Nat.reduceLT,Nat.reduceLeDiff,Nat.reduceEqDiff,↓reduceIte,Nat.reduceAdd]));((refine And.intro ?_ ?_ <;> exact rfl))));(simp only [aJ,bQ]))|((refine dC ?_ rfl rfl rfl ?_ ?_);(rotate_left 1);(focus ((repeat' (first|exact bP|refine bE ?_ ?_));(all_goals ((repeat' (first|simp only [*,go_sem,Nat.reduceLT,Nat.reduceLeDiff,Nat.reduceEqDiff,↓reduceIte,Nat.reduceAdd]|((with_reducible refine aQ (cX ct) ?_ ?_ ?_);exact rfl;exact rfl)));(try (exact rfl))))));(simp only [aJ])))))|((with_reducible refine aQ (hrm) ?_ ?_ ?_);exact rfl;exact rfl))
    all_goals exact .inr ⟨_,rfl⟩
   | cons x l =>
    have h1:decide (((l.length+1:Nat):Int)<1)=false:=decide_eq_false (by omega)
    have hib:=mH (d:=x::l) (c:=0) (by simp)
    rw [show Int.toNat 0=0 from rfl] at hib
    cases hl:decide ((120:Int)<((l.length+1:Nat):Int))
    ·generalize ((x::l).all fun b=>!(b == 0))=q at hz ⊢
     cases q
     ·
      refine ent aB aK Tryz.func188 rfl rfl fun X0 hX=>?_
      simp only [Tryz.f188,go_sem]
      repeat' (first|simp only [*,go_sem,Nat.reduceLT,Nat.reduceLeDiff,Nat.reduceEqDiff,↓reduceIte,Nat.reduceAdd,Int.reduceBNe,beq_self_eq_true,Bool.not_true,Bool.not_false]|((refine aP (id:=1) aB aK [7,8] [7,0,1,2,3,4,5,6,8] (by decide +kernel) ?_);(repeat' (first|(refine bA ?_)|((refine dB ?_ ?_ rfl rfl rfl ?_ ?_);(rotate_left 2);(focus ((repeat' (simp only [*,go_sem,Nat.reduceLT,Nat.reduceLeDiff,Nat.reduceEqDiff,↓reduceIte,Nat.reduceAdd]));((refine And.intro ?_ ?_ <;> exact rfl))));(simp only [aJ,bQ]))|((refine dC ?_ rfl rfl rfl ?_ ?_);(rotate_left 1);(focus ((repeat' (first|exact bP|refine bE ?_ ?_));(all_goals ((repeat' (first|simp only [*,go_sem,Nat.reduceLT,Nat.reduceLeDiff,Nat.reduceEqDiff,↓reduceIte,Nat.reduceAdd]|((with_reducible refine aQ (cX ct) ?_ ?_ ?_);exact rfl;exact rfl)));(try (exact rfl))))));(simp only [aJ])))))|((with_reducible refine aQ (hrm) ?_ ?_ ?_);exact rfl;exact rfl)|((with_reducible refine aQ (hib) ?_ ?_ ?_);exact rfl;exact rfl))
      all_goals exact .inr ⟨_,rfl⟩
     ·
      refine ent aB aK Tryz.func188 rfl rfl fun X0 hX=>?_
      simp only [Tryz.f188,go_sem]
      repeat' (first|simp only [*,go_sem,Nat.reduceLT,Nat.reduceLeDiff,Nat.reduceEqDiff,↓reduceIte,Nat.reduceAdd,Int.reduceBEq,Int.reduceBNe,beq_self_eq_true,Bool.not_true]|((refine aP (id:=1) aB aK [7,8] [7,0,1,2,3,4,5,6,8] (by decide +kernel) ?_);(repeat' (first|(refine bA ?_)|((refine dB ?_ ?_ rfl rfl rfl ?_ ?_);(rotate_left 2);(focus ((repeat' (simp only [*,go_sem,Nat.reduceLT,Nat.reduceLeDiff,Nat.reduceEqDiff,↓reduceIte,Nat.reduceAdd]));((refine And.intro ?_ ?_ <;> exact rfl))));(simp only [aJ,bQ]))|((refine dC ?_ rfl rfl rfl ?_ ?_);(rotate_left 1);(focus ((repeat' (first|exact bP|refine bE ?_ ?_));(all_goals ((repeat' (first|simp only [*,go_sem,Nat.reduceLT,Nat.reduceLeDiff,Nat.reduceEqDiff,↓reduceIte,Nat.reduceAdd]|((with_reducible refine aQ (cX ct) ?_ ?_ ?_);exact rfl;exact rfl)));(try (exact rfl))))));(simp only [aJ])))))|((with_reducible refine aQ (hrm) ?_ ?_ ?_);exact rfl;exact rfl)|((with_reducible refine aQ (hib) ?_ ?_ ?_);exact rfl;exact rfl)|((with_reducible refine bK (hput) ?_ ?_ ?_);exact rfl;exact fun _=>rfl))
    ·
     refine ent aB aK Tryz.func188 rfl rfl fun X0 hX=>?_
     simp only [Tryz.f188,go_sem]
     repeat' (first|simp only [*,go_sem,Nat.reduceLT,Nat.reduceLeDiff,Nat.reduceEqDiff,↓reduceIte,Nat.reduceAdd,Int.reduceBNe,beq_self_eq_true,Bool.not_true]|((refine aP (id:=1) aB aK [7,8] [7,0,1,2,3,4,5,6,8] (by decide +kernel) ?_);(repeat' (first|(refine bA ?_)|((refine dB ?_ ?_ rfl rfl rfl ?_ ?_);(rotate_left 2);(focus ((repeat' (simp only [*,go_sem,Nat.reduceLT,Nat.reduceLeDiff,Nat.reduceEqDiff,↓reduceIte,Nat.reduceAdd]));((refine And.intro ?_ ?_ <;> exact rfl))));(simp only [aJ,bQ]))|((refine dC ?_ rfl rfl rfl ?_ ?_);(rotate_left 1);(focus ((repeat' (first|exact bP|refine bE ?_ ?_));(all_goals ((repeat' (first|simp only [*,go_sem,Nat.reduceLT,Nat.reduceLeDiff,Nat.reduceEqDiff,↓reduceIte,Nat.reduceAdd]|((with_reducible refine aQ (cX ct) ?_ ?_ ?_);exact rfl;exact rfl)));(try (exact rfl))))));(simp only [aJ])))))|((with_reducible refine aQ (hrm) ?_ ?_ ?_);exact rfl;exact rfl))
     all_goals exact .inr ⟨_,rfl⟩
  ·
   refine ent aB aK Tryz.func188 rfl rfl fun X0 hX=>?_
   simp only [Tryz.f188,go_sem]
   repeat' (first|simp only [*,go_sem,Nat.reduceLT,Nat.reduceLeDiff,Nat.reduceEqDiff,↓reduceIte,Nat.reduceAdd,Int.reduceBNe,beq_self_eq_true]|((refine aP (id:=1) aB aK [7,8] [7,0,1,2,3,4,5,6,8] (by decide +kernel) ?_);(repeat' (first|(refine bA ?_)|((refine dB ?_ ?_ rfl rfl rfl ?_ ?_);(rotate_left 2);(focus ((repeat' (simp only [*,go_sem,Nat.reduceLT,Nat.reduceLeDiff,Nat.reduceEqDiff,↓reduceIte,Nat.reduceAdd]));((refine And.intro ?_ ?_ <;> exact rfl))));(simp only [aJ,bQ]))|((refine dC ?_ rfl rfl rfl ?_ ?_);(rotate_left 1);(focus ((repeat' (first|exact bP|refine bE ?_ ?_));(all_goals ((repeat' (first|simp only [*,go_sem,Nat.reduceLT,Nat.reduceLeDiff,Nat.reduceEqDiff,↓reduceIte,Nat.reduceAdd]|((with_reducible refine aQ (cX ct) ?_ ?_ ?_);exact rfl;exact rfl)));(try (exact rfl))))));(simp only [aJ]))))))
   all_goals exact .inr ⟨_,rfl⟩
end places
end
section
section places
variable {t:List It} {p:List UInt8} {is:Bool} {k m:Int} {tt:Nat} {d:List UInt8}
theorem zIw {n:Int} (h:OkT t) (hp:p.length≤1000000000) (hd:d.length≤2000) (ht:tt<18446744073709551616):
  aA Tryz.prog 194 [.agg (plc t p is k m tt d),.c (.p (.i .i64 n))] [] fun r h =>
   r=.tup [.c (.p (.sl 5 (aT (zS t p ⟨k,m,tt,d⟩ n).1))),.c (.p (.i .i64 (zS t p ⟨k,m,tt,d⟩ n).2))]∧h=[]:=by
 refine bJ ?_
 unfold zS
 simp only
 cases h0:decide (n<0)
 ·obtain ⟨f,rfl⟩:∃ f:Nat,n=f:=⟨n.toNat,by simp at h0;omega⟩
  rw [Int.toNat_natCast]
  cases h1:decide ((d.length:Int)<(f:Int))
  ·have h1':f≤d.length:=by simp at h1;omega
   have hf0:(0:Int)≤(f:Int):=by omega
   have hfl:(f:Int)≤(d.length:Int):=by omega
   have htl:(d.take f).length≤140737488355328:=by rw [List.length_take];omega
   have hput:=gB (is:=is) (k:=k) (m:=m) (tt:=tt) (d:=d.take f) (k':=k) (m':=m) (tt':=tt) (d':=d.take f) h hp htl ht
   refine ent aB aK Tryz.func194 rfl rfl fun X0 hX=>?_
   simp only [Tryz.f194,go_sem]
   repeat' (first|simp only [*,go_sem,Nat.reduceLT,Nat.reduceLeDiff,Nat.reduceEqDiff,↓reduceIte,Nat.reduceAdd,Int.reduceLE,Int.reduceToNat]|((with_reducible refine bK (hput) ?_ ?_ ?_);exact rfl;exact fun _=>rfl))
  ·
   refine ent aB aK Tryz.func194 rfl rfl fun X0 hX=>?_
   simp only [Tryz.f194,go_sem]
   repeat' (simp only [*,go_sem,Nat.reduceLT,Nat.reduceEqDiff,↓reduceIte,Nat.reduceAdd])
   all_goals exact .inr ⟨_,rfl⟩
 ·
  refine ent aB aK Tryz.func194 rfl rfl fun X0 hX=>?_
  simp only [Tryz.f194,go_sem]
  repeat' (simp only [*,go_sem,Nat.reduceLT,Nat.reduceEqDiff,↓reduceIte])
  all_goals exact .inr ⟨_,rfl⟩
theorem zIq {a:Int} {b:List UInt8} (h:OkT t) (hp:p.length≤1000000000) (hd:d.length≤2000) (ht:tt<18446744073709551616) (ha:-9223372036854775808≤a∧a≤9223372036854775807) (hb:b.length≤140737488355328):
  aA Tryz.prog 193 [.agg (plc t p is k m tt d),.c (.p (.i .i64 a)),.c (.p (.sl 1 (bT b)))] [] fun r h =>
   r=.tup [.c (.p (.sl 5 (aT (zU t p ⟨k,m,tt,d⟩ a b).1))),.c (.p (.i .i64 (zU t p ⟨k,m,tt,d⟩ a b).2))]∧h=[]:=by
 refine bJ ?_
 unfold zU
 simp only
 cases h0:decide (a<0)
 ·obtain ⟨f,rfl⟩:∃ f:Nat,a=f:=⟨a.toNat,by simp at h0;omega⟩
  rw [Int.toNat_natCast]
  cases h1:decide ((d.length:Int)<(f:Int))
  ·have h1':f≤d.length:=by simp at h1;omega
   have hf0:(0:Int)≤(f:Int):=by omega
   have hfl:(f:Int)≤(d.length:Int):=by omega
   have w1:IntKind.i64.wrap (2000-(f:Int))=2000-(f:Int):=wrap_i64 (by omega) (by omega)
   cases h2:decide (2000-(f:Int)<(b.length:Int))
   ·have h2':f+b.length≤2000:=by simp at h2;omega
    have htk:(d.take f).length=f:=by rw [List.length_take];omega
    have hcc:=WV (a:=d.take f) (b:=b) (by omega) (by omega)
    rw [htk] at hcc
    have hwl:(wrD d f b).length≤140737488355328:=Nat.le_trans (zDG hd h1' h2') (by decide)
    have hput:=gB (is:=is) (k:=k) (m:=m) (tt:=tt) (d:=wrD d f b) (k':=k) (m':=m) (tt':=tt) (d':=wrD d f b) h hp hwl ht
    have hal:(d.take f++b).length=f+b.length:=by rw [List.length_append,htk]
    cases h3:decide (((f+b.length:Nat):Int)<(d.length:Int))
    ·have e1:wrD d f b=(d.take f++b).take (f+b.length):=by
      have:¬ f+b.length<d.length:=by simp at h3;omega
      unfold wrD
      rw [List.drop_of_length_le (by omega),List.append_nil,List.take_of_length_le (l:=d.take f++b) (by omega)]
     rw [e1] at hput ⊢
     refine ent aB aK Tryz.func193 rfl rfl fun X0 hX=>?_
     simp only [Tryz.f193,go_sem]
     repeat' (first|simp only [*,go_sem,Nat.reduceLT,Nat.reduceLeDiff,Nat.reduceEqDiff,↓reduceIte,Nat.reduceAdd,Int.reduceLE,Int.reduceToNat]|refine zB2 hcc rfl ?_|((with_reducible refine bK (hput) ?_ ?_ ?_);exact rfl;exact fun _=>rfl)|((with_reducible apply aA.frz);exact rfl;exact rfl)|((with_reducible refine And.intro ?_ ?_);(focus (decide))))
    ·have h4:f+b.length≤d.length:=by simp at h3;omega
     have h5:((f+b.length:Nat):Int)≤(d.length:Int):=by omega
     have h6:(0:Int)≤((f+b.length:Nat):Int):=by omega
     have hdl:(d.drop (f+b.length)).length=d.length-(f+b.length):=List.length_drop
     have e2:wrD d f b=(d.take f++b++d.drop (f+b.length)).take (f+b.length+(d.length-(f+b.length))):=by
      unfold wrD
      rw [List.take_of_length_le (l:=d.take f++b++d.drop (f+b.length)) (by rw [List.length_append,hal,hdl];omega)]
     rw [e2] at hput ⊢
     refine ent aB aK Tryz.func193 rfl rfl fun X0 hX=>?_
     simp only [Tryz.f193,go_sem]
     repeat' (first|simp only [*,go_sem,Nat.reduceLT,Nat.reduceLeDiff,Nat.reduceEqDiff,↓reduceIte,Nat.reduceAdd,Int.reduceLE,Int.reduceToNat]|refine zB2 hcc rfl ?_|((refine aP (id:=8) aB aK [9,12] [0,1,2,3,4,5,6,7,8,9,10,11,12] (by decide +kernel) ?_);(repeat' (first|(refine bA ?_)|((refine dB ?_ ?_ rfl rfl rfl ?_ ?_);(rotate_left 2);(focus ((repeat' (first|simp only [*,go_sem,Nat.reduceLT,Nat.reduceLeDiff,Nat.reduceEqDiff,↓reduceIte,Nat.reduceAdd]|((with_reducible refine And.intro ?_ ?_);(focus (omega)))));((refine And.intro ?_ ?_ <;> exact rfl))));(simp only [aJ,bQ]))|((refine dC ?_ rfl rfl rfl ?_ ?_);(rotate_left 1);(focus ((repeat' (first|exact bP|refine bE ?_ ?_));(all_goals ((repeat' (first|simp only [*,go_sem,Nat.reduceLT,Nat.reduceEqDiff,↓reduceIte,Nat.reduceAdd]|((with_reducible refine And.intro ?_ ?_);(focus (omega)))));(try (exact rfl))))));(simp only [aJ])))))|((with_reducible refine bK (hput) ?_ ?_ ?_);exact rfl;exact fun _=>rfl)|((with_reducible apply aA.frz);exact rfl;exact rfl)|((with_reducible refine And.intro ?_ ?_);(focus (decide))))
   ·
    refine ent aB aK Tryz.func193 rfl rfl fun X0 hX=>?_
    simp only [Tryz.f193,go_sem]
    repeat' (simp only [*,go_sem,Nat.reduceLT,Nat.reduceEqDiff,↓reduceIte,Nat.reduceAdd])
    all_goals exact .inr ⟨_,rfl⟩
  ·
   refine ent aB aK Tryz.func193 rfl rfl fun X0 hX=>?_
   simp only [Tryz.f193,go_sem]
   repeat' (simp only [*,go_sem,Nat.reduceLT,Nat.reduceEqDiff,↓reduceIte,Nat.reduceAdd])
   all_goals exact .inr ⟨_,rfl⟩
 ·
  refine ent aB aK Tryz.func193 rfl rfl fun X0 hX=>?_
  simp only [Tryz.f193,go_sem]
  repeat' (simp only [*,go_sem,Nat.reduceLT,Nat.reduceEqDiff,↓reduceIte,Nat.reduceAdd])
  all_goals exact .inr ⟨_,rfl⟩
theorem zH9 (h:OkT t) (hp:p.length≤1000000000):
  aA Tryz.prog 189 [.agg (plc t p is k m tt d)] [] fun r h =>
   r=.tup [.c (.p (.sl 5 (aT (zJ t p is ⟨k,m,tt,d⟩).1))),.c (.p (.i .i64 (zJ t p is ⟨k,m,tt,d⟩).2))]∧h=[]:=by
 have htl:=h.len
 have hnm:=GU (p:=p) h
 have hrm:=nD (t:=t) (p:=p) hp (by omega) fun x hx=>Nat.le_trans (h.dlen x hx) (by decide)
 refine bJ ?_
 unfold zJ TF
 generalize fX t p=N at hnm ⊢
 cases h0:(p == [])
 ·cases is
  ·
   refine ent aB aK Tryz.func189 rfl rfl fun X0 hX=>?_
   simp only [Tryz.f189,go_sem]
   repeat' (first|simp only [*,go_sem,Nat.reduceLT,Nat.reduceLeDiff,Nat.reduceEqDiff,↓reduceIte,Nat.reduceAdd,Bool.not_false]|((with_reducible refine aQ (iE) ?_ ?_ ?_);exact rfl;exact rfl))
   all_goals exact .inr ⟨_,rfl⟩
  ·cases hk:(k == 2)
   ·
    refine ent aB aK Tryz.func189 rfl rfl fun X0 hX=>?_
    simp only [Tryz.f189,go_sem]
    repeat' (first|simp only [*,go_sem,Nat.reduceLT,Nat.reduceLeDiff,Nat.reduceEqDiff,↓reduceIte,Nat.reduceAdd,Bool.not_true,Bool.not_false]|((with_reducible refine aQ (iE) ?_ ?_ ?_);exact rfl;exact rfl)|((with_reducible refine aQ (dH) ?_ ?_ ?_);exact rfl;exact rfl))
    all_goals exact .inr ⟨_,rfl⟩
   ·cases hn:decide ((0:Int)<(N.length:Int))
    ·
     refine ent aB aK Tryz.func189 rfl rfl fun X0 hX=>?_
     simp only [Tryz.f189,go_sem]
     repeat' (first|simp only [*,go_sem,Nat.reduceLT,Nat.reduceLeDiff,Nat.reduceEqDiff,↓reduceIte,Nat.reduceAdd,Bool.not_true]|((with_reducible refine aQ (iE) ?_ ?_ ?_);exact rfl;exact rfl)|((with_reducible refine aQ (dH) ?_ ?_ ?_);exact rfl;exact rfl)|((with_reducible refine bK (hnm) ?_ ?_ ?_);exact rfl;exact fun _=>rfl)|((with_reducible refine bK (hrm) ?_ ?_ ?_);exact rfl;exact fun _=>rfl))
    ·
     refine ent aB aK Tryz.func189 rfl rfl fun X0 hX=>?_
     simp only [Tryz.f189,go_sem]
     repeat' (first|simp only [*,go_sem,Nat.reduceLT,Nat.reduceLeDiff,Nat.reduceEqDiff,↓reduceIte,Nat.reduceAdd,Bool.not_true]|((with_reducible refine aQ (iE) ?_ ?_ ?_);exact rfl;exact rfl)|((with_reducible refine aQ (dH) ?_ ?_ ?_);exact rfl;exact rfl)|((with_reducible refine bK (hnm) ?_ ?_ ?_);exact rfl;exact fun _=>rfl))
     all_goals exact .inr ⟨_,rfl⟩
 ·
  refine ent aB aK Tryz.func189 rfl rfl fun X0 hX=>?_
  simp only [Tryz.f189,go_sem]
  repeat' (first|simp only [*,go_sem,Nat.reduceLT,Nat.reduceLeDiff,Nat.reduceEqDiff,↓reduceIte,Nat.reduceAdd]|((with_reducible refine aQ (iE) ?_ ?_ ?_);exact rfl;exact rfl))
  all_goals exact .inr ⟨_,rfl⟩
theorem zL6 {ck:Int} {cp cq:List UInt8} {cm:Int} {ct:Nat} {ca cn:Int} {cd:List UInt8} (h:OkT t) (hp:p.length≤1000000000) (hd:d.length≤2000) (ht:tt<18446744073709551616) (hct:ct<18446744073709551616):
  aA Tryz.prog 190 [.agg (plc t p is k m tt d),.agg (clc ck cp cq cm ct ca cn cd)] [] fun r h =>
   r=.tup [.c (.p (.sl 5 (aT (zHN t p is ⟨k,m,tt,d⟩ ⟨ck,cp,cq,cm,ct,ca,cn,cd⟩).1))),.c (.p (.i .i64 (zHN t p is ⟨k,m,tt,d⟩ ⟨ck,cp,cq,cm,ct,ca,cn,cd⟩).2))]∧h=[]:=by
 have hb:=lU hct
 have hputm:=gB (is:=is) (k:=k) (m:=cm) (tt:=tt) (d:=d) (k':=k) (m':=cm) (tt':=tt) (d':=d) h hp (by omega) ht
 have hputt:=gB (is:=is) (k:=k) (m:=m) (tt:=dA ct) (d:=d) (k':=k) (m':=m) (tt':=dA ct) (d':=d) h hp (by omega) hb
 refine bJ ?_
 unfold zHN
 simp only
 cases is
 ·
  refine ent aB aK Tryz.func190 rfl rfl fun X0 hX=>?_
  simp only [Tryz.f190,go_sem]
  repeat' (simp only [*,go_sem,Nat.reduceLT,Nat.reduceEqDiff,↓reduceIte,Bool.not_false])
  all_goals exact .inr ⟨_,rfl⟩
 ·cases h0:(p == [])
  ·cases hk:(ck == 10)
   ·
    refine ent aB aK Tryz.func190 rfl rfl fun X0 hX=>?_
    simp only [Tryz.f190,go_sem]
    repeat' (first|simp only [*,go_sem,Nat.reduceLT,Nat.reduceLeDiff,Nat.reduceEqDiff,↓reduceIte,Nat.reduceAdd,Bool.not_true]|((with_reducible refine aQ (iE) ?_ ?_ ?_);exact rfl;exact rfl)|((with_reducible refine aQ (cX ct) ?_ ?_ ?_);exact rfl;exact rfl)|((with_reducible refine bK (hputt) ?_ ?_ ?_);exact rfl;exact fun _=>rfl))
   ·cases hm:iL cm
    ·
     refine ent aB aK Tryz.func190 rfl rfl fun X0 hX=>?_
     simp only [Tryz.f190,go_sem]
     repeat' (first|simp only [*,go_sem,Nat.reduceLT,Nat.reduceLeDiff,Nat.reduceEqDiff,↓reduceIte,Nat.reduceAdd,Bool.not_true,Bool.not_false]|((with_reducible refine aQ (iE) ?_ ?_ ?_);exact rfl;exact rfl)|((with_reducible refine aQ (eK) ?_ ?_ ?_);exact rfl;exact rfl))
     all_goals exact .inr ⟨_,rfl⟩
    ·
     refine ent aB aK Tryz.func190 rfl rfl fun X0 hX=>?_
     simp only [Tryz.f190,go_sem]
     repeat' (first|simp only [*,go_sem,Nat.reduceLT,Nat.reduceLeDiff,Nat.reduceEqDiff,↓reduceIte,Nat.reduceAdd,Bool.not_true]|((with_reducible refine aQ (iE) ?_ ?_ ?_);exact rfl;exact rfl)|((with_reducible refine aQ (eK) ?_ ?_ ?_);exact rfl;exact rfl)|((with_reducible refine bK (hputm) ?_ ?_ ?_);exact rfl;exact fun _=>rfl))
  ·
   refine ent aB aK Tryz.func190 rfl rfl fun X0 hX=>?_
   simp only [Tryz.f190,go_sem]
   repeat' (first|simp only [*,go_sem,Nat.reduceLT,Nat.reduceLeDiff,Nat.reduceEqDiff,↓reduceIte,Nat.reduceAdd,Bool.not_true]|((with_reducible refine aQ (iE) ?_ ?_ ?_);exact rfl;exact rfl))
   all_goals exact .inr ⟨_,rfl⟩
theorem zLd {q:List UInt8} {is':Bool} {k' m':Int} {tt':Nat} {d':List UInt8} (h:OkT t):
  aA Tryz.prog 258 [.agg (plc t p true k m tt d),.agg (plc t q is' k' m' tt' d')] [] fun r h =>
   r=.c (.p (.i .i64 (XF (k == 2) t q is' ⟨k',m',tt',d'⟩)))∧h=[]:=by
 have hnm:=GU (p:=q) h
 unfold XF TF
 generalize fX t q=N at hnm ⊢
 cases is'
 ·
  refine ent aB aK Tryz.func258 rfl rfl fun X0 hX=>?_
  simp only [Tryz.f258,go_sem]
  repeat' (simp only [*,go_sem,Nat.reduceLT,Nat.reduceEqDiff,↓reduceIte,Bool.not_false])
 ·cases hk:(k == 2)
  ·cases hk':(k' == 2)
   ·
    refine ent aB aK Tryz.func258 rfl rfl fun X0 hX=>?_
    simp only [Tryz.f258,go_sem]
    repeat' (first|simp only [*,go_sem,Nat.reduceLT,Nat.reduceLeDiff,Nat.reduceEqDiff,↓reduceIte,Nat.reduceAdd,Bool.not_true,Bool.not_false]|((with_reducible refine aQ (dH) ?_ ?_ ?_);exact rfl;exact rfl))
   ·
    refine ent aB aK Tryz.func258 rfl rfl fun X0 hX=>?_
    simp only [Tryz.f258,go_sem]
    repeat' (first|simp only [*,go_sem,Nat.reduceLT,Nat.reduceLeDiff,Nat.reduceEqDiff,↓reduceIte,Nat.reduceAdd,Bool.not_true,Bool.not_false]|((with_reducible refine aQ (dH) ?_ ?_ ?_);exact rfl;exact rfl))
  ·cases hk':(k' == 2)
   ·
    refine ent aB aK Tryz.func258 rfl rfl fun X0 hX=>?_
    simp only [Tryz.f258,go_sem]
    repeat' (first|simp only [*,go_sem,Nat.reduceLT,Nat.reduceLeDiff,Nat.reduceEqDiff,↓reduceIte,Nat.reduceAdd,Bool.not_true,Bool.not_false]|((with_reducible refine aQ (dH) ?_ ?_ ?_);exact rfl;exact rfl))
   ·cases hn:decide ((0:Int)<(N.length:Int))
    ·
     refine ent aB aK Tryz.func258 rfl rfl fun X0 hX=>?_
     simp only [Tryz.f258,go_sem]
     repeat' (first|simp only [*,go_sem,Nat.reduceLT,Nat.reduceLeDiff,Nat.reduceEqDiff,↓reduceIte,Nat.reduceAdd,Bool.not_true]|((with_reducible refine aQ (dH) ?_ ?_ ?_);exact rfl;exact rfl)|((with_reducible refine bK (hnm) ?_ ?_ ?_);exact rfl;exact fun _=>rfl))
    ·
     refine ent aB aK Tryz.func258 rfl rfl fun X0 hX=>?_
     simp only [Tryz.f258,go_sem]
     repeat' (first|simp only [*,go_sem,Nat.reduceLT,Nat.reduceLeDiff,Nat.reduceEqDiff,↓reduceIte,Nat.reduceAdd,Bool.not_true]|((with_reducible refine aQ (dH) ?_ ?_ ?_);exact rfl;exact rfl)|((with_reducible refine bK (hnm) ?_ ?_ ?_);exact rfl;exact fun _=>rfl))
end places
end
end Go.Proofs.YtbpblnmhlhpebaaGreatDoor
