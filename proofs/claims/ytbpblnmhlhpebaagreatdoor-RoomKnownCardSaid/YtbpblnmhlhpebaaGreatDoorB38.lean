/- Part 39 of the proof of roomKnown_card. No condition. -/
import Derived.Test.YtbpblnmhlhpebaaGreatDoorB37
set_option linter.all false
set_option maxRecDepth 100000
set_option maxHeartbeats 8000000
namespace Go.Proofs.YtbpblnmhlhpebaaGreatDoor
open Go Go.Dm Go.Proofs
section
abbrev plc (t:List It) (p:List UInt8) (is:Bool) (k m:Int) (tt:Nat) (d:List UInt8):List CV:=[.p (.sl 5 (aV t)),.p (.s p),.p (.b is),.p (.i .i64 k),.p (.i .i64 m),.p (.f tt),.p (.sl 1 (cB d))]
abbrev clc (k:Int) (p q:List UInt8) (m:Int) (tt:Nat) (a n:Int) (d:List UInt8):List CV:=[.p (.i .i64 k),.p (.s p),.p (.s q),.p (.i .i64 m),.p (.f tt),.p (.i .i64 a),.p (.i .i64 n),.p (.sl 1 (cB d))]
abbrev anc (e:Int) (k m:Int) (tt:Nat) (d b:List UInt8) (l:List (List UInt8)):List CV:=[.p (.i .i64 e),.p (.i .i64 k),.p (.i .i64 m),.p (.f tt),.p (.sl 1 (cB d)),.p (.sl 1 (cB b)),.p (.sl 1 (Go.Dm.encS l))]
theorem zCm {k:Int}:aA Tryz.prog 59 [.c (.p (.i .i64 k))] [] fun r h=>r=.c (.p (.b (lH k)))∧h=[]:=by
 unfold lH
 refine ent aB aK Tryz.func59 rfl rfl fun X0 hX=>?_
 simp only [Tryz.f59,go_sem]
 repeat' (first|simp only [*,go_sem,Nat.reduceLT,Nat.reduceEqDiff,↓reduceIte]|with_reducible refine bR (fun _=>?_) (fun _=>?_))
 all_goals first|(simp_all;done)|(simp_all;rfl)
theorem zBq {k:Int}:aA Tryz.prog 120 [.c (.p (.i .i64 k))] [] fun r h=>r=.c (.p (.b (gA k)))∧h=[]:=by
 unfold gA
 refine ent aB aK Tryz.func120 rfl rfl fun X0 hX=>?_
 simp only [Tryz.f120,go_sem]
 repeat' (first|simp only [*,go_sem,Nat.reduceLT,Nat.reduceEqDiff,↓reduceIte]|with_reducible refine aU (fun _=>?_) (fun _=>?_))
 all_goals simp_all
theorem eU {m:Int}:aA Tryz.prog 253 [.c (.p (.i .i64 m))] [] fun r h=>r=.c (.p (.b (jG m)))∧h=[]:=by
 unfold jG
 refine ent aB aK Tryz.func253 rfl rfl fun X0 hX=>?_
 simp only [Tryz.f253,go_sem]
 repeat' (first|simp only [*,go_sem,Nat.reduceLT,Nat.reduceEqDiff,↓reduceIte]|with_reducible refine bR (fun _=>?_) (fun _=>?_))
 all_goals simp_all
section places
variable {t:List It} {p:List UInt8} {is:Bool} {k m:Int} {tt:Nat} {d:List UInt8}
theorem jN:aA Tryz.prog 256 [.agg (plc t p is k m tt d)] [] fun r h=>r=.c (.p (.b (p == [])))∧h=[]:=by
 refine ent aB aK Tryz.func256 rfl rfl fun X0 hX=>?_
 simp only [Tryz.f256,go_sem]
 repeat' (simp only [*,go_sem,Nat.reduceLT,Nat.reduceEqDiff,↓reduceIte])
theorem dH:aA Tryz.prog 186 [.agg (plc t p is k m tt d)] [] fun r h=>r=.c (.p (.b (is && k == 2)))∧h=[]:=by
 refine ent aB aK Tryz.func186 rfl rfl fun X0 hX=>?_
 simp only [Tryz.f186,go_sem]
 repeat' (first|simp only [*,go_sem,Nat.reduceLT,Nat.reduceEqDiff,↓reduceIte]|with_reducible refine bR (fun _=>?_) (fun _=>?_))
 all_goals simp_all
theorem gR {k' m':Int} {tt':Nat} {d':List UInt8} (h:OkT t) (hp:p.length≤1000000000) (hd:d'.length≤140737488355328) (ht:tt'<18446744073709551616):
  aA Tryz.prog 255 [.agg (plc t p is k m tt d),.agg (ndc k' m' tt' d')] [] fun r h=>r=.tup [.c (.p (.sl 5 (aV (uK t p ⟨k',m',tt',d'⟩).1))),.c (.p (.i .i64 (uK t p ⟨k',m',tt',d'⟩).2))]∧h=[]:=by
 have hput:=zMh (p:=p) (k:=k') (m:=m') (d:=d') h hp hd ht
 refine ent aB aK Tryz.func255 rfl rfl fun X0 hX=>?_
 simp only [Tryz.f255,go_sem]
 repeat' (first|simp only [*,go_sem,Nat.reduceLT,Nat.reduceLeDiff,Nat.reduceEqDiff,↓reduceIte,Nat.reduceAdd]|((with_reducible refine bP (hput) ?_ ?_ ?_);exact rfl;exact fun _=>rfl))
theorem zGN:aA Tryz.prog 192 [.agg (plc t p is k m tt d)] [] fun r h=>r=.c (.p (.i .i64 (sQ is ⟨k,m,tt,d⟩)))∧h=[]:=by
 unfold sQ RL
 cases is
 ·
  refine ent aB aK Tryz.func192 rfl rfl fun X0 hX=>?_
  simp only [Tryz.f192,go_sem]
  repeat' (simp only [*,go_sem,Nat.reduceLT,Nat.reduceEqDiff,↓reduceIte,Bool.not_false])
  all_goals rfl
 ·cases hk:(k == 2)
  ·
   refine ent aB aK Tryz.func192 rfl rfl fun X0 hX=>?_
   simp only [Tryz.f192,go_sem]
   repeat' (first|simp only [*,go_sem,Nat.reduceLT,Nat.reduceLeDiff,Nat.reduceEqDiff,↓reduceIte,Nat.reduceAdd,Bool.not_true]|((with_reducible refine aS (dH) ?_ ?_ ?_);exact rfl;exact rfl))
  ·
   refine ent aB aK Tryz.func192 rfl rfl fun X0 hX=>?_
   simp only [Tryz.f192,go_sem]
   repeat' (first|simp only [*,go_sem,Nat.reduceLT,Nat.reduceLeDiff,Nat.reduceEqDiff,↓reduceIte,Nat.reduceAdd,Bool.not_true]|((with_reducible refine aS (dH) ?_ ?_ ?_);exact rfl;exact rfl))
theorem zMn (h:OkT t) (hp:p.length≤1000000000):aA Tryz.prog 121 [.c (.p (.sl 5 (aV t))),.c (.p (.s p)),.c (.p (.b is))] [] fun r h=>r=.agg (plc t p is (nodeAt t p).k (nodeAt t p).m (nodeAt t p).t (nodeAt t p).d)∧h=[]:=by
 have htl:=h.len
 have hget:=eT (t:=t) (p:=p) (by omega) h.srt h.ne fun x hx=>Nat.le_trans (h.dlen x hx) (by decide)
 refine aX ?_
 unfold nodeAt
 generalize (aQ t p).getD nd0=n at hget ⊢
 generalize (aQ t p).isSome=b at hget
 obtain ⟨k,m,tt,d⟩:=n
 cases hpz:(p == [])
 ·
  refine ent aB aK Tryz.func121 rfl rfl fun X0 hX=>?_
  simp only [Tryz.f121,go_sem]
  repeat' (first|simp only [*,go_sem,Nat.reduceLT,Nat.reduceLeDiff,Nat.reduceEqDiff,↓reduceIte,Nat.reduceAdd]|((with_reducible refine bP (hget) ?_ ?_ ?_);exact rfl;exact fun _=>rfl))
 ·
  refine ent aB aK Tryz.func121 rfl rfl fun X0 hX=>?_
  simp only [Tryz.f121,go_sem]
  repeat' (first|simp only [*,go_sem,Nat.reduceLT,Nat.reduceLeDiff,Nat.reduceEqDiff,↓reduceIte,Nat.reduceAdd]|((with_reducible refine bP (hget) ?_ ?_ ?_);exact rfl;exact fun _=>rfl))
  all_goals exact .inr ⟨_,rfl⟩
end places
end
section
theorem VL {a b:List UInt8} (ha:a.length≤100000) (hb:b.length≤100000):
  aA Tryz.prog 260 [.c (.p (.sl 1 [[.sl 1 (cB a)],[.sl 1 (cB b)]]))] [] fun r h=>r=.c (.own 0 0 (a.length+b.length))∧h=[.arr 1 (cB (a++b)) false]:=by
 have w1:IntKind.i64.wrap ((a.length:Int))=a.length:=wrap_i64 (by omega) (by omega)
 have w2:IntKind.i64.wrap ((a.length:Int)+b.length)=((a.length+b.length:Nat):Int):=by rw [wrap_i64 (by omega) (by omega)];omega
 have h1:decide ((a.length:Int)<0)=false:=decide_eq_false (by omega)
 have h2:decide (((a.length+b.length:Nat):Int)<0)=false:=decide_eq_false (by omega)
 refine zLX aB aK Tryz.func260 rfl rfl fun X0 hX=>?_
 simp only [Tryz.f260,go_sem]
 repeat' (first|simp only [*,go_sem,Nat.reduceLT,Nat.reduceLeDiff,Nat.reduceEqDiff,↓reduceIte,Nat.reduceAdd,Int.reduceLT,Int.reduceLE,Int.reduceAdd,Int.reduceNeg,Int.reduceToNat,Int.zero_add]|refine fT aB aK 3 ?_|refine ZE (n:=a.length+b.length) (by omega) ?_|((with_reducible refine And.intro ?_ ?_);omega))
 all_goals exact ⟨rfl,Nat.zero_le _,rfl,_,_,rfl,rfl,rfl⟩
section places
variable {t:List It} {p:List UInt8} {is:Bool} {k m:Int} {tt:Nat} {d:List UInt8}
theorem zKw {kind ck:Int} {cp cq:List UInt8} {cm:Int} {ct:Nat} {ca cn:Int} {cd:List UInt8} (h:OkT t) (hp:p.length≤1000000000) (hd:cd.length≤140737488355328) (ht:ct<18446744073709551616) (hkind:kind=1∨kind=2∨kind=3):
  aA Tryz.prog 188 [.agg (plc t p is k m tt d),.c (.p (.i .i64 kind)),.agg (clc ck cp cq cm ct ca cn cd)] [] fun r h =>
   r=.tup [.c (.p (.sl 5 (aV (vE t p is kind ⟨ck,cp,cq,cm,ct,ca,cn,cd⟩).1))),.c (.p (.i .i64 (vE t p is kind ⟨ck,cp,cq,cm,ct,ca,cn,cd⟩).2))]∧h=[]:=by
 refine aX ?_
 have hb:=rN ht
 have hz:decide (0≤Lib.indexByte cd (Nat.toUInt8 0)) = !(cd.all fun b=>!(b == 0)):=by
  have:=indexByte_none 0 cd
  rw [← this,← decide_not]
  exact decide_eq_decide.2 (by rw [Int.not_lt];exact Iff.rfl)
 unfold vE zIi
 rcases hkind with rfl|rfl|rfl
 ·have hput:=gR (is:=is) (k:=k) (m:=m) (tt:=tt) (d:=d) (k':=1) (m':=cm) (tt':=dD ct) (d':=cd) h hp hd hb
  generalize hP:uK t p ⟨1,cm,dD ct,cd⟩=P at hput
  have e:uK t p ⟨1,if ((1:Int) == 3)=true then 511 else cm,dD ct,if ((1:Int) == 2)=true then [] else cd⟩=P:=hP
  rw [e]
  cases is
  ·cases hm:jG cm
   ·
    refine ent aB aK Tryz.func188 rfl rfl fun X0 hX=>?_
    simp only [Tryz.f188,go_sem]
    repeat' (first|simp only [*,go_sem,Nat.reduceLT,Nat.reduceLeDiff,Nat.reduceEqDiff,↓reduceIte,Nat.reduceAdd,Int.reduceBEq,Int.reduceBNe,Bool.not_false]|((refine aN (id:=1) aB aK [7,8] [7,0,1,2,3,4,5,6,8] (by decide +kernel) ?_);(repeat' (first|(refine aW ?_)|((refine cX ?_ ?_ rfl rfl rfl ?_ ?_);(rotate_left 2);(focus ((repeat' (simp only [*,go_sem,Nat.reduceLT,Nat.reduceLeDiff,Nat.reduceEqDiff,↓reduceIte,Nat.reduceAdd]));((refine And.intro ?_ ?_ <;> exact rfl))));(simp only [aF,bK]))|((refine cY ?_ rfl rfl rfl ?_ ?_);(rotate_left 1);(focus ((repeat' (first|exact bJ|refine aZ ?_ ?_));(all_goals ((repeat' (first|simp only [*,go_sem,Nat.reduceLT,Nat.reduceLeDiff,Nat.reduceEqDiff,↓reduceIte,Nat.reduceAdd]|((with_reducible refine aS (cT ct) ?_ ?_ ?_);exact rfl;exact rfl)));(try (exact rfl))))));(simp only [aF])))))|((with_reducible refine aS (eU) ?_ ?_ ?_);exact rfl;exact rfl))
    all_goals exact .inr ⟨_,rfl⟩
   ·cases hl:decide ((2000:Int)<(cd.length:Int))
    ·
     refine ent aB aK Tryz.func188 rfl rfl fun X0 hX=>?_
     simp only [Tryz.f188,go_sem]
     repeat' (first|simp only [*,go_sem,Nat.reduceLT,Nat.reduceLeDiff,Nat.reduceEqDiff,↓reduceIte,Nat.reduceAdd,Int.reduceBEq,Int.reduceBNe,beq_self_eq_true,Bool.not_true]|((refine aN (id:=1) aB aK [7,8] [7,0,1,2,3,4,5,6,8] (by decide +kernel) ?_);(repeat' (first|(refine aW ?_)|((refine cX ?_ ?_ rfl rfl rfl ?_ ?_);(rotate_left 2);(focus ((repeat' (simp only [*,go_sem,Nat.reduceLT,Nat.reduceLeDiff,Nat.reduceEqDiff,↓reduceIte,Nat.reduceAdd]));((refine And.intro ?_ ?_ <;> exact rfl))));(simp only [aF,bK]))|((refine cY ?_ rfl rfl rfl ?_ ?_);(rotate_left 1);(focus ((repeat' (first|exact bJ|refine aZ ?_ ?_));(all_goals ((repeat' (first|simp only [*,go_sem,Nat.reduceLT,Nat.reduceLeDiff,Nat.reduceEqDiff,↓reduceIte,Nat.reduceAdd]|((with_reducible refine aS (cT ct) ?_ ?_ ?_);exact rfl;exact rfl)));(try (exact rfl))))));(simp only [aF])))))|((with_reducible refine aS (eU) ?_ ?_ ?_);exact rfl;exact rfl)|((with_reducible refine bP (hput) ?_ ?_ ?_);exact rfl;exact fun _=>rfl))
    ·
     refine ent aB aK Tryz.func188 rfl rfl fun X0 hX=>?_
     simp only [Tryz.f188,go_sem]
     repeat' (first|simp only [*,go_sem,Nat.reduceLT,Nat.reduceLeDiff,Nat.reduceEqDiff,↓reduceIte,Nat.reduceAdd,Int.reduceBEq,Int.reduceBNe,beq_self_eq_true,Bool.not_true]|((refine aN (id:=1) aB aK [7,8] [7,0,1,2,3,4,5,6,8] (by decide +kernel) ?_);(repeat' (first|(refine aW ?_)|((refine cX ?_ ?_ rfl rfl rfl ?_ ?_);(rotate_left 2);(focus ((repeat' (simp only [*,go_sem,Nat.reduceLT,Nat.reduceLeDiff,Nat.reduceEqDiff,↓reduceIte,Nat.reduceAdd]));((refine And.intro ?_ ?_ <;> exact rfl))));(simp only [aF,bK]))|((refine cY ?_ rfl rfl rfl ?_ ?_);(rotate_left 1);(focus ((repeat' (first|exact bJ|refine aZ ?_ ?_));(all_goals ((repeat' (first|simp only [*,go_sem,Nat.reduceLT,Nat.reduceLeDiff,Nat.reduceEqDiff,↓reduceIte,Nat.reduceAdd]|((with_reducible refine aS (cT ct) ?_ ?_ ?_);exact rfl;exact rfl)));(try (exact rfl))))));(simp only [aF])))))|((with_reducible refine aS (eU) ?_ ?_ ?_);exact rfl;exact rfl))
     all_goals exact .inr ⟨_,rfl⟩
  ·
   refine ent aB aK Tryz.func188 rfl rfl fun X0 hX=>?_
   simp only [Tryz.f188,go_sem]
   repeat' (first|simp only [*,go_sem,Nat.reduceLT,Nat.reduceLeDiff,Nat.reduceEqDiff,↓reduceIte,Nat.reduceAdd,Int.reduceBEq,Int.reduceBNe]|((refine aN (id:=1) aB aK [7,8] [7,0,1,2,3,4,5,6,8] (by decide +kernel) ?_);(repeat' (first|(refine aW ?_)|((refine cX ?_ ?_ rfl rfl rfl ?_ ?_);(rotate_left 2);(focus ((repeat' (simp only [*,go_sem,Nat.reduceLT,Nat.reduceLeDiff,Nat.reduceEqDiff,↓reduceIte,Nat.reduceAdd]));((refine And.intro ?_ ?_ <;> exact rfl))));(simp only [aF,bK]))|((refine cY ?_ rfl rfl rfl ?_ ?_);(rotate_left 1);(focus ((repeat' (first|exact bJ|refine aZ ?_ ?_));(all_goals ((repeat' (first|simp only [*,go_sem,Nat.reduceLT,Nat.reduceLeDiff,Nat.reduceEqDiff,↓reduceIte,Nat.reduceAdd]|((with_reducible refine aS (cT ct) ?_ ?_ ?_);exact rfl;exact rfl)));(try (exact rfl))))));(simp only [aF]))))))
   all_goals exact .inr ⟨_,rfl⟩
 ·have hput:=gR (is:=is) (k:=k) (m:=m) (tt:=tt) (d:=d) (k':=2) (m':=cm) (tt':=dD ct) (d':=[]) h hp (by simp) hb
  generalize hP:uK t p ⟨2,cm,dD ct,[]⟩=P at hput
  have e:uK t p ⟨2,if ((2:Int) == 3)=true then 511 else cm,dD ct,if ((2:Int) == 2)=true then [] else cd⟩=P:=hP
  rw [e]
  have hput:aA Tryz.prog 255 [.agg (plc t p is k m tt d),.agg [.p (.i .i64 2),.p (.i .i64 cm),.p (.f (dD ct)),.p .nil]] [] fun r h=>r=.tup [.c (.p (.sl 5 (aV P.1))),.c (.p (.i .i64 P.2))]∧h=[]:=by
   refine aA.wkargs ?_ hput
   simp [zFE,wkD,zD3,wkC,wkP,oH]
  cases is
  ·cases hm:jG cm
   ·
    refine ent aB aK Tryz.func188 rfl rfl fun X0 hX=>?_
    simp only [Tryz.f188,go_sem]
    repeat' (first|simp only [*,go_sem,Nat.reduceLT,Nat.reduceEqDiff,↓reduceIte,Nat.reduceAdd,Int.reduceBEq,bne_self_eq_false,Bool.not_false]|((refine aN (id:=1) aB aK [7,8] [7,0,1,2,3,4,5,6,8] (by decide +kernel) ?_);(repeat' (first|(refine aW ?_)|((refine cX ?_ ?_ rfl rfl rfl ?_ ?_);(rotate_left 2);(focus ((repeat' (simp only [*,go_sem,Nat.reduceLT,Nat.reduceLeDiff,Nat.reduceEqDiff,↓reduceIte,Nat.reduceAdd]));((refine And.intro ?_ ?_ <;> exact rfl))));(simp only [aF,bK]))|((refine cY ?_ rfl rfl rfl ?_ ?_);(rotate_left 1);(focus ((repeat' (first|exact bJ|refine aZ ?_ ?_));(all_goals ((repeat' (first|simp only [*,go_sem,Nat.reduceLT,Nat.reduceLeDiff,Nat.reduceEqDiff,↓reduceIte,Nat.reduceAdd]|((with_reducible refine aS (cT ct) ?_ ?_ ?_);exact rfl;exact rfl)));(try (exact rfl))))));(simp only [aF])))))|((with_reducible refine aS (eU) ?_ ?_ ?_);exact rfl;exact rfl))
    all_goals exact .inr ⟨_,rfl⟩
   ·
    refine ent aB aK Tryz.func188 rfl rfl fun X0 hX=>?_
    simp only [Tryz.f188,go_sem]
    repeat' (first|simp only [*,go_sem,Nat.reduceLT,Nat.reduceLeDiff,Nat.reduceEqDiff,↓reduceIte,Nat.reduceAdd,Int.reduceBEq,bne_self_eq_false,Bool.not_true]|((refine aN (id:=1) aB aK [7,8] [7,0,1,2,3,4,5,6,8] (by decide +kernel) ?_);(repeat' (first|(refine aW ?_)|((refine cX ?_ ?_ rfl rfl rfl ?_ ?_);(rotate_left 2);(focus ((repeat' (simp only [*,go_sem,Nat.reduceLT,Nat.reduceLeDiff,Nat.reduceEqDiff,↓reduceIte,Nat.reduceAdd]));((refine And.intro ?_ ?_ <;> exact rfl))));(simp only [aF,bK]))|((refine cY ?_ rfl rfl rfl ?_ ?_);(rotate_left 1);(focus ((repeat' (first|exact bJ|refine aZ ?_ ?_));(all_goals ((repeat' (first|simp only [*,go_sem,Nat.reduceLT,Nat.reduceLeDiff,Nat.reduceEqDiff,↓reduceIte,Nat.reduceAdd]|((with_reducible refine aS (cT ct) ?_ ?_ ?_);exact rfl;exact rfl)));(try (exact rfl))))));(simp only [aF])))))|((with_reducible refine aS (eU) ?_ ?_ ?_);exact rfl;exact rfl)|((with_reducible refine bP (hput) ?_ ?_ ?_);exact rfl;exact fun _=>rfl))
  ·
   refine ent aB aK Tryz.func188 rfl rfl fun X0 hX=>?_
   simp only [Tryz.f188,go_sem]
   repeat' (first|simp only [*,go_sem,Nat.reduceLT,Nat.reduceEqDiff,↓reduceIte,Nat.reduceAdd,Int.reduceBEq,bne_self_eq_false]|((refine aN (id:=1) aB aK [7,8] [7,0,1,2,3,4,5,6,8] (by decide +kernel) ?_);(repeat' (first|(refine aW ?_)|((refine cX ?_ ?_ rfl rfl rfl ?_ ?_);(rotate_left 2);(focus ((repeat' (simp only [*,go_sem,Nat.reduceLT,Nat.reduceLeDiff,Nat.reduceEqDiff,↓reduceIte,Nat.reduceAdd]));((refine And.intro ?_ ?_ <;> exact rfl))));(simp only [aF,bK]))|((refine cY ?_ rfl rfl rfl ?_ ?_);(rotate_left 1);(focus ((repeat' (first|exact bJ|refine aZ ?_ ?_));(all_goals ((repeat' (first|simp only [*,go_sem,Nat.reduceLT,Nat.reduceLeDiff,Nat.reduceEqDiff,↓reduceIte,Nat.reduceAdd]|((with_reducible refine aS (cT ct) ?_ ?_ ?_);exact rfl;exact rfl)));(try (exact rfl))))));(simp only [aF]))))))
   all_goals exact .inr ⟨_,rfl⟩
 ·have hput:=gR (is:=is) (k:=k) (m:=m) (tt:=tt) (d:=d) (k':=3) (m':=511) (tt':=dD ct) (d':=cd) h hp hd hb
  generalize hP:uK t p ⟨3,511,dD ct,cd⟩=P at hput
  have e:uK t p ⟨3,if ((3:Int) == 3)=true then 511 else cm,dD ct,if ((3:Int) == 2)=true then [] else cd⟩=P:=hP
  rw [e]
  have hm:jG 511=true:=rfl
  have hrm:=eU (m:=511)
  rw [hm] at hrm
  cases is
  ·cases cd with
   | nil =>
    refine ent aB aK Tryz.func188 rfl rfl fun X0 hX=>?_
    simp only [Tryz.f188,go_sem]
    repeat' (first|simp only [*,go_sem,Nat.reduceLT,Nat.reduceLeDiff,Nat.reduceEqDiff,↓reduceIte,Nat.reduceAdd,Int.reduceLT,Int.reduceBNe,beq_self_eq_true,Bool.not_true]|((refine aN (id:=1) aB aK [7,8] [7,0,1,2,3,4,5,6,8] (by decide +kernel) ?_);(repeat' (first|(refine aW ?_)|((refine cX ?_ ?_ rfl rfl rfl ?_ ?_);(rotate_left 2);(focus ((repeat' (simp only [*,go_sem,Nat.reduceLT,Nat.reduceLeDiff,Nat.reduceEqDiff,↓reduceIte,Nat.reduceAdd]));((refine And.intro ?_ ?_ <;> exact rfl))));(simp only [aF,bK]))|((refine cY ?_ rfl rfl rfl ?_ ?_);(rotate_left 1);(focus ((repeat' (first|exact bJ|refine aZ ?_ ?_));(all_goals ((repeat' (first|simp only [*,go_sem,Nat.reduceLT,Nat.reduceLeDiff,Nat.reduceEqDiff,↓reduceIte,Nat.reduceAdd]|((with_reducible refine aS (cT ct) ?_ ?_ ?_);exact rfl;exact rfl)));(try (exact rfl))))));(simp only [aF])))))|((with_reducible refine aS (hrm) ?_ ?_ ?_);exact rfl;exact rfl))
    all_goals exact .inr ⟨_,rfl⟩
   | cons x l =>
    have h1:decide (((l.length+1:Nat):Int)<1)=false:=decide_eq_false (by omega)
    have hib:=mN (d:=x::l) (c:=0) (by simp)
    rw [show Int.toNat 0=0 from rfl] at hib
    cases hl:decide ((120:Int)<((l.length+1:Nat):Int))
    ·generalize ((x::l).all fun b=>!(b == 0))=q at hz ⊢
     cases q
     ·
      refine ent aB aK Tryz.func188 rfl rfl fun X0 hX=>?_
      simp only [Tryz.f188,go_sem]
      repeat' (first|simp only [*,go_sem,Nat.reduceLT,Nat.reduceLeDiff,Nat.reduceEqDiff,↓reduceIte,Nat.reduceAdd,Int.reduceBNe,beq_self_eq_true,Bool.not_true,Bool.not_false]|((refine aN (id:=1) aB aK [7,8] [7,0,1,2,3,4,5,6,8] (by decide +kernel) ?_);(repeat' (first|(refine aW ?_)|((refine cX ?_ ?_ rfl rfl rfl ?_ ?_);(rotate_left 2);(focus ((repeat' (simp only [*,go_sem,Nat.reduceLT,Nat.reduceLeDiff,Nat.reduceEqDiff,↓reduceIte,Nat.reduceAdd]));((refine And.intro ?_ ?_ <;> exact rfl))));(simp only [aF,bK]))|((refine cY ?_ rfl rfl rfl ?_ ?_);(rotate_left 1);(focus ((repeat' (first|exact bJ|refine aZ ?_ ?_));(all_goals ((repeat' (first|simp only [*,go_sem,Nat.reduceLT,Nat.reduceLeDiff,Nat.reduceEqDiff,↓reduceIte,Nat.reduceAdd]|((with_reducible refine aS (cT ct) ?_ ?_ ?_);exact rfl;exact rfl)));(try (exact rfl))))));(simp only [aF])))))|((with_reducible refine aS (hrm) ?_ ?_ ?_);exact rfl;exact rfl)|((with_reducible refine aS (hib) ?_ ?_ ?_);exact rfl;exact rfl))
      all_goals exact .inr ⟨_,rfl⟩
     ·
      refine ent aB aK Tryz.func188 rfl rfl fun X0 hX=>?_
      simp only [Tryz.f188,go_sem]
      repeat' (first|simp only [*,go_sem,Nat.reduceLT,Nat.reduceLeDiff,Nat.reduceEqDiff,↓reduceIte,Nat.reduceAdd,Int.reduceBEq,Int.reduceBNe,beq_self_eq_true,Bool.not_true]|((refine aN (id:=1) aB aK [7,8] [7,0,1,2,3,4,5,6,8] (by decide +kernel) ?_);(repeat' (first|(refine aW ?_)|((refine cX ?_ ?_ rfl rfl rfl ?_ ?_);(rotate_left 2);(focus ((repeat' (simp only [*,go_sem,Nat.reduceLT,Nat.reduceLeDiff,Nat.reduceEqDiff,↓reduceIte,Nat.reduceAdd]));((refine And.intro ?_ ?_ <;> exact rfl))));(simp only [aF,bK]))|((refine cY ?_ rfl rfl rfl ?_ ?_);(rotate_left 1);(focus ((repeat' (first|exact bJ|refine aZ ?_ ?_));(all_goals ((repeat' (first|simp only [*,go_sem,Nat.reduceLT,Nat.reduceLeDiff,Nat.reduceEqDiff,↓reduceIte,Nat.reduceAdd]|((with_reducible refine aS (cT ct) ?_ ?_ ?_);exact rfl;exact rfl)));(try (exact rfl))))));(simp only [aF])))))|((with_reducible refine aS (hrm) ?_ ?_ ?_);exact rfl;exact rfl)|((with_reducible refine aS (hib) ?_ ?_ ?_);exact rfl;exact rfl)|((with_reducible refine bP (hput) ?_ ?_ ?_);exact rfl;exact fun _=>rfl))
    ·
     refine ent aB aK Tryz.func188 rfl rfl fun X0 hX=>?_
     simp only [Tryz.f188,go_sem]
     repeat' (first|simp only [*,go_sem,Nat.reduceLT,Nat.reduceLeDiff,Nat.reduceEqDiff,↓reduceIte,Nat.reduceAdd,Int.reduceBNe,beq_self_eq_true,Bool.not_true]|((refine aN (id:=1) aB aK [7,8] [7,0,1,2,3,4,5,6,8] (by decide +kernel) ?_);(repeat' (first|(refine aW ?_)|((refine cX ?_ ?_ rfl rfl rfl ?_ ?_);(rotate_left 2);(focus ((repeat' (simp only [*,go_sem,Nat.reduceLT,Nat.reduceLeDiff,Nat.reduceEqDiff,↓reduceIte,Nat.reduceAdd]));((refine And.intro ?_ ?_ <;> exact rfl))));(simp only [aF,bK]))|((refine cY ?_ rfl rfl rfl ?_ ?_);(rotate_left 1);(focus ((repeat' (first|exact bJ|refine aZ ?_ ?_));(all_goals ((repeat' (first|simp only [*,go_sem,Nat.reduceLT,Nat.reduceLeDiff,Nat.reduceEqDiff,↓reduceIte,Nat.reduceAdd]|((with_reducible refine aS (cT ct) ?_ ?_ ?_);exact rfl;exact rfl)));(try (exact rfl))))));(simp only [aF])))))|((with_reducible refine aS (hrm) ?_ ?_ ?_);exact rfl;exact rfl))
     all_goals exact .inr ⟨_,rfl⟩
  ·
   refine ent aB aK Tryz.func188 rfl rfl fun X0 hX=>?_
   simp only [Tryz.f188,go_sem]
   repeat' (first|simp only [*,go_sem,Nat.reduceLT,Nat.reduceLeDiff,Nat.reduceEqDiff,↓reduceIte,Nat.reduceAdd,Int.reduceBNe,beq_self_eq_true]|((refine aN (id:=1) aB aK [7,8] [7,0,1,2,3,4,5,6,8] (by decide +kernel) ?_);(repeat' (first|(refine aW ?_)|((refine cX ?_ ?_ rfl rfl rfl ?_ ?_);(rotate_left 2);(focus ((repeat' (simp only [*,go_sem,Nat.reduceLT,Nat.reduceLeDiff,Nat.reduceEqDiff,↓reduceIte,Nat.reduceAdd]));((refine And.intro ?_ ?_ <;> exact rfl))));(simp only [aF,bK]))|((refine cY ?_ rfl rfl rfl ?_ ?_);(rotate_left 1);(focus ((repeat' (first|exact bJ|refine aZ ?_ ?_));(all_goals ((repeat' (first|simp only [*,go_sem,Nat.reduceLT,Nat.reduceLeDiff,Nat.reduceEqDiff,↓reduceIte,Nat.reduceAdd]|((with_reducible refine aS (cT ct) ?_ ?_ ?_);exact rfl;exact rfl)));(try (exact rfl))))));(simp only [aF]))))))
   all_goals exact .inr ⟨_,rfl⟩
end places
end
end Go.Proofs.YtbpblnmhlhpebaaGreatDoor
