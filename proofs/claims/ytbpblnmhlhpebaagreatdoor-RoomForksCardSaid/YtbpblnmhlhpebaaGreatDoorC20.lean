/- Part 21 of the proof of roomForks_card, set without needless blanks. No condition. -/
import Derived.Test.YtbpblnmhlhpebaaGreatDoorC04
import Derived.Test.YtbpblnmhlhpebaaGreatDoorC06
set_option linter.unusedSimpArgs false
set_option linter.unusedVariables false
set_option maxRecDepth 100000
set_option maxHeartbeats 4000000
namespace Go.Proofs.YtbpblnmhlhpebaaGreatDoor
open Go Go.Dm
section
theorem xS (a b:Nat):((a:Int) == (b:Int))=(a == b):=by
 rw [Bool.eq_iff_iff];simp only [beq_iff_eq];omega
theorem zAj (x:Nat):aA Tryz.prog 314 [.c (.p (.f x))] [] fun d h=>d=.c (.p (.b (isNaN x)))∧h=[]:=by
 refine ent aB aK Tryz.func314 rfl rfl fun X0 hX=>?_
 simp only [Tryz.f314,go_sem]
 repeat' (simp only [*,go_sem,Nat.reduceLT,Nat.reduceEqDiff,↓reduceIte])
 all_goals ((simp_all [isNaN];done))
theorem xB (x:Nat):aA Tryz.prog 180 [.c (.p (.f x))] [] fun d h=>d=.c (.p (.i .u64 x))∧h=[]:=by
 intro X vals hh hi _ hr
 match vals,hr with
 | [v],⟨h1,_⟩ =>
  simp only [bB,bR,cF] at h1
  subst h1
  refine .inr ⟨.int .u64 x,X.w,?_,_,X,rfl,hi,Step.refl hi,pH (x:=.p (.i .u64 x)) rfl,rfl,hh⟩
  kernel_rfl
theorem iD (z:Int) (hz:0≤z):aA Tryz.prog 116 [.c (.p (.i .u64 z))] [] fun d h=>d=.c (.p (.f z.toNat))∧h=[]:=by
 intro X vals hh hi _ hr
 match vals,hr with
 | [v],⟨h1,_⟩ =>
  simp only [bB,bR,cF] at h1
  obtain ⟨n,rfl⟩:=Int.eq_ofNat_of_zero_le hz
  subst h1
  refine .inr ⟨.float .f64 n,X.w,?_,_,X,rfl,hi,Step.refl hi,pH (x:=.p (.f n)) rfl,rfl,hh⟩
  kernel_rfl
theorem zAu (x:Nat):aA Tryz.prog 363 [.c (.p (.f x))] [] fun d h=>d=.c (.p (.b (XL x)))∧h=[]:=by
 refine ent aB aK Tryz.func363 rfl rfl fun X0 hX=>?_
 simp only [Tryz.f363,go_sem]
 repeat' (first|simp only [*,go_sem,Nat.reduceLT,Nat.reduceEqDiff,↓reduceIte]|((with_reducible refine aQ (xB _) ?_ ?_ ?_);exact rfl;exact rfl))
 all_goals ((simp_all [XL];done))
theorem zJO (x:Nat):aA Tryz.prog 316 [.c (.p (.f x))] [] fun d h=>d=.tup [.c (.p (.i .i64 (jO x).1)),.c (.p (.i .i64 (jO x).2))]∧h=[]:=by
 refine ent aB aK Tryz.func316 rfl rfl fun X0 hX=>?_
 simp only [Tryz.f316,go_sem]
 repeat' (first|simp only [*,go_sem,Nat.reduceLT,Nat.reduceEqDiff,↓reduceIte,Int.reduceNeg]|((with_reducible refine aQ (zAj _) ?_ ?_ ?_);exact rfl;exact rfl)|((with_reducible refine aQ (zAu _) ?_ ?_ ?_);exact rfl;exact rfl)|with_reducible refine aM (fun _=>?_) (fun _=>?_)|with_reducible refine bF (fun _=>?_) (fun _=>?_))
 all_goals ((simp_all [jO];done))
theorem zHD (x:Nat):aA Tryz.prog 175 [.c (.p (.f x))] [] fun d h=>d=.c (.p (.i .u64 (dA x)))∧h=[]:=by
 refine ent aB aK Tryz.func175 rfl rfl fun X0 hX=>?_
 simp only [Tryz.f175,go_sem]
 repeat' (first|simp only [*,go_sem,Nat.reduceLT,Nat.reduceEqDiff,↓reduceIte]|((with_reducible refine aQ (xB _) ?_ ?_ ?_);exact rfl;exact rfl)|with_reducible refine aM (fun _=>?_) (fun _=>?_))
 all_goals ((simp_all [dA,isNaN,BB];done))
theorem zBs (x:Nat):aA Tryz.prog 112 [.c (.p (.f x))] [] fun d h=>d=.c (.p (.f (dA x)))∧h=[]:=by
 refine ent aB aK Tryz.func112 rfl rfl fun X0 hX=>?_
 simp only [Tryz.f112,go_sem]
 repeat' (first|simp only [*,go_sem,Nat.reduceLT,Nat.reduceEqDiff,↓reduceIte]|((with_reducible refine aQ (zHD _) ?_ ?_ ?_);exact rfl;exact rfl)|((with_reducible refine aQ (iD _ (by omega)) ?_ ?_ ?_);exact rfl;exact rfl))
 all_goals (first|(with_reducible rfl)|(simp_all [];done)|(simp_all [];omega)|(simp_all [];(repeat' split) <;> omega))
theorem pU (x:Nat):aA Tryz.prog 54 [.c (.p (.f x))] [] fun d h=>d=.c (.p (.f (dA x)))∧h=[]:=by
 refine ent aB aK Tryz.func54 rfl rfl fun X0 hX=>?_
 simp only [Tryz.f54,go_sem]
 repeat' (first|simp only [*,go_sem,Nat.reduceLT,Nat.reduceEqDiff,↓reduceIte]|((with_reducible refine aQ (zBs _) ?_ ?_ ?_);exact rfl;exact rfl))
 all_goals (first|(with_reducible rfl)|(simp_all [];done)|(simp_all [];omega)|(simp_all [];(repeat' split) <;> omega))
theorem XI (x y:Nat):aA Tryz.prog 108 [.c (.p (.f x)),.c (.p (.f y))] [] fun d h=>d=.c (.p (.b (dA x == dA y)))∧h=[]:=by
 refine ent aB aK Tryz.func108 rfl rfl fun X0 hX=>?_
 simp only [Tryz.f108,go_sem]
 repeat' (first|simp only [*,go_sem,Nat.reduceLT,Nat.reduceEqDiff,↓reduceIte]|((with_reducible refine aQ (zHD _) ?_ ?_ ?_);exact rfl;exact rfl))
 all_goals ((simp_all [xS];done))
theorem zAa (x:Int):aA Tryz.prog 334 [.c (.p (.i .i64 x))] [] fun d h=>d=.c (.p (.b false))∧h=[]:=by
 refine ent aB aK Tryz.func334 rfl rfl fun X0 hX=>?_
 simp only [Tryz.f334,go_sem]
 repeat' (simp only [*,go_sem,Nat.reduceLT,Nat.reduceEqDiff,↓reduceIte,bne_self_eq_false])
 all_goals (first|(with_reducible rfl)|(simp_all [];done)|(simp_all [];omega)|(simp_all [];(repeat' split) <;> omega))
theorem XB (x:Nat):aA Tryz.prog 364 [.c (.p (.f x))] [] fun d h=>d=.c (.p (.b (isNaN x)))∧h=[]:=by
 refine ent aB aK Tryz.func364 rfl rfl fun X0 hX=>?_
 simp only [Tryz.f364,go_sem]
 repeat' (simp only [*,go_sem,Nat.reduceLT,Nat.reduceEqDiff,↓reduceIte])
 all_goals ((simp_all [isNaN];done))
theorem zHe (a b:Int):aA Tryz.prog 269 [.c (.p (.i .i64 a)),.c (.p (.i .i64 b))] [] fun d h=>d=.c (.p (.i .i64 (RJ a b)))∧h=[]:=by
 refine ent aB aK Tryz.func269 rfl rfl fun X0 hX=>?_
 simp only [Tryz.f269,go_sem]
 repeat' (first|simp only [*,go_sem,Nat.reduceLT,Nat.reduceEqDiff,↓reduceIte,Int.reduceNeg]|((with_reducible refine aQ (zAa _) ?_ ?_ ?_);exact rfl;exact rfl)|with_reducible refine aM (fun _=>?_) (fun _=>?_))
 all_goals (first|(simp_all [RJ];done)|(simp_all [RJ];omega))
theorem zFg (a b:Nat):aA Tryz.prog 317 [.c (.p (.f a)),.c (.p (.f b))] [] fun d h=>d=.c (.p (.i .i64 (zJV a b)))∧h=[]:=by
 refine ent aB aK Tryz.func317 rfl rfl fun X0 hX=>?_
 simp only [Tryz.f317,go_sem]
 repeat' (first|simp only [*,go_sem,Nat.reduceLT,Nat.reduceEqDiff,↓reduceIte,Int.reduceNeg]|((with_reducible refine aQ (XB _) ?_ ?_ ?_);exact rfl;exact rfl)|with_reducible refine aM (fun _=>?_) (fun _=>?_))
 all_goals ((simp_all [zJV];done))
theorem XY:aA Tryz.prog 113 [.c (.p (.f 0)),.c (.p (.f 13830554455654793216))] [] fun d h=>d=.c (.p (.f 9223372036854775808))∧h=[]:=by
 have e:Dm.bits .or .u64 (Dm.bits .andNot .u64 0 9223372036854775808) (Dm.bits .and .u64 13830554455654793216 9223372036854775808)=9223372036854775808:=by kernel_rfl
 refine ent aB aK Tryz.func113 rfl rfl fun X0 hX=>?_
 simp only [Tryz.f113,go_sem]
 repeat' (first|simp only [*,go_sem,Nat.reduceLT,Nat.reduceEqDiff,↓reduceIte,Int.reduceToNat]|((with_reducible refine aQ (xB _) ?_ ?_ ?_);exact rfl;exact rfl)|((with_reducible refine aQ (iD _ (by omega)) ?_ ?_ ?_);exact rfl;exact rfl))
 all_goals (first|(with_reducible rfl)|(simp_all [];done)|(simp_all [];omega)|(simp_all [];(repeat' split) <;> omega))
theorem zLY (n:Int):aA Tryz.prog 114 [.c (.p (.i .i64 n))] [] fun d h=>d=.c (.p (.f (if 0≤n then 9218868437227405312 else 18442240474082181120)))∧h=[]:=by
 refine ent aB aK Tryz.func114 rfl rfl fun X0 hX=>?_
 simp only [Tryz.f114,go_sem]
 repeat' (first|simp only [*,go_sem,Nat.reduceLT,Nat.reduceEqDiff,↓reduceIte,Int.reduceToNat]|((with_reducible refine aQ (iD _ (by omega)) ?_ ?_ ?_);exact rfl;exact rfl)|with_reducible refine aM (fun _=>?_) (fun _=>?_))
 all_goals ((simp_all [];done))
theorem zMm:aA Tryz.prog 115 [] [] fun d h=>d=.c (.p (.f BB))∧h=[]:=by
 refine ent aB aK Tryz.func115 rfl rfl fun X0 hX=>?_
 simp only [Tryz.f115,go_sem]
 repeat' (first|simp only [*,go_sem,Nat.reduceLT,↓reduceIte,Int.reduceToNat]|((with_reducible refine aQ (iD _ (by omega)) ?_ ?_ ?_);exact rfl;exact rfl))
 all_goals ((simp_all [BB];done))
theorem cX (x:Nat):aA Tryz.prog 244 [.c (.p (.f x))] [] fun d h=>d=.c (.p (.f (dA x)))∧h=[]:=by
 refine ent aB aK Tryz.func244 rfl rfl fun X0 hX=>?_
 simp only [Tryz.f244,go_sem]
 repeat' (first|simp only [*,go_sem,Nat.reduceLT,Nat.reduceEqDiff,↓reduceIte,Int.reduceToNat]|((with_reducible refine aQ (zAj _) ?_ ?_ ?_);exact rfl;exact rfl)|((with_reducible refine aQ (iD _ (by omega)) ?_ ?_ ?_);exact rfl;exact rfl)|with_reducible refine aM (fun _=>?_) (fun _=>?_))
 all_goals ((simp_all [dA,BB];done))
theorem Or_c (a b:Int):aA Tryz.prog 267 [.c (.p (.sl 1 [[.i .i64 a],[.i .i64 b]]))] [] fun d h=>d=.c (.p (.i .i64 (if a == 0 then b else a)))∧h=[]:=by
 refine ent aB aK Tryz.func267 rfl rfl fun X0 hX=>?_
 simp only [Tryz.f267,go_sem]
 repeat' (simp only [*,go_sem,Nat.reduceLT,Nat.reduceEqDiff,↓reduceIte,Nat.reduceAdd])
 refine fG aB aK 3 ?_
 repeat' (first|simp only [*,go_sem,Nat.reduceLT,Nat.reduceEqDiff,↓reduceIte,Nat.reduceAdd,Int.reduceLT,Int.reduceLE,Int.reduceAdd,Int.reduceNeg,Int.reduceToNat]|with_reducible refine aM (fun _=>?_) (fun _=>?_))
 all_goals ((simp_all [];done))
theorem NI (a b:Nat):aA Tryz.prog 247 [.c (.p (.f a)),.c (.p (.f b))] [] fun d h=>d=.c (.p (.i .i64 (uK a b)))∧h=[]:=by
 refine ent aB aK Tryz.func247 rfl rfl fun X0 hX=>?_
 simp only [Tryz.f247,go_sem]
 repeat' (first|simp only [*,go_sem,Nat.reduceLT,Nat.reduceLeDiff,Nat.reduceEqDiff,↓reduceIte]|((with_reducible refine aQ (zJO _) ?_ ?_ ?_);exact rfl;exact rfl)|((with_reducible refine aQ (zHe _ _) ?_ ?_ ?_);exact rfl;exact rfl)|((with_reducible refine aQ (zFg _ _) ?_ ?_ ?_);exact rfl;exact rfl)|((with_reducible refine aQ (Or_c _ _) ?_ ?_ ?_);exact rfl;exact rfl)|with_reducible refine aM (fun _=>?_) (fun _=>?_)|((with_reducible apply aA.frz);exact rfl;exact rfl)|((with_reducible refine And.intro ?_ ?_);(focus (decide))))
 all_goals (first|(simp_all [uK];done)|(simp_all [uK];omega))
theorem zAp (a b:Nat):aA Tryz.prog 173 [.c (.p (.f a)),.c (.p (.f b))] [] fun d h=>d=.c (.p (.b (uK a b == 0)))∧h=[]:=by
 refine ent aB aK Tryz.func173 rfl rfl fun X0 hX=>?_
 simp only [Tryz.f173,go_sem]
 repeat' (first|simp only [*,go_sem,Nat.reduceLT,Nat.reduceEqDiff,↓reduceIte]|((with_reducible refine aQ (NI _ _) ?_ ?_ ?_);exact rfl;exact rfl))
 all_goals (first|(with_reducible rfl)|(simp_all [];done)|(simp_all [];omega)|(simp_all [];(repeat' split) <;> omega))
theorem uB {a b:List UInt8}:aA Tryz.prog 174 [.c (.p (.sl 1 (bT a))),.c (.p (.sl 1 (bT b)))] [] fun d h=>d=.c (.p (.b (a == b)))∧h=[]:=by
 refine ent aB aK Tryz.func174 rfl rfl fun X0 hX=>?_
 simp only [Tryz.f174,go_sem]
 repeat' (simp only [*,go_sem,Nat.reduceLT,Nat.reduceEqDiff,↓reduceIte])
 all_goals (first|(with_reducible rfl)|(simp_all [];done)|(simp_all [];omega)|(simp_all [];(repeat' split) <;> omega))
theorem yT {a:List UInt8} (ha:a.length≤140737488355328):aA Tryz.prog 165 [.c (.p (.sl 1 (bT a)))] [] fun d h=>d=.c (.p (.sl 1 (bT a)))∧h=[]:=by
 refine bJ ?_
 refine ent aB aK Tryz.func165 rfl rfl fun X0 hX=>?_
 simp only [Tryz.f165,go_sem]
 cases a with
 | nil =>
  repeat' (simp only [*,go_sem,Nat.reduceLT,Nat.reduceLeDiff,Nat.reduceEqDiff,↓reduceIte,Nat.reduceAdd])
  simp [List.range_succ]
 | cons x l =>
  repeat' (first|simp only [*,go_sem,Nat.reduceLT,Nat.reduceLeDiff,Nat.reduceEqDiff,↓reduceIte,Nat.reduceAdd]|((with_reducible refine And.intro ?_ ?_);(focus (decide))))
  simp only [List.length_cons] at ha
  exact ⟨by omega,by omega⟩
theorem vH {k m k' m':Int} {t t':Nat} {d d':List UInt8}:aA Tryz.prog 106 [.agg (ndc k m t d),.agg (ndc k' m' t' d')] [] fun r h=>r=.c (.p (.b (mQ ⟨k,m,t,d⟩ ⟨k',m',t',d'⟩)))∧h=[]:=by
 refine ent aB aK Tryz.func106 rfl rfl fun X0 hX=>?_
 simp only [Tryz.f106,go_sem]
 repeat' (first|simp only [*,go_sem,Nat.reduceLT,Nat.reduceEqDiff,↓reduceIte]|((with_reducible refine aQ (zAp _ _) ?_ ?_ ?_);exact rfl;exact rfl)|((with_reducible refine aQ (uB) ?_ ?_ ?_);exact rfl;exact rfl)|with_reducible refine bF (fun _=>?_) (fun _=>?_))
 all_goals ((simp_all [mQ];done))
theorem tD {k m k' m':Int} {t t':Nat} {d d':List UInt8}:aA Tryz.prog 46 [.agg (ndc k m t d),.agg (ndc k' m' t' d')] [] fun r h=>r=.c (.p (.b (fS ⟨k,m,t,d⟩ ⟨k',m',t',d'⟩)))∧h=[]:=by
 refine ent aB aK Tryz.func46 rfl rfl fun X0 hX=>?_
 simp only [Tryz.f46,go_sem]
 repeat' (first|simp only [*,go_sem,Nat.reduceLT,Nat.reduceEqDiff,↓reduceIte]|((with_reducible refine aQ (XI _ _) ?_ ?_ ?_);exact rfl;exact rfl)|with_reducible refine bF (fun _=>?_) (fun _=>?_))
 all_goals ((simp_all [fS];done))
theorem zK {k m:Int} {t:Nat} {d:List UInt8} (hd:d.length≤140737488355328):aA Tryz.prog 98 [.agg (ndc k m t d)] [] fun r h=>r=.agg (ndc k m t d)∧h=[]:=by
 refine ent aB aK Tryz.func98 rfl rfl fun X0 hX=>?_
 simp only [Tryz.f98,go_sem]
 repeat' (first|simp only [*,go_sem,Nat.reduceLT,Nat.reduceLeDiff,Nat.reduceEqDiff,↓reduceIte,Nat.reduceAdd]|((with_reducible refine bK (yT hd) ?_ ?_ ?_);exact rfl;exact fun _=>rfl))
 all_goals (first|(with_reducible rfl)|(simp_all [];done)|(simp_all [];omega)|(simp_all [];(repeat' split) <;> omega))
end
end Go.Proofs.YtbpblnmhlhpebaaGreatDoor
