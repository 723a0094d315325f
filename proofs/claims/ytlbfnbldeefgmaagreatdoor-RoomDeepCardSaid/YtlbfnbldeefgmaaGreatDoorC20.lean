/- Part 21 of the proof of roomDeep_card, set without needless blanks. No condition. -/
import Derived.Test.YtlbfnbldeefgmaaGreatDoorC04
import Derived.Test.YtlbfnbldeefgmaaGreatDoorC07
set_option linter.all false
section
namespace Go.Proofs.YtlbfnbldeefgmaaGreatDoor
open Go Go.Dm
set_option maxRecDepth 100000
set_option maxHeartbeats 4000000
theorem vZ (a b:Nat):((a:Int) == (b:Int))=(a == b):=by
 rw [Bool.eq_iff_iff];simp only [beq_iff_eq];omega
theorem zAE (x:Nat):aA Tryz.prog 291 [.c (.p (.f x))] [] fun d h=>d=.c (.p (.b (isNaN x)))∧h=[]:=by
 refine ent aC aK Tryz.func291 rfl rfl fun X0 hX=>?_;simp only [Tryz.f291,go_sem]
 repeat' (simp only [*,go_sem,Nat.reduceLT,Nat.reduceEqDiff,↓reduceIte,])
 all_goals ((simp_all [isNaN];done))
theorem ED (x:Nat):aA Tryz.prog 194 [.c (.p (.f x))] [] fun d h=>d=.c (.p (.i .u64 x))∧h=[]:=by
 intro X vals hh hi _ hr
 match vals,hr with
 | [v],⟨h1,_⟩ =>
  simp only [aX,bP,cN] at h1;subst h1;refine .inr ⟨.int .u64 x,X.w,?_,_,X,rfl,hi,Step.refl hi,oS (x:=.p (.i .u64 x)) rfl,rfl,hh⟩;kernel_rfl
theorem iA (z:Int) (hz:0≤z):aA Tryz.prog 113 [.c (.p (.i .u64 z))] [] fun d h=>d=.c (.p (.f z.toNat))∧h=[]:=by
 intro X vals hh hi _ hr
 match vals,hr with
 | [v],⟨h1,_⟩ =>
  simp only [aX,bP,cN] at h1;obtain ⟨n,rfl⟩:=Int.eq_ofNat_of_zero_le hz;subst h1;refine .inr ⟨.float .f64 n,X.w,?_,_,X,rfl,hi,Step.refl hi,oS (x:=.p (.f n)) rfl,rfl,hh⟩;kernel_rfl
theorem zBV (x:Nat):aA Tryz.prog 356 [.c (.p (.f x))] [] fun d h=>d=.c (.p (.b (SX x)))∧h=[]:=by
 refine ent aC aK Tryz.func356 rfl rfl fun X0 hX=>?_;simp only [Tryz.f356,go_sem]
 repeat' (first|simp only [*,go_sem,Nat.reduceLT,Nat.reduceEqDiff,↓reduceIte,]|((with_reducible refine aQ (ED _) ?_ ?_ ?_);exact rfl;exact rfl))
 all_goals ((simp_all [SX];done))
theorem zHi (x:Nat):aA Tryz.prog 300 [.c (.p (.f x))] [] fun d h=>d=.tup [.c (.p (.i .i64 (jE x).1)),.c (.p (.i .i64 (jE x).2))]∧h=[]:=by
 refine ent aC aK Tryz.func300 rfl rfl fun X0 hX=>?_;simp only [Tryz.f300,go_sem]
 repeat' (first|simp only [*,go_sem,Nat.reduceLT,Nat.reduceEqDiff,↓reduceIte,Int.reduceNeg,]|((with_reducible refine aQ (zAE _) ?_ ?_ ?_);exact rfl;exact rfl)|((with_reducible refine aQ (zBV _) ?_ ?_ ?_);exact rfl;exact rfl)|with_reducible refine aR (fun _=>?_) (fun _=>?_)|with_reducible refine cL (fun _=>?_) (fun _=>?_))
 all_goals ((simp_all [jE];done))
theorem zFj (x:Nat):aA Tryz.prog 200 [.c (.p (.f x))] [] fun d h=>d=.c (.p (.i .u64 (cW x)))∧h=[]:=by
 refine ent aC aK Tryz.func200 rfl rfl fun X0 hX=>?_;simp only [Tryz.f200,go_sem]
 repeat' (first|simp only [*,go_sem,Nat.reduceLT,Nat.reduceEqDiff,↓reduceIte,]|((with_reducible refine aQ (ED _) ?_ ?_ ?_);exact rfl;exact rfl)|with_reducible refine aR (fun _=>?_) (fun _=>?_))
 all_goals ((simp_all [cW,isNaN,AM];done))
theorem zFY (x:Nat):aA Tryz.prog 195 [.c (.p (.f x))] [] fun d h=>d=.c (.p (.f (cW x)))∧h=[]:=by
 refine ent aC aK Tryz.func195 rfl rfl fun X0 hX=>?_;simp only [Tryz.f195,go_sem]
 repeat' (first|simp only [*,go_sem,Nat.reduceLT,Nat.reduceEqDiff,↓reduceIte,]|((with_reducible refine aQ (zFj _) ?_ ?_ ?_);exact rfl;exact rfl)|((with_reducible refine aQ (iA _ (by omega)) ?_ ?_ ?_);exact rfl;exact rfl))
 all_goals (first|(with_reducible rfl)|(simp_all [];done)|(simp_all [];omega)|(simp_all [];(repeat' split) <;> omega))
theorem JY (x:Nat):aA Tryz.prog 114 [.c (.p (.f x))] [] fun d h=>d=.c (.p (.f (cW x)))∧h=[]:=by
 refine ent aC aK Tryz.func114 rfl rfl fun X0 hX=>?_;simp only [Tryz.f114,go_sem]
 repeat' (first|simp only [*,go_sem,Nat.reduceLT,Nat.reduceEqDiff,↓reduceIte,]|((with_reducible refine aQ (zFY _) ?_ ?_ ?_);exact rfl;exact rfl))
 all_goals (first|(with_reducible rfl)|(simp_all [];done)|(simp_all [];omega)|(simp_all [];(repeat' split) <;> omega))
theorem TJ (x y:Nat):aA Tryz.prog 121 [.c (.p (.f x)),.c (.p (.f y))] [] fun d h=>d=.c (.p (.b (cW x == cW y)))∧h=[]:=by
 refine ent aC aK Tryz.func121 rfl rfl fun X0 hX=>?_;simp only [Tryz.f121,go_sem]
 repeat' (first|simp only [*,go_sem,Nat.reduceLT,Nat.reduceEqDiff,↓reduceIte,]|((with_reducible refine aQ (zFj _) ?_ ?_ ?_);exact rfl;exact rfl))
 all_goals ((simp_all [vZ];done))
theorem SM (x:Int):aA Tryz.prog 357 [.c (.p (.i .i64 x))] [] fun d h=>d=.c (.p (.b false))∧h=[]:=by
 refine ent aC aK Tryz.func357 rfl rfl fun X0 hX=>?_;simp only [Tryz.f357,go_sem]
 repeat' (simp only [*,go_sem,Nat.reduceLT,Nat.reduceEqDiff,↓reduceIte,bne_self_eq_false])
 all_goals (first|(with_reducible rfl)|(simp_all [];done)|(simp_all [];omega)|(simp_all [];(repeat' split) <;> omega))
theorem SL (x:Nat):aA Tryz.prog 358 [.c (.p (.f x))] [] fun d h=>d=.c (.p (.b (isNaN x)))∧h=[]:=by
 refine ent aC aK Tryz.func358 rfl rfl fun X0 hX=>?_;simp only [Tryz.f358,go_sem]
 repeat' (simp only [*,go_sem,Nat.reduceLT,Nat.reduceEqDiff,↓reduceIte,])
 all_goals ((simp_all [isNaN];done))
theorem zCQ (a b:Int):aA Tryz.prog 301 [.c (.p (.i .i64 a)),.c (.p (.i .i64 b))] [] fun d h=>d=.c (.p (.i .i64 (KG a b)))∧h=[]:=by
 refine ent aC aK Tryz.func301 rfl rfl fun X0 hX=>?_;simp only [Tryz.f301,go_sem]
 repeat' (first|simp only [*,go_sem,Nat.reduceLT,Nat.reduceEqDiff,↓reduceIte,Int.reduceNeg,]|((with_reducible refine aQ (SM _) ?_ ?_ ?_);exact rfl;exact rfl)|with_reducible refine aR (fun _=>?_) (fun _=>?_))
 all_goals (first|(simp_all [KG];done)|(simp_all [KG];omega))
theorem zCP (a b:Nat):aA Tryz.prog 303 [.c (.p (.f a)),.c (.p (.f b))] [] fun d h=>d=.c (.p (.i .i64 (zHU a b)))∧h=[]:=by
 refine ent aC aK Tryz.func303 rfl rfl fun X0 hX=>?_;simp only [Tryz.f303,go_sem]
 repeat' (first|simp only [*,go_sem,Nat.reduceLT,Nat.reduceEqDiff,↓reduceIte,Int.reduceNeg,]|((with_reducible refine aQ (SL _) ?_ ?_ ?_);exact rfl;exact rfl)|with_reducible refine aR (fun _=>?_) (fun _=>?_))
 all_goals ((simp_all [zHU];done))
theorem QY:aA Tryz.prog 110 [.c (.p (.f 0)),.c (.p (.f 13830554455654793216))] [] fun d h=>d=.c (.p (.f 9223372036854775808))∧h=[]:=by
 have e:Dm.bits .or .u64 (Dm.bits .andNot .u64 0 9223372036854775808) (Dm.bits .and .u64 13830554455654793216 9223372036854775808)=9223372036854775808:=by kernel_rfl
 refine ent aC aK Tryz.func110 rfl rfl fun X0 hX=>?_;simp only [Tryz.f110,go_sem]
 repeat' (first|simp only [*,go_sem,Nat.reduceLT,Nat.reduceEqDiff,↓reduceIte,Int.reduceToNat,]|((with_reducible refine aQ (ED _) ?_ ?_ ?_);exact rfl;exact rfl)|((with_reducible refine aQ (iA _ (by omega)) ?_ ?_ ?_);exact rfl;exact rfl))
 all_goals (first|(with_reducible rfl)|(simp_all [];done)|(simp_all [];omega)|(simp_all [];(repeat' split) <;> omega))
theorem zJT (n:Int):aA Tryz.prog 111 [.c (.p (.i .i64 n))] [] fun d h=>d=.c (.p (.f (if 0≤n then 9218868437227405312 else 18442240474082181120)))∧h=[]:=by
 refine ent aC aK Tryz.func111 rfl rfl fun X0 hX=>?_;simp only [Tryz.f111,go_sem]
 repeat' (first|simp only [*,go_sem,Nat.reduceLT,Nat.reduceEqDiff,↓reduceIte,Int.reduceToNat,]|((with_reducible refine aQ (iA _ (by omega)) ?_ ?_ ?_);exact rfl;exact rfl)|with_reducible refine aR (fun _=>?_) (fun _=>?_))
 all_goals ((simp_all [];done))
theorem zJF:aA Tryz.prog 112 [] [] fun d h=>d=.c (.p (.f AM))∧h=[]:=by
 refine ent aC aK Tryz.func112 rfl rfl fun X0 hX=>?_;simp only [Tryz.f112,go_sem]
 repeat' (first|simp only [*,go_sem,Nat.reduceLT,↓reduceIte,Int.reduceToNat,]|((with_reducible refine aQ (iA _ (by omega)) ?_ ?_ ?_);exact rfl;exact rfl))
 all_goals ((simp_all [AM];done))
theorem cV (x:Nat):aA Tryz.prog 239 [.c (.p (.f x))] [] fun d h=>d=.c (.p (.f (cW x)))∧h=[]:=by
 refine ent aC aK Tryz.func239 rfl rfl fun X0 hX=>?_;simp only [Tryz.f239,go_sem]
 repeat' (first|simp only [*,go_sem,Nat.reduceLT,Nat.reduceEqDiff,↓reduceIte,Int.reduceToNat,]|((with_reducible refine aQ (zAE _) ?_ ?_ ?_);exact rfl;exact rfl)|((with_reducible refine aQ (iA _ (by omega)) ?_ ?_ ?_);exact rfl;exact rfl)|with_reducible refine aR (fun _=>?_) (fun _=>?_))
 all_goals ((simp_all [cW,AM];done))
theorem Or_c (a b:Int):aA Tryz.prog 302 [.c (.p (.sl 1 [[.i .i64 a],[.i .i64 b]]))] [] fun d h=>d=.c (.p (.i .i64 (if a == 0 then b else a)))∧h=[]:=by
 refine ent aC aK Tryz.func302 rfl rfl fun X0 hX=>?_;simp only [Tryz.f302,go_sem]
 repeat' (simp only [*,go_sem,Nat.reduceLT,Nat.reduceEqDiff,↓reduceIte,Nat.reduceAdd,])
 refine gD aC aK 3 ?_
 repeat' (first|simp only [*,go_sem,Nat.reduceLT,Nat.reduceEqDiff,↓reduceIte,Nat.reduceAdd,Int.reduceLT,Int.reduceLE,Int.reduceAdd,Int.reduceNeg,Int.reduceToNat,]|with_reducible refine aR (fun _=>?_) (fun _=>?_))
 all_goals ((simp_all [];done))
theorem HC (a b:Nat):aA Tryz.prog 249 [.c (.p (.f a)),.c (.p (.f b))] [] fun d h=>d=.c (.p (.i .i64 (sI a b)))∧h=[]:=by
 refine ent aC aK Tryz.func249 rfl rfl fun X0 hX=>?_;simp only [Tryz.f249,go_sem]
 repeat' (first|simp only [*,go_sem,Nat.reduceLT,Nat.reduceLeDiff,Nat.reduceEqDiff,↓reduceIte,]|((with_reducible refine aQ (zHi _) ?_ ?_ ?_);exact rfl;exact rfl)|((with_reducible refine aQ (zCQ _ _) ?_ ?_ ?_);exact rfl;exact rfl)|((with_reducible refine aQ (zCP _ _) ?_ ?_ ?_);exact rfl;exact rfl)|((with_reducible refine aQ (Or_c _ _) ?_ ?_ ?_);exact rfl;exact rfl)|with_reducible refine aR (fun _=>?_) (fun _=>?_)|((with_reducible apply aA.frz);exact rfl;exact rfl)|((with_reducible refine And.intro ?_ ?_);decide))
 all_goals (first|(simp_all [sI];done)|(simp_all [sI];omega))
theorem zBc (a b:Nat):aA Tryz.prog 188 [.c (.p (.f a)),.c (.p (.f b))] [] fun d h=>d=.c (.p (.b (sI a b == 0)))∧h=[]:=by
 refine ent aC aK Tryz.func188 rfl rfl fun X0 hX=>?_;simp only [Tryz.f188,go_sem]
 repeat' (first|simp only [*,go_sem,Nat.reduceLT,Nat.reduceEqDiff,↓reduceIte,]|((with_reducible refine aQ (HC _ _) ?_ ?_ ?_);exact rfl;exact rfl))
 all_goals (first|(with_reducible rfl)|(simp_all [];done)|(simp_all [];omega)|(simp_all [];(repeat' split) <;> omega))
theorem EF {a b:List UInt8}:aA Tryz.prog 189 [.c (.p (.sl 1 (bW a))),.c (.p (.sl 1 (bW b)))] [] fun d h=>d=.c (.p (.b (a == b)))∧h=[]:=by
 refine ent aC aK Tryz.func189 rfl rfl fun X0 hX=>?_;simp only [Tryz.f189,go_sem]
 repeat' (simp only [*,go_sem,Nat.reduceLT,Nat.reduceEqDiff,↓reduceIte,])
 all_goals (first|(with_reducible rfl)|(simp_all [];done)|(simp_all [];omega)|(simp_all [];(repeat' split) <;> omega))
theorem uD {a:List UInt8} (ha:a.length≤140737488355328):aA Tryz.prog 177 [.c (.p (.sl 1 (bW a)))] [] fun d h=>d=.c (.p (.sl 1 (bW a)))∧h=[]:=by
 refine bN ?_;refine ent aC aK Tryz.func177 rfl rfl fun X0 hX=>?_;simp only [Tryz.f177,go_sem];cases a with
 | nil =>
  repeat' (simp only [*,go_sem,Nat.reduceLT,Nat.reduceLeDiff,Nat.reduceEqDiff,↓reduceIte,Nat.reduceAdd,])
  simp [List.range_succ]
 | cons x l =>
  repeat' (first|simp only [*,go_sem,Nat.reduceLT,Nat.reduceLeDiff,Nat.reduceEqDiff,↓reduceIte,Nat.reduceAdd,]|((with_reducible refine And.intro ?_ ?_);decide))
  simp only [List.length_cons] at ha;exact ⟨by omega,by omega⟩
theorem CJ {k m k' m':Int} {t t':Nat} {d d':List UInt8}:aA Tryz.prog 107 [.agg (ndc k m t d),.agg (ndc k' m' t' d')] [] fun r h=>r=.c (.p (.b (sH ⟨k,m,t,d⟩ ⟨k',m',t',d'⟩)))∧h=[]:=by
 refine ent aC aK Tryz.func107 rfl rfl fun X0 hX=>?_;simp only [Tryz.f107,go_sem]
 repeat' (first|simp only [*,go_sem,Nat.reduceLT,Nat.reduceEqDiff,↓reduceIte,]|((with_reducible refine aQ (zBc _ _) ?_ ?_ ?_);exact rfl;exact rfl)|((with_reducible refine aQ (EF) ?_ ?_ ?_);exact rfl;exact rfl)|with_reducible refine cL (fun _=>?_) (fun _=>?_))
 all_goals ((simp_all [sH];done))
theorem VE {k m k' m':Int} {t t':Nat} {d d':List UInt8}:aA Tryz.prog 63 [.agg (ndc k m t d),.agg (ndc k' m' t' d')] [] fun r h=>r=.c (.p (.b (iS ⟨k,m,t,d⟩ ⟨k',m',t',d'⟩)))∧h=[]:=by
 refine ent aC aK Tryz.func63 rfl rfl fun X0 hX=>?_;simp only [Tryz.f63,go_sem]
 repeat' (first|simp only [*,go_sem,Nat.reduceLT,Nat.reduceEqDiff,↓reduceIte,]|((with_reducible refine aQ (TJ _ _) ?_ ?_ ?_);exact rfl;exact rfl)|with_reducible refine cL (fun _=>?_) (fun _=>?_))
 all_goals ((simp_all [iS];done))
theorem EN {k m:Int} {t:Nat} {d:List UInt8} (hd:d.length≤140737488355328):aA Tryz.prog 143 [.agg (ndc k m t d)] [] fun r h=>r=.agg (ndc k m t d)∧h=[]:=by
 refine ent aC aK Tryz.func143 rfl rfl fun X0 hX=>?_;simp only [Tryz.f143,go_sem]
 repeat' (first|simp only [*,go_sem,Nat.reduceLT,Nat.reduceLeDiff,Nat.reduceEqDiff,↓reduceIte,Nat.reduceAdd,]|((with_reducible refine cH (uD hd) ?_ ?_ ?_);exact rfl;exact fun _=>rfl))
 all_goals (first|(with_reducible rfl)|(simp_all [];done)|(simp_all [];omega)|(simp_all [];(repeat' split) <;> omega))
end Go.Proofs.YtlbfnbldeefgmaaGreatDoor
end
