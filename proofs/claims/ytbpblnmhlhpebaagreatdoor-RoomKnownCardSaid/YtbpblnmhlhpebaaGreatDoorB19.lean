/- Part 20 of the proof of roomKnown_card. No condition. -/
import Derived.Test.YtbpblnmhlhpebaaGreatDoorB04
import Derived.Test.YtbpblnmhlhpebaaGreatDoorB06
import Derived.Shelf.Small.Bits
import Derived.Shelf.Small.Strs
import Derived.Shelf.Small.Wraps
import Derived.Shelf.Utf8.RuneCount
import Derived.Shelf.Strconv.Itoa0
import Derived.Shelf.Strings.Search1
import Derived.Shelf.Strings.Search2
import Derived.Shelf.Strings.Search3
import Derived.Shelf.Strings.Count
import Derived.Shelf.LaysM
import Derived.Shelf.Strings.Shaped
import Derived.Shelf.Sort.Plain
import Derived.Shelf.Strings.LastIndex
import Derived.Shelf.Strings.Prefix
import Derived.Shelf.Strings.Split
import Derived.Shelf.Strings.SplitShaped
import Derived.Shelf.Unicode.Decode
import Derived.Shelf.Strings.RuneCount
import Derived.Shelf.Strings.Explode
import Derived.Shelf.Unicode.DecodeSlow
import Derived.Shelf.Unicode.DecodeAny
import Derived.Shelf.Slices.Reverse
import Derived.Shelf.Slices.CompactS
import Derived.Ground.Names2Prog
import Derived.Shelf.Slices.SearchI
import Derived.Shelf.Slices.Cells
import Derived.Shelf.Slices.In.SortNone
import Derived.Shelf.Bytes.SlIndexAt
import Derived.Shelf.Bytes.Small
import Derived.Shelf.Bytes.IndexByte
set_option linter.all false
set_option maxRecDepth 100000
set_option maxHeartbeats 4000000
namespace Go.Proofs.YtbpblnmhlhpebaaGreatDoor
open Go Go.Dm
section
theorem NY (a b:Nat):((a:Int) == (b:Int))=(a == b):=by
 rw [Bool.eq_iff_iff];simp only [beq_iff_eq];omega
theorem zAY (x:Nat):aA Tryz.prog 314 [.c (.p (.f x))] [] fun d h=>d=.c (.p (.b (isNaN x)))∧h=[]:=by
 refine ent aB aK Tryz.func314 rfl rfl fun X0 hX=>?_
 simp only [Tryz.f314,go_sem]
 repeat' (simp only [*,go_sem,Nat.reduceLT,Nat.reduceEqDiff,↓reduceIte])
 all_goals ((simp_all [isNaN];done))
theorem TY (x:Nat):aA Tryz.prog 180 [.c (.p (.f x))] [] fun d h=>d=.c (.p (.i .u64 x))∧h=[]:=by
 intro X vals hh hi _ hr
 match vals,hr with
 | [v],⟨h1,_⟩ =>
  simp only [bB,bS,cR] at h1
  subst h1
  refine .inr ⟨.int .u64 x,X.w,?_,_,X,rfl,hi,Step.refl hi,pU (x:=.p (.i .u64 x)) rfl,rfl,hh⟩
  kernel_rfl
theorem VB (z:Int) (hz:0≤z):aA Tryz.prog 116 [.c (.p (.i .u64 z))] [] fun d h=>d=.c (.p (.f z.toNat))∧h=[]:=by
 intro X vals hh hi _ hr
 match vals,hr with
 | [v],⟨h1,_⟩ =>
  simp only [bB,bS,cR] at h1
  obtain ⟨n,rfl⟩:=Int.eq_ofNat_of_zero_le hz
  subst h1
  refine .inr ⟨.float .f64 n,X.w,?_,_,X,rfl,hi,Step.refl hi,pU (x:=.p (.f n)) rfl,rfl,hh⟩
  kernel_rfl
theorem zBN (x:Nat):aA Tryz.prog 363 [.c (.p (.f x))] [] fun d h=>d=.c (.p (.b (XC x)))∧h=[]:=by
 refine ent aB aK Tryz.func363 rfl rfl fun X0 hX=>?_
 simp only [Tryz.f363,go_sem]
 repeat' (first|simp only [*,go_sem,Nat.reduceLT,Nat.reduceEqDiff,↓reduceIte]|((with_reducible refine aS (TY _) ?_ ?_ ?_);exact rfl;exact rfl))
 all_goals ((simp_all [XC];done))
theorem zJc (x:Nat):aA Tryz.prog 316 [.c (.p (.f x))] [] fun d h=>d=.tup [.c (.p (.i .i64 (jV x).1)),.c (.p (.i .i64 (jV x).2))]∧h=[]:=by
 refine ent aB aK Tryz.func316 rfl rfl fun X0 hX=>?_
 simp only [Tryz.f316,go_sem]
 repeat' (first|simp only [*,go_sem,Nat.reduceLT,Nat.reduceEqDiff,↓reduceIte,Int.reduceNeg]|((with_reducible refine aS (zAY _) ?_ ?_ ?_);exact rfl;exact rfl)|((with_reducible refine aS (zBN _) ?_ ?_ ?_);exact rfl;exact rfl)|with_reducible refine aU (fun _=>?_) (fun _=>?_)|with_reducible refine bR (fun _=>?_) (fun _=>?_))
 all_goals ((simp_all [jV];done))
theorem WS (x:Int):aA Tryz.prog 334 [.c (.p (.i .i64 x))] [] fun d h=>d=.c (.p (.b false))∧h=[]:=by
 refine ent aB aK Tryz.func334 rfl rfl fun X0 hX=>?_
 simp only [Tryz.f334,go_sem]
 repeat' (simp only [*,go_sem,Nat.reduceLT,Nat.reduceEqDiff,↓reduceIte,bne_self_eq_false])
 all_goals (first|(with_reducible rfl)|(simp_all [];done)|(simp_all [];omega)|(simp_all [];(repeat' split) <;> omega))
theorem XX (x:Nat):aA Tryz.prog 364 [.c (.p (.f x))] [] fun d h=>d=.c (.p (.b (isNaN x)))∧h=[]:=by
 refine ent aB aK Tryz.func364 rfl rfl fun X0 hX=>?_
 simp only [Tryz.f364,go_sem]
 repeat' (simp only [*,go_sem,Nat.reduceLT,Nat.reduceEqDiff,↓reduceIte])
 all_goals ((simp_all [isNaN];done))
theorem TN (a b:Int):aA Tryz.prog 269 [.c (.p (.i .i64 a)),.c (.p (.i .i64 b))] [] fun d h=>d=.c (.p (.i .i64 (LO a b)))∧h=[]:=by
 refine ent aB aK Tryz.func269 rfl rfl fun X0 hX=>?_
 simp only [Tryz.f269,go_sem]
 repeat' (first|simp only [*,go_sem,Nat.reduceLT,Nat.reduceEqDiff,↓reduceIte,Int.reduceNeg]|((with_reducible refine aS (WS _) ?_ ?_ ?_);exact rfl;exact rfl)|with_reducible refine aU (fun _=>?_) (fun _=>?_))
 all_goals (first|(simp_all [LO];done)|(simp_all [LO];omega))
theorem zD7 (a b:Nat):aA Tryz.prog 317 [.c (.p (.f a)),.c (.p (.f b))] [] fun d h=>d=.c (.p (.i .i64 (zJx a b)))∧h=[]:=by
 refine ent aB aK Tryz.func317 rfl rfl fun X0 hX=>?_
 simp only [Tryz.f317,go_sem]
 repeat' (first|simp only [*,go_sem,Nat.reduceLT,Nat.reduceEqDiff,↓reduceIte,Int.reduceNeg]|((with_reducible refine aS (XX _) ?_ ?_ ?_);exact rfl;exact rfl)|with_reducible refine aU (fun _=>?_) (fun _=>?_))
 all_goals ((simp_all [zJx];done))
theorem cT (x:Nat):aA Tryz.prog 244 [.c (.p (.f x))] [] fun d h=>d=.c (.p (.f (dD x)))∧h=[]:=by
 refine ent aB aK Tryz.func244 rfl rfl fun X0 hX=>?_
 simp only [Tryz.f244,go_sem]
 repeat' (first|simp only [*,go_sem,Nat.reduceLT,Nat.reduceEqDiff,↓reduceIte,Int.reduceToNat]|((with_reducible refine aS (zAY _) ?_ ?_ ?_);exact rfl;exact rfl)|((with_reducible refine aS (VB _ (by omega)) ?_ ?_ ?_);exact rfl;exact rfl)|with_reducible refine aU (fun _=>?_) (fun _=>?_))
 all_goals ((simp_all [dD,zBC];done))
theorem zMo (a b:Int):aA Tryz.prog 267 [.c (.p (.sl 1 [[.i .i64 a],[.i .i64 b]]))] [] fun d h=>d=.c (.p (.i .i64 (if a == 0 then b else a)))∧h=[]:=by
 refine ent aB aK Tryz.func267 rfl rfl fun X0 hX=>?_
 simp only [Tryz.f267,go_sem]
 repeat' (simp only [*,go_sem,Nat.reduceLT,Nat.reduceEqDiff,↓reduceIte,Nat.reduceAdd])
 refine fT aB aK 3 ?_
 repeat' (first|simp only [*,go_sem,Nat.reduceLT,Nat.reduceEqDiff,↓reduceIte,Nat.reduceAdd,Int.reduceLT,Int.reduceLE,Int.reduceAdd,Int.reduceNeg,Int.reduceToNat]|with_reducible refine aU (fun _=>?_) (fun _=>?_))
 all_goals ((simp_all [];done))
theorem uE (a b:Nat):aA Tryz.prog 247 [.c (.p (.f a)),.c (.p (.f b))] [] fun d h=>d=.c (.p (.i .i64 (mR a b)))∧h=[]:=by
 refine ent aB aK Tryz.func247 rfl rfl fun X0 hX=>?_
 simp only [Tryz.f247,go_sem]
 repeat' (first|simp only [*,go_sem,Nat.reduceLT,Nat.reduceLeDiff,Nat.reduceEqDiff,↓reduceIte]|((with_reducible refine aS (zJc _) ?_ ?_ ?_);exact rfl;exact rfl)|((with_reducible refine aS (TN _ _) ?_ ?_ ?_);exact rfl;exact rfl)|((with_reducible refine aS (zD7 _ _) ?_ ?_ ?_);exact rfl;exact rfl)|((with_reducible refine aS (zMo _ _) ?_ ?_ ?_);exact rfl;exact rfl)|with_reducible refine aU (fun _=>?_) (fun _=>?_)|((with_reducible apply aA.frz);exact rfl;exact rfl)|((with_reducible refine And.intro ?_ ?_);decide))
 all_goals (first|(simp_all [mR];done)|(simp_all [mR];omega))
theorem KO (a b:Nat):aA Tryz.prog 173 [.c (.p (.f a)),.c (.p (.f b))] [] fun d h=>d=.c (.p (.b (mR a b == 0)))∧h=[]:=by
 refine ent aB aK Tryz.func173 rfl rfl fun X0 hX=>?_
 simp only [Tryz.f173,go_sem]
 repeat' (first|simp only [*,go_sem,Nat.reduceLT,Nat.reduceEqDiff,↓reduceIte]|((with_reducible refine aS (uE _ _) ?_ ?_ ?_);exact rfl;exact rfl))
 all_goals (first|(with_reducible rfl)|(simp_all [];done)|(simp_all [];omega)|(simp_all [];(repeat' split) <;> omega))
theorem XD (a b:Nat):aA Tryz.prog 331 [.c (.p (.f a)),.c (.p (.f b))] [] fun d h=>d=.c (.p (.f (uT a b)))∧h=[]:=by
 refine ent aB aK Tryz.func331 rfl rfl fun X0 hX=>?_
 simp only [Tryz.f331,go_sem]
 repeat' (first|simp only [*,go_sem,Nat.reduceLT,Nat.reduceEqDiff,↓reduceIte]|((with_reducible refine aS (uE _ _) ?_ ?_ ?_);exact rfl;exact rfl)|((with_reducible refine aS (cT _) ?_ ?_ ?_);exact rfl;exact rfl)|with_reducible refine aU (fun _=>?_) (fun _=>?_))
 all_goals (first|(simp_all [uT];done)|(simp_all [uT];omega))
theorem hZ {a b:List UInt8}:aA Tryz.prog 174 [.c (.p (.sl 1 (cB a))),.c (.p (.sl 1 (cB b)))] [] fun d h=>d=.c (.p (.b (a == b)))∧h=[]:=by
 refine ent aB aK Tryz.func174 rfl rfl fun X0 hX=>?_
 simp only [Tryz.f174,go_sem]
 repeat' (simp only [*,go_sem,Nat.reduceLT,Nat.reduceEqDiff,↓reduceIte])
 all_goals (first|(with_reducible rfl)|(simp_all [];done)|(simp_all [];omega)|(simp_all [];(repeat' split) <;> omega))
theorem zU {a:List UInt8} (ha:a.length≤140737488355328):aA Tryz.prog 165 [.c (.p (.sl 1 (cB a)))] [] fun d h=>d=.c (.p (.sl 1 (cB a)))∧h=[]:=by
 refine aX ?_
 refine ent aB aK Tryz.func165 rfl rfl fun X0 hX=>?_
 simp only [Tryz.f165,go_sem]
 cases a with
 | nil =>
  repeat' (simp only [*,go_sem,Nat.reduceLT,Nat.reduceLeDiff,Nat.reduceEqDiff,↓reduceIte,Nat.reduceAdd])
  simp [List.range_succ]
 | cons x l =>
  repeat' (first|simp only [*,go_sem,Nat.reduceLT,Nat.reduceLeDiff,Nat.reduceEqDiff,↓reduceIte,Nat.reduceAdd]|((with_reducible refine And.intro ?_ ?_);decide))
  simp only [List.length_cons] at ha
  exact ⟨by omega,by omega⟩
theorem wE {k m k' m':Int} {t t':Nat} {d d':List UInt8}:aA Tryz.prog 106 [.agg (ndc k m t d),.agg (ndc k' m' t' d')] [] fun r h=>r=.c (.p (.b (rC ⟨k,m,t,d⟩ ⟨k',m',t',d'⟩)))∧h=[]:=by
 refine ent aB aK Tryz.func106 rfl rfl fun X0 hX=>?_
 simp only [Tryz.f106,go_sem]
 repeat' (first|simp only [*,go_sem,Nat.reduceLT,Nat.reduceEqDiff,↓reduceIte]|((with_reducible refine aS (KO _ _) ?_ ?_ ?_);exact rfl;exact rfl)|((with_reducible refine aS (hZ) ?_ ?_ ?_);exact rfl;exact rfl)|with_reducible refine bR (fun _=>?_) (fun _=>?_))
 all_goals ((simp_all [rC];done))
theorem uS {k m:Int} {t:Nat} {d:List UInt8} (hd:d.length≤140737488355328):aA Tryz.prog 98 [.agg (ndc k m t d)] [] fun r h=>r=.agg (ndc k m t d)∧h=[]:=by
 refine ent aB aK Tryz.func98 rfl rfl fun X0 hX=>?_
 simp only [Tryz.f98,go_sem]
 repeat' (first|simp only [*,go_sem,Nat.reduceLT,Nat.reduceLeDiff,Nat.reduceEqDiff,↓reduceIte,Nat.reduceAdd]|((with_reducible refine bP (zU hd) ?_ ?_ ?_);exact rfl;exact fun _=>rfl))
 all_goals (first|(with_reducible rfl)|(simp_all [];done)|(simp_all [];omega)|(simp_all [];(repeat' split) <;> omega))
theorem zJG {k m k' m':Int} {t t':Nat} {d d':List UInt8}:aA Tryz.prog 330 [.agg (ndc k m t d),.agg (ndc k' m' t' d')] [] fun r h=>r=.c (.p (.b (zCI ⟨k,m,t,d⟩ ⟨k',m',t',d'⟩)))∧h=[]:=by
 refine ent aB aK Tryz.func330 rfl rfl fun X0 hX=>?_
 simp only [Tryz.f330,go_sem]
 repeat' (first|simp only [*,go_sem,Nat.reduceLT,Nat.reduceEqDiff,↓reduceIte]|((with_reducible refine aS (hZ) ?_ ?_ ?_);exact rfl;exact rfl)|with_reducible refine bR (fun _=>?_) (fun _=>?_))
 all_goals ((simp_all [zCI];done))
end
end Go.Proofs.YtbpblnmhlhpebaaGreatDoor
namespace Go.Proofs
open Go.Shelf
section
def Tryz.lays106_ren:Go.Shelf.Ren:=⟨fun | 106=>102 | 213=>168 | 265=>242|n=>n,fun | 9=>9 | 3=>3|n=>n,fun|n=>n⟩
theorem Tryz.lays106:Go.Proofs.Lays.n106 Tryz.prog Tryz.lays106_ren:={
 mixed:=by kernel_rfl
 f106:=Tryz.func102.trans (congrArg some (by kernel_rfl))
 f213:=Tryz.func168.trans (congrArg some (by kernel_rfl))
 f265:=Tryz.func242.trans (congrArg some (by kernel_rfl))
 t3:=Tryz.underlying3
 a3:=Tryz.isAgg3
 z3:=Tryz.sizeOf3
 v3:=Tryz.zeroValue3
 t9:=Tryz.underlying9
 a9:=Tryz.isAgg9
 z9:=Tryz.sizeOf9
 v9:=Tryz.zeroValue9 }
open Go.RowKit in
theorem Tryz.strings_Compare (a b:ByteArray) (w:World):
  Calls Tryz.prog 102 #[.string a,.string b] w fun e w'=>e=.returned (.int .i64 (Lib.compareBytes a.data.toList b.data.toList))∧w'=w:=Any.strings_Compare Tryz.lays106 a b w
def Tryz.lays137_ren:Go.Shelf.Ren:=⟨fun | 137=>176 | 217=>248 | 266=>318|n=>n,fun | 9=>9 | 5=>5 | 3=>3|n=>n,fun|n=>n⟩
theorem Tryz.lays137:Go.Proofs.Lays.n137 Tryz.prog Tryz.lays137_ren:={
 mixed:=by kernel_rfl
 f137:=Tryz.func176.trans (congrArg some (by kernel_rfl))
 f217:=Tryz.func248.trans (congrArg some (by kernel_rfl))
 f266:=Tryz.func318.trans (congrArg some (by kernel_rfl))
 t3:=Tryz.underlying3
 a3:=Tryz.isAgg3
 z3:=Tryz.sizeOf3
 v3:=Tryz.zeroValue3
 t5:=Tryz.underlying5
 a5:=Tryz.isAgg5
 z5:=Tryz.sizeOf5
 v5:=Tryz.zeroValue5
 t9:=Tryz.underlying9
 a9:=Tryz.isAgg9
 z9:=Tryz.sizeOf9
 v9:=Tryz.zeroValue9 }
open Go.RowKit in
theorem Tryz.strings_IndexByte (s:ByteArray) (c:Int) (w:World):
  Calls Tryz.prog 176 #[.string s,.int .u8 c] w fun e w'=>e=.returned (.int .i64 (Lib.indexByte s.data.toList c.toNat.toUInt8))∧w'=w:=Any.strings_IndexByte Tryz.lays137 s c w
def Tryz.lays189_ren:Go.Shelf.Ren:=⟨fun | 189=>202 | 125=>167 | 257=>275 | 128=>240 | 129=>241 | 294=>337 | 295=>338 | 296=>339 | 297=>340 | 298=>341 | 299=>342 | 216=>343 | 300=>344 | 301=>345 | 328=>375 | 329=>309 | 330=>310 | 331=>376 | 332=>377 | 215=>334 | 343=>391|n=>n,fun | 28=>58 | 3=>3 | 46=>233 | 0=>0 | 51=>293 | 53=>184 | 4=>4 | 183=>287 | 182=>286 | 131=>137 | 5=>5 | 9=>9 | 218=>332 | 222=>336 | 228=>363 | 229=>339|n=>n,fun|n=>n⟩
theorem Tryz.lays189:Go.Proofs.Lays.n189 Tryz.prog Tryz.lays189_ren:={
 mixed:=by kernel_rfl
 f125:=Tryz.func167.trans (congrArg some (by kernel_rfl))
 f128:=Tryz.func240.trans (congrArg some (by kernel_rfl))
 f129:=Tryz.func241.trans (congrArg some (by kernel_rfl))
 f189:=Tryz.func202.trans (congrArg some (by kernel_rfl))
 f215:=Tryz.func334.trans (congrArg some (by kernel_rfl))
 f216:=Tryz.func343.trans (congrArg some (by kernel_rfl))
 f257:=Tryz.func275.trans (congrArg some (by kernel_rfl))
 f294:=Tryz.func337.trans (congrArg some (by kernel_rfl))
 f295:=Tryz.func338.trans (congrArg some (by kernel_rfl))
 f296:=Tryz.func339.trans (congrArg some (by kernel_rfl))
 f297:=Tryz.func340.trans (congrArg some (by kernel_rfl))
 f298:=Tryz.func341.trans (congrArg some (by kernel_rfl))
 f299:=Tryz.func342.trans (congrArg some (by kernel_rfl))
 f300:=Tryz.func344.trans (congrArg some (by kernel_rfl))
 f301:=Tryz.func345.trans (congrArg some (by kernel_rfl))
 f328:=Tryz.func375.trans (congrArg some (by kernel_rfl))
 f329:=Tryz.func309.trans (congrArg some (by kernel_rfl))
 f330:=Tryz.func310.trans (congrArg some (by kernel_rfl))
 f331:=Tryz.func376.trans (congrArg some (by kernel_rfl))
 f332:=Tryz.func377.trans (congrArg some (by kernel_rfl))
 f343:=Tryz.func391.trans (congrArg some (by kernel_rfl))
 t0:=Tryz.underlying0
 a0:=Tryz.isAgg0
 z0:=Tryz.sizeOf0
 v0:=Tryz.zeroValue0
 t3:=Tryz.underlying3
 a3:=Tryz.isAgg3
 z3:=Tryz.sizeOf3
 v3:=Tryz.zeroValue3
 t4:=Tryz.underlying4
 a4:=Tryz.isAgg4
 z4:=Tryz.sizeOf4
 v4:=Tryz.zeroValue4
 t5:=Tryz.underlying5
 a5:=Tryz.isAgg5
 z5:=Tryz.sizeOf5
 v5:=Tryz.zeroValue5
 t9:=Tryz.underlying9
 a9:=Tryz.isAgg9
 z9:=Tryz.sizeOf9
 v9:=Tryz.zeroValue9
 t28:=Tryz.underlying58
 a28:=Tryz.isAgg58
 z28:=Tryz.sizeOf58
 v28:=Tryz.zeroValue58
 t46:=Tryz.underlying233
 a46:=Tryz.isAgg233
 z46:=Tryz.sizeOf233
 v46:=Tryz.zeroValue233
 t51:=Tryz.underlying293
 a51:=Tryz.isAgg293
 z51:=Tryz.sizeOf293
 v51:=Tryz.zeroValue293
 t53:=Tryz.underlying184
 a53:=Tryz.isAgg184
 z53:=Tryz.sizeOf184
 v53:=Tryz.zeroValue184
 t131:=Tryz.underlying137
 a131:=Tryz.isAgg137
 z131:=Tryz.sizeOf137
 v131:=Tryz.zeroValue137
 t182:=Tryz.underlying286
 a182:=Tryz.isAgg286
 z182:=Tryz.sizeOf286
 v182:=Tryz.zeroValue286
 t183:=Tryz.underlying287
 a183:=Tryz.isAgg287
 z183:=Tryz.sizeOf287
 v183:=Tryz.zeroValue287
 t218:=Tryz.underlying332
 a218:=Tryz.isAgg332
 z218:=Tryz.sizeOf332
 v218:=Tryz.zeroValue332
 t222:=Tryz.underlying336
 a222:=Tryz.isAgg336
 z222:=Tryz.sizeOf336
 v222:=Tryz.zeroValue336
 t228:=Tryz.underlying363
 a228:=Tryz.isAgg363
 z228:=Tryz.sizeOf363
 v228:=Tryz.zeroValue363
 t229:=Tryz.underlying339
 a229:=Tryz.isAgg339
 z229:=Tryz.sizeOf339
 v229:=Tryz.zeroValue339 }
open Go.Sort Go.RowKit in
theorem Tryz.slices_Sort_int (blk off cap:Nat) (zs:List Int) (w:World) (hH:Holds (Value.int .i64) w blk off zs.toArray) (hblk:blk<w.heap.size) (hsz:zs.length<4611686018427387904):
  Calls Tryz.prog 202 #[.slice (some ⟨blk,off,none⟩) zs.length cap] w fun e w' =>
   e=.returned (.tuple #[])∧∃ n os,w'=grow (putRow (Value.int .i64) (Sort.ahead w n) blk off (zs.mergeSort fun x y=>decide (x≤y)).toArray) os:=Any.slices_Sort_int Tryz.lays189 blk off cap zs w hH hblk hsz
def Tryz.lays190_ren:Go.Shelf.Ren:=⟨fun | 190=>133 | 125=>167 | 258=>208 | 128=>240 | 129=>241 | 302=>288 | 303=>289 | 304=>290 | 305=>291 | 306=>292 | 307=>293 | 308=>294 | 309=>295 | 310=>296 | 333=>350 | 329=>309 | 330=>310 | 334=>351 | 335=>352 | 336=>333 | 344=>379|n=>n,fun | 31=>43 | 9=>9 | 3=>3 | 46=>233 | 0=>0 | 51=>293 | 53=>184 | 4=>4 | 183=>287 | 182=>286 | 131=>137 | 5=>5 | 218=>332 | 222=>336 | 228=>363 | 229=>339|n=>n,fun|n=>n⟩
theorem Tryz.lays190:Go.Proofs.Lays.n190 Tryz.prog Tryz.lays190_ren:={
 mixed:=by kernel_rfl
 f125:=Tryz.func167.trans (congrArg some (by kernel_rfl))
 f128:=Tryz.func240.trans (congrArg some (by kernel_rfl))
 f129:=Tryz.func241.trans (congrArg some (by kernel_rfl))
 f190:=Tryz.func133.trans (congrArg some (by kernel_rfl))
 f258:=Tryz.func208.trans (congrArg some (by kernel_rfl))
 f302:=Tryz.func288.trans (congrArg some (by kernel_rfl))
 f303:=Tryz.func289.trans (congrArg some (by kernel_rfl))
 f304:=Tryz.func290.trans (congrArg some (by kernel_rfl))
 f305:=Tryz.func291.trans (congrArg some (by kernel_rfl))
 f306:=Tryz.func292.trans (congrArg some (by kernel_rfl))
 f307:=Tryz.func293.trans (congrArg some (by kernel_rfl))
 f308:=Tryz.func294.trans (congrArg some (by kernel_rfl))
 f309:=Tryz.func295.trans (congrArg some (by kernel_rfl))
 f310:=Tryz.func296.trans (congrArg some (by kernel_rfl))
 f329:=Tryz.func309.trans (congrArg some (by kernel_rfl))
 f330:=Tryz.func310.trans (congrArg some (by kernel_rfl))
 f333:=Tryz.func350.trans (congrArg some (by kernel_rfl))
 f334:=Tryz.func351.trans (congrArg some (by kernel_rfl))
 f335:=Tryz.func352.trans (congrArg some (by kernel_rfl))
 f336:=Tryz.func333.trans (congrArg some (by kernel_rfl))
 f344:=Tryz.func379.trans (congrArg some (by kernel_rfl))
 t0:=Tryz.underlying0
 a0:=Tryz.isAgg0
 z0:=Tryz.sizeOf0
 v0:=Tryz.zeroValue0
 t3:=Tryz.underlying3
 a3:=Tryz.isAgg3
 z3:=Tryz.sizeOf3
 v3:=Tryz.zeroValue3
 t4:=Tryz.underlying4
 a4:=Tryz.isAgg4
 z4:=Tryz.sizeOf4
 v4:=Tryz.zeroValue4
 t5:=Tryz.underlying5
 a5:=Tryz.isAgg5
 z5:=Tryz.sizeOf5
 v5:=Tryz.zeroValue5
 t9:=Tryz.underlying9
 a9:=Tryz.isAgg9
 z9:=Tryz.sizeOf9
 v9:=Tryz.zeroValue9
 t31:=Tryz.underlying43
 a31:=Tryz.isAgg43
 z31:=Tryz.sizeOf43
 v31:=Tryz.zeroValue43
 t46:=Tryz.underlying233
 a46:=Tryz.isAgg233
 z46:=Tryz.sizeOf233
 v46:=Tryz.zeroValue233
 t51:=Tryz.underlying293
 a51:=Tryz.isAgg293
 z51:=Tryz.sizeOf293
 v51:=Tryz.zeroValue293
 t53:=Tryz.underlying184
 a53:=Tryz.isAgg184
 z53:=Tryz.sizeOf184
 v53:=Tryz.zeroValue184
 t131:=Tryz.underlying137
 a131:=Tryz.isAgg137
 z131:=Tryz.sizeOf137
 v131:=Tryz.zeroValue137
 t182:=Tryz.underlying286
 a182:=Tryz.isAgg286
 z182:=Tryz.sizeOf286
 v182:=Tryz.zeroValue286
 t183:=Tryz.underlying287
 a183:=Tryz.isAgg287
 z183:=Tryz.sizeOf287
 v183:=Tryz.zeroValue287
 t218:=Tryz.underlying332
 a218:=Tryz.isAgg332
 z218:=Tryz.sizeOf332
 v218:=Tryz.zeroValue332
 t222:=Tryz.underlying336
 a222:=Tryz.isAgg336
 z222:=Tryz.sizeOf336
 v222:=Tryz.zeroValue336
 t228:=Tryz.underlying363
 a228:=Tryz.isAgg363
 z228:=Tryz.sizeOf363
 v228:=Tryz.zeroValue363
 t229:=Tryz.underlying339
 a229:=Tryz.isAgg339
 z229:=Tryz.sizeOf339
 v229:=Tryz.zeroValue339 }
open Go.Sort Go.RowKit in
theorem Tryz.slices_Sort_string (blk off cap:Nat) (ss:List (List UInt8)) (w:World) (hH:Holds encStr w blk off ss.toArray) (hblk:blk<w.heap.size) (hsz:ss.length<4611686018427387904):
  Calls Tryz.prog 133 #[.slice (some ⟨blk,off,none⟩) ss.length cap] w fun e w' =>
   e=.returned (.tuple #[])∧∃ n os,w'=grow (putRow encStr (Sort.ahead w n) blk off (ss.mergeSort fun x y=>decide (x≤y)).toArray) os:=Any.slices_Sort_string Tryz.lays190 blk off cap ss w hH hblk hsz
def Tryz.lays149_ren:Go.Shelf.Ren:=⟨fun | 149=>246 | 222=>315|n=>n,fun | 9=>9 | 5=>5 | 3=>3 | 4=>4|n=>n,fun|n=>n⟩
theorem Tryz.lays149:Go.Proofs.Lays.n149 Tryz.prog Tryz.lays149_ren:={
 mixed:=by kernel_rfl
 f149:=Tryz.func246.trans (congrArg some (by kernel_rfl))
 f222:=Tryz.func315.trans (congrArg some (by kernel_rfl))
 t3:=Tryz.underlying3
 a3:=Tryz.isAgg3
 z3:=Tryz.sizeOf3
 v3:=Tryz.zeroValue3
 t4:=Tryz.underlying4
 a4:=Tryz.isAgg4
 z4:=Tryz.sizeOf4
 v4:=Tryz.zeroValue4
 t5:=Tryz.underlying5
 a5:=Tryz.isAgg5
 z5:=Tryz.sizeOf5
 v5:=Tryz.zeroValue5
 t9:=Tryz.underlying9
 a9:=Tryz.isAgg9
 z9:=Tryz.sizeOf9
 v9:=Tryz.zeroValue9 }
open Go.RowKit Go.Lib in
theorem Tryz.strings_LastIndexByte (s:ByteArray) (c:Int) (hs:s.size<4611686018427387904) (w:World):
  Calls Tryz.prog 246 #[.string s,.int .u8 c] w fun e w'=>e=.returned (.int .i64 (Lib.lastIndexByte s c))∧w'=w:=Any.strings_LastIndexByte Tryz.lays149 s c hs w
def Tryz.lays99_ren:Go.Shelf.Ren:=⟨fun | 99=>323 | 206=>366|n=>n,fun | 9=>9 | 4=>4 | 3=>3|n=>n,fun|n=>n⟩
theorem Tryz.lays99:Go.Proofs.Lays.n99 Tryz.prog Tryz.lays99_ren:={
 mixed:=by kernel_rfl
 f99:=Tryz.func323.trans (congrArg some (by kernel_rfl))
 f206:=Tryz.func366.trans (congrArg some (by kernel_rfl))
 t3:=Tryz.underlying3
 a3:=Tryz.isAgg3
 z3:=Tryz.sizeOf3
 v3:=Tryz.zeroValue3
 t4:=Tryz.underlying4
 a4:=Tryz.isAgg4
 z4:=Tryz.sizeOf4
 v4:=Tryz.zeroValue4
 t9:=Tryz.underlying9
 a9:=Tryz.isAgg9
 z9:=Tryz.sizeOf9
 v9:=Tryz.zeroValue9 }
open Go.RowKit Go.Lib in
theorem Tryz.strings_HasPrefix (s p:ByteArray) (w:World):
  Calls Tryz.prog 323 #[.string s,.string p] w fun e w'=>e=.returned (.bool (Lib.hasPrefix s.data.toList p.data.toList))∧w'=w:=Any.strings_HasPrefix Tryz.lays99 s p w
def Tryz.lays146_ren:Go.Shelf.Ren:=⟨fun | 146=>243 | 221=>313 | 268=>360 | 138=>361 | 143=>362 | 195=>384 | 197=>385 | 218=>386 | 219=>387 | 260=>393 | 217=>248 | 225=>394 | 224=>395 | 267=>396 | 266=>318 | 314=>399|n=>n,fun | 9=>9 | 31=>43 | 3=>3 | 4=>4 | 0=>0 | 105=>378 | 21=>21 | 5=>5 | 46=>233 | 119=>385 | 139=>388 | 138=>387 | 146=>389 | 51=>293|n=>n,fun | 1=>3 | 3=>4 | 4=>5|n=>n⟩
theorem Tryz.lays146:Go.Proofs.Lays.n146 Tryz.prog Tryz.lays146_ren:={
 mixed:=by kernel_rfl
 f138:=Tryz.func361.trans (congrArg some (by kernel_rfl))
 f143:=Tryz.func362.trans (congrArg some (by kernel_rfl))
 f146:=Tryz.func243.trans (congrArg some (by kernel_rfl))
 f195:=Tryz.func384.trans (congrArg some (by kernel_rfl))
 f197:=Tryz.func385.trans (congrArg some (by kernel_rfl))
 f217:=Tryz.func248.trans (congrArg some (by kernel_rfl))
 f218:=Tryz.func386.trans (congrArg some (by kernel_rfl))
 f219:=Tryz.func387.trans (congrArg some (by kernel_rfl))
 f221:=Tryz.func313.trans (congrArg some (by kernel_rfl))
 f224:=Tryz.func395.trans (congrArg some (by kernel_rfl))
 f225:=Tryz.func394.trans (congrArg some (by kernel_rfl))
 f260:=Tryz.func393.trans (congrArg some (by kernel_rfl))
 f266:=Tryz.func318.trans (congrArg some (by kernel_rfl))
 f267:=Tryz.func396.trans (congrArg some (by kernel_rfl))
 f268:=Tryz.func360.trans (congrArg some (by kernel_rfl))
 f314:=Tryz.func399.trans (congrArg some (by kernel_rfl))
 t0:=Tryz.underlying0
 a0:=Tryz.isAgg0
 z0:=Tryz.sizeOf0
 v0:=Tryz.zeroValue0
 t3:=Tryz.underlying3
 a3:=Tryz.isAgg3
 z3:=Tryz.sizeOf3
 v3:=Tryz.zeroValue3
 t4:=Tryz.underlying4
 a4:=Tryz.isAgg4
 z4:=Tryz.sizeOf4
 v4:=Tryz.zeroValue4
 t5:=Tryz.underlying5
 a5:=Tryz.isAgg5
 z5:=Tryz.sizeOf5
 v5:=Tryz.zeroValue5
 t9:=Tryz.underlying9
 a9:=Tryz.isAgg9
 z9:=Tryz.sizeOf9
 v9:=Tryz.zeroValue9
 t21:=Tryz.underlying21
 a21:=Tryz.isAgg21
 z21:=Tryz.sizeOf21
 v21:=Tryz.zeroValue21
 t31:=Tryz.underlying43
 a31:=Tryz.isAgg43
 z31:=Tryz.sizeOf43
 v31:=Tryz.zeroValue43
 t46:=Tryz.underlying233
 a46:=Tryz.isAgg233
 z46:=Tryz.sizeOf233
 v46:=Tryz.zeroValue233
 t51:=Tryz.underlying293
 a51:=Tryz.isAgg293
 z51:=Tryz.sizeOf293
 v51:=Tryz.zeroValue293
 t105:=Tryz.underlying378
 a105:=Tryz.isAgg378
 z105:=Tryz.sizeOf378
 v105:=Tryz.zeroValue378
 t119:=Tryz.underlying385
 a119:=Tryz.isAgg385
 z119:=Tryz.sizeOf385
 t138:=Tryz.underlying387
 a138:=Tryz.isAgg387
 z138:=Tryz.sizeOf387
 v138:=Tryz.zeroValue387
 t139:=Tryz.underlying388
 a139:=Tryz.isAgg388
 z139:=Tryz.sizeOf388
 v139:=Tryz.zeroValue388
 t146:=Tryz.underlying389
 a146:=Tryz.isAgg389
 z146:=Tryz.sizeOf389
 v146:=Tryz.zeroValue389
 g1:=by kernel_rfl
 g3:=by kernel_rfl
 g4:=by kernel_rfl }
open Go.RowKit Go.Lib in
theorem Tryz.strings_Split (s sep:ByteArray) (m:Int) (w:World) (hs:s.size<4294967281) (hm:w.cell? ⟨3,0,none⟩=some (.int .i64 m)) (h1:1≤sep.size):
  Calls Tryz.prog 243 #[.string s,.string sep] w fun e w' =>
   e=.returned (.slice (some ⟨w.heap.size,0,none⟩) (Lib.countB s sep+1) (Lib.countB s sep+1))∧w'=w.alloc (.cells ((Lib.splitB sep 0 (Lib.countB s sep) s).map Value.string).toArray 9):=Any.strings_Split Tryz.lays146 (by kernel_rfl) s sep m w hs hm h1
def Tryz.laysM146_ren:Go.Shelf.Ren:=⟨fun | 146=>243 | 221=>313 | 268=>360 | 138=>361 | 143=>362 | 195=>384 | 197=>385 | 218=>386 | 219=>387 | 260=>393 | 217=>248 | 225=>394 | 224=>395 | 267=>396 | 266=>318 | 314=>399|n=>n,fun | 9=>9 | 31=>43 | 3=>3 | 4=>4 | 0=>0 | 105=>378 | 21=>21 | 5=>5 | 46=>233 | 119=>385 | 139=>388 | 138=>387 | 146=>389 | 51=>293|n=>n,fun | 1=>3 | 3=>4 | 4=>5|n=>n⟩
theorem Tryz.laysM146:Go.Proofs.LaysM.n146 Tryz.prog Tryz.laysM146_ren:={
 mixed:=by kernel_rfl
 f138:=Tryz.func361.trans (congrArg some (by kernel_rfl))
 f143:=Tryz.func362.trans (congrArg some (by kernel_rfl))
 f146:=Tryz.func243.trans (congrArg some (by kernel_rfl))
 f195:=Tryz.func384.trans (congrArg some (by kernel_rfl))
 f197:=Tryz.func385.trans (congrArg some (by kernel_rfl))
 f217:=Tryz.func248.trans (congrArg some (by kernel_rfl))
 f218:=Tryz.func386.trans (congrArg some (by kernel_rfl))
 f219:=Tryz.func387.trans (congrArg some (by kernel_rfl))
 f221:=Tryz.func313.trans (congrArg some (by kernel_rfl))
 f224:=Tryz.func395.trans (congrArg some (by kernel_rfl))
 f225:=Tryz.func394.trans (congrArg some (by kernel_rfl))
 f260:=Tryz.func393.trans (congrArg some (by kernel_rfl))
 f266:=Tryz.func318.trans (congrArg some (by kernel_rfl))
 f267:=Tryz.func396.trans (congrArg some (by kernel_rfl))
 f268:=Tryz.func360.trans (congrArg some (by kernel_rfl))
 f314:=Tryz.func399.trans (congrArg some (by kernel_rfl))
 t0:=Tryz.underlying0
 a0:=Tryz.isAgg0
 z0:=Tryz.sizeOf0
 v0:=Tryz.zeroValue0
 t3:=Tryz.underlying3
 a3:=Tryz.isAgg3
 z3:=Tryz.sizeOf3
 v3:=Tryz.zeroValue3
 t4:=Tryz.underlying4
 a4:=Tryz.isAgg4
 z4:=Tryz.sizeOf4
 v4:=Tryz.zeroValue4
 t5:=Tryz.underlying5
 a5:=Tryz.isAgg5
 z5:=Tryz.sizeOf5
 v5:=Tryz.zeroValue5
 t9:=Tryz.underlying9
 a9:=Tryz.isAgg9
 z9:=Tryz.sizeOf9
 v9:=Tryz.zeroValue9
 t21:=Tryz.underlying21
 a21:=Tryz.isAgg21
 z21:=Tryz.sizeOf21
 v21:=Tryz.zeroValue21
 t31:=Tryz.underlying43
 a31:=Tryz.isAgg43
 z31:=Tryz.sizeOf43
 v31:=Tryz.zeroValue43
 t46:=Tryz.underlying233
 a46:=Tryz.isAgg233
 z46:=Tryz.sizeOf233
 v46:=Tryz.zeroValue233
 t51:=Tryz.underlying293
 a51:=Tryz.isAgg293
 z51:=Tryz.sizeOf293
 v51:=Tryz.zeroValue293
 t105:=Tryz.underlying378
 a105:=Tryz.isAgg378
 z105:=Tryz.sizeOf378
 v105:=Tryz.zeroValue378
 t119:=Tryz.underlying385
 a119:=Tryz.isAgg385
 z119:=Tryz.sizeOf385
 t138:=Tryz.underlying387
 a138:=Tryz.isAgg387
 z138:=Tryz.sizeOf387
 v138:=Tryz.zeroValue387
 t139:=Tryz.underlying388
 a139:=Tryz.isAgg388
 z139:=Tryz.sizeOf388
 v139:=Tryz.zeroValue388
 t146:=Tryz.underlying389
 a146:=Tryz.isAgg389
 z146:=Tryz.sizeOf389
 v146:=Tryz.zeroValue389
 g1:=by kernel_rfl
 g3:=by kernel_rfl
 g4:=by kernel_rfl
 i0:=by kernel_rfl
 i3:=by kernel_rfl
 i4:=by kernel_rfl
 i5:=by kernel_rfl
 i9:=by kernel_rfl
 i21:=by kernel_rfl
 i31:=by kernel_rfl
 i46:=by kernel_rfl
 i51:=by kernel_rfl
 i105:=by kernel_rfl
 i138:=by kernel_rfl
 i139:=by kernel_rfl
 i146:=by kernel_rfl
 m1:=by kernel_rfl
 s1_3:=fun w h=>Go.Proofs.cell_of_shapedOpen_int (zero:=#[.int .i64 0]) (t:=3) h (of_decide_eq_true (by kernel_rfl)) (by kernel_rfl) rfl (by kernel_rfl) (by kernel_rfl) Tryz.underlying3
 m3:=by kernel_rfl
 m4:=by kernel_rfl }
def Tryz.lays194_ren:Go.Shelf.Ren:=⟨fun | 194=>134|n=>n,fun | 31=>43 | 9=>9 | 3=>3 | 4=>4 | 0=>0|n=>n,fun|n=>n⟩
theorem Tryz.lays194:Go.Proofs.Lays.n194 Tryz.prog Tryz.lays194_ren:={
 mixed:=by kernel_rfl
 f194:=Tryz.func134.trans (congrArg some (by kernel_rfl))
 t0:=Tryz.underlying0
 a0:=Tryz.isAgg0
 z0:=Tryz.sizeOf0
 v0:=Tryz.zeroValue0
 t3:=Tryz.underlying3
 a3:=Tryz.isAgg3
 z3:=Tryz.sizeOf3
 v3:=Tryz.zeroValue3
 t4:=Tryz.underlying4
 a4:=Tryz.isAgg4
 z4:=Tryz.sizeOf4
 v4:=Tryz.zeroValue4
 t9:=Tryz.underlying9
 a9:=Tryz.isAgg9
 z9:=Tryz.sizeOf9
 v9:=Tryz.zeroValue9
 t31:=Tryz.underlying43
 a31:=Tryz.isAgg43
 z31:=Tryz.sizeOf43
 v31:=Tryz.zeroValue43 }
open Go.RowKit Go.Lib Go.Sort in
theorem Tryz.slices_Compact_string (blk off cap:Nat) (zs:List (List UInt8)) (w:World) (hH:Holds encStr w blk off zs.toArray) (hsz:zs.length≤9223372036854775807) (hcap:zs.length≤cap):
  Calls Tryz.prog 134 #[.slice (some ⟨blk,off,none⟩) zs.length cap] w fun e w'=>e=.returned (.slice (some ⟨blk,off,none⟩) (Lib.compact zs).length cap)∧∃ q,w'=putRow encStr (Sort.ahead w q) blk off (Lib.compact zs++List.replicate (zs.length-(Lib.compact zs).length) []).toArray:=Any.slices_Compact_string Tryz.lays194 blk off cap zs w hH hsz hcap
open Go.RowKit Go.Lib Go.Sort in
theorem Tryz.slices_Compact_string_empty (a:Option Addr) (cap:Nat) (w:World):
  Calls Tryz.prog 134 #[.slice a 0 cap] w fun e w'=>e=.returned (.slice a 0 cap)∧w'=w:=Any.slices_Compact_string_empty Tryz.lays194 a cap w
open Go.RowKit Go.Sort in
theorem Tryz.slices_Sort_string_none (p:Option Addr) (cap:Nat) (w:World):
  Calls Tryz.prog 133 #[.slice p 0 cap] w fun e w'=>e=.returned (.tuple #[])∧w'=w:=Any.slices_Sort_string_none Tryz.lays190 p cap w
open Go.RowKit Go.Sort in
theorem Tryz.slices_Sort_int_none (p:Option Addr) (cap:Nat) (w:World):
  Calls Tryz.prog 202 #[.slice p 0 cap] w fun e w'=>e=.returned (.tuple #[])∧w'=w:=Any.slices_Sort_int_none Tryz.lays189 p cap w
def Tryz.lays187_ren:Go.Shelf.Ren:=⟨fun | 187=>254 | 255=>321|n=>n,fun | 37=>40 | 5=>5 | 3=>3|n=>n,fun|n=>n⟩
theorem Tryz.lays187:Go.Proofs.Lays.n187 Tryz.prog Tryz.lays187_ren:={
 mixed:=by kernel_rfl
 f187:=Tryz.func254.trans (congrArg some (by kernel_rfl))
 f255:=Tryz.func321.trans (congrArg some (by kernel_rfl))
 t3:=Tryz.underlying3
 a3:=Tryz.isAgg3
 z3:=Tryz.sizeOf3
 v3:=Tryz.zeroValue3
 t5:=Tryz.underlying5
 a5:=Tryz.isAgg5
 z5:=Tryz.sizeOf5
 v5:=Tryz.zeroValue5
 t37:=Tryz.underlying40
 a37:=Tryz.isAgg40
 z37:=Tryz.sizeOf40
 v37:=Tryz.zeroValue40 }
open Go.RowKit Go.Lib in
theorem Tryz.bytes_IndexByte_at (a:Addr) (n c:Nat) (xs:List Int) (cv:Int) (w:World) (hx:xs.length=n) (hc:∀ i,i<n→w.cell? (a.add i)=some (.int .u8 (xs.getD i 0))):
  Calls Tryz.prog 254 #[.slice (some a) n c,.int .u8 cv] w fun e w'=>e=.returned (.int .i64 (Lib.indexByte (Lib.bytesOf xs) cv.toNat.toUInt8))∧w'=w:=Any.bytes_IndexByte_at Tryz.lays187 a n c xs cv w hx hc
end
end Go.Proofs
