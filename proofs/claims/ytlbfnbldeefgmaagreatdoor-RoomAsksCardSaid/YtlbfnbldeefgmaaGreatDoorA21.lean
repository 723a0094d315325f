/- Part 22 of the proof of roomAsks_card, set without needless blanks. No condition. -/
import Derived.Test.YtlbfnbldeefgmaaGreatDoorA04
import Derived.Test.YtlbfnbldeefgmaaGreatDoorA07
set_option linter.all false
section
namespace Go.Proofs.YtlbfnbldeefgmaaGreatDoor
open Go Go.Dm
set_option maxRecDepth 100000
set_option maxHeartbeats 4000000
theorem yT (a b:Nat):((a:Int) == (b:Int))=(a == b):=by
 rw [Bool.eq_iff_iff];simp only [beq_iff_eq];omega
theorem zC7 (x:Nat):aA Tryz.prog 291 [.c (.p (.f x))] [] fun d h=>d=.c (.p (.b (isNaN x)))∧h=[]:=by
 refine ent aB aK Tryz.func291 rfl rfl fun X0 hX=>?_;simp only [Tryz.f291,go_sem]
 repeat' (first|exact ⟨⟩|refine sp ?_)
 all_goals ((simp_all [isNaN];done))
theorem wR (x:Nat):aA Tryz.prog 194 [.c (.p (.f x))] [] fun d h=>d=.c (.p (.i .u64 x))∧h=[]:=by
 intro X vals hh hi _ hr
 match vals,hr with
 | [v],⟨h1,_⟩ =>
  simp only [bA,bS,cT] at h1;subst h1;refine .inr ⟨.int .u64 x,X.w,?_,_,X,rfl,hi,Step.refl hi,qC (x:=.p (.i .u64 x)) rfl,rfl,hh⟩;kernel_rfl
theorem iM (z:Int) (hz:0≤z):aA Tryz.prog 113 [.c (.p (.i .u64 z))] [] fun d h=>d=.c (.p (.f z.toNat))∧h=[]:=by
 intro X vals hh hi _ hr
 match vals,hr with
 | [v],⟨h1,_⟩ =>
  simp only [bA,bS,cT] at h1;obtain ⟨n,rfl⟩:=Int.eq_ofNat_of_zero_le hz;subst h1;refine .inr ⟨.float .f64 n,X.w,?_,_,X,rfl,hi,Step.refl hi,qC (x:=.p (.f n)) rfl,rfl,hh⟩;kernel_rfl
theorem zEx (x:Nat):aA Tryz.prog 356 [.c (.p (.f x))] [] fun d h=>d=.c (.p (.b (ZT x)))∧h=[]:=by
 refine ent aB aK Tryz.func356 rfl rfl fun X0 hX=>?_;simp only [Tryz.f356,go_sem]
 repeat' (first|exact ⟨⟩|refine sp ?_|refine uF (wR _) ?_)
 all_goals ((simp_all [ZT];done))
theorem zJ8 (x:Nat):aA Tryz.prog 300 [.c (.p (.f x))] [] fun d h=>d=.tup [.c (.p (.i .i64 (jW x).1)),.c (.p (.i .i64 (jW x).2))]∧h=[]:=by
 refine ent aB aK Tryz.func300 rfl rfl fun X0 hX=>?_;simp only [Tryz.f300,go_sem]
 repeat' (first|exact ⟨⟩|refine sp ?_|refine uF (zC7 _) ?_|refine uF (zEx _) ?_|with_reducible refine aO (fun _=>?_) (fun _=>?_)|with_reducible refine bF (fun _=>?_) (fun _=>?_))
 all_goals ((simp_all [jW];done))
theorem zH6 (x:Nat):aA Tryz.prog 200 [.c (.p (.f x))] [] fun d h=>d=.c (.p (.i .u64 (cY x)))∧h=[]:=by
 refine ent aB aK Tryz.func200 rfl rfl fun X0 hX=>?_;simp only [Tryz.f200,go_sem]
 repeat' (first|exact ⟨⟩|refine sp ?_|refine uF (wR _) ?_|with_reducible refine aO (fun _=>?_) (fun _=>?_))
 all_goals ((simp_all [cY,isNaN,DQ];done))
theorem zAZ (x:Nat):aA Tryz.prog 195 [.c (.p (.f x))] [] fun d h=>d=.c (.p (.f (cY x)))∧h=[]:=by
 refine ent aB aK Tryz.func195 rfl rfl fun X0 hX=>?_;simp only [Tryz.f195,go_sem]
 repeat' (first|exact ⟨⟩|refine sp ?_|refine uF (zH6 _) ?_|refine uF (iM _ (by omega)) ?_)
 all_goals (first|(with_reducible rfl)|(simp_all [];done)|(simp_all [];omega)|(simp_all [];(repeat' split) <;> omega))
theorem PL (x:Nat):aA Tryz.prog 114 [.c (.p (.f x))] [] fun d h=>d=.c (.p (.f (cY x)))∧h=[]:=by
 refine ent aB aK Tryz.func114 rfl rfl fun X0 hX=>?_;simp only [Tryz.f114,go_sem]
 repeat' (first|exact ⟨⟩|refine sp ?_|refine uF (zAZ _) ?_)
 all_goals (first|(with_reducible rfl)|(simp_all [];done)|(simp_all [];omega)|(simp_all [];(repeat' split) <;> omega))
theorem zAf (x y:Nat):aA Tryz.prog 121 [.c (.p (.f x)),.c (.p (.f y))] [] fun d h=>d=.c (.p (.b (cY x == cY y)))∧h=[]:=by
 refine ent aB aK Tryz.func121 rfl rfl fun X0 hX=>?_;simp only [Tryz.f121,go_sem]
 repeat' (first|exact ⟨⟩|refine sp ?_|refine uF (zH6 _) ?_)
 all_goals ((simp_all [yT];done))
theorem ZL (x:Int):aA Tryz.prog 357 [.c (.p (.i .i64 x))] [] fun d h=>d=.c (.p (.b false))∧h=[]:=by
 refine ent aB aK Tryz.func357 rfl rfl fun X0 hX=>?_;simp only [Tryz.f357,go_sem]
 repeat' (first|exact ⟨⟩|refine sp ?_)
 all_goals (first|(with_reducible rfl)|(simp_all [];done)|(simp_all [];omega)|(simp_all [];(repeat' split) <;> omega))
theorem ZK (x:Nat):aA Tryz.prog 358 [.c (.p (.f x))] [] fun d h=>d=.c (.p (.b (isNaN x)))∧h=[]:=by
 refine ent aB aK Tryz.func358 rfl rfl fun X0 hX=>?_;simp only [Tryz.f358,go_sem]
 repeat' (first|exact ⟨⟩|refine sp ?_)
 all_goals ((simp_all [isNaN];done))
theorem zFw (a b:Int):aA Tryz.prog 301 [.c (.p (.i .i64 a)),.c (.p (.i .i64 b))] [] fun d h=>d=.c (.p (.i .i64 (PW a b)))∧h=[]:=by
 refine ent aB aK Tryz.func301 rfl rfl fun X0 hX=>?_;simp only [Tryz.f301,go_sem]
 repeat' (first|exact ⟨⟩|refine sp ?_|refine uF (ZL _) ?_|with_reducible refine aO (fun _=>?_) (fun _=>?_))
 all_goals (first|(simp_all [PW];done)|(simp_all [PW];omega))
theorem zFv (a b:Nat):aA Tryz.prog 303 [.c (.p (.f a)),.c (.p (.f b))] [] fun d h=>d=.c (.p (.i .i64 (zKP a b)))∧h=[]:=by
 refine ent aB aK Tryz.func303 rfl rfl fun X0 hX=>?_;simp only [Tryz.f303,go_sem]
 repeat' (first|exact ⟨⟩|refine sp ?_|refine uF (ZK _) ?_|with_reducible refine aO (fun _=>?_) (fun _=>?_))
 all_goals ((simp_all [zKP];done))
theorem YF:aA Tryz.prog 110 [.c (.p (.f 0)),.c (.p (.f 13830554455654793216))] [] fun d h=>d=.c (.p (.f 9223372036854775808))∧h=[]:=by
 have e:Dm.bits .or .u64 (Dm.bits .andNot .u64 0 9223372036854775808) (Dm.bits .and .u64 13830554455654793216 9223372036854775808)=9223372036854775808:=by kernel_rfl
 refine ent aB aK Tryz.func110 rfl rfl fun X0 hX=>?_;simp only [Tryz.f110,go_sem]
 repeat' (first|exact ⟨⟩|refine sp ?_|refine uF (wR _) ?_|refine uF (iM _ (by omega)) ?_)
 all_goals (first|(with_reducible rfl)|(simp_all [];done)|(simp_all [];omega)|(simp_all [];(repeat' split) <;> omega))
theorem zMX (n:Int):aA Tryz.prog 111 [.c (.p (.i .i64 n))] [] fun d h=>d=.c (.p (.f (if 0≤n then 9218868437227405312 else 18442240474082181120)))∧h=[]:=by
 refine ent aB aK Tryz.func111 rfl rfl fun X0 hX=>?_;simp only [Tryz.f111,go_sem]
 repeat' (first|exact ⟨⟩|refine sp ?_|refine uF (iM _ (by omega)) ?_|with_reducible refine aO (fun _=>?_) (fun _=>?_))
 all_goals ((simp_all [];done))
theorem zMI:aA Tryz.prog 112 [] [] fun d h=>d=.c (.p (.f DQ))∧h=[]:=by
 refine ent aB aK Tryz.func112 rfl rfl fun X0 hX=>?_;simp only [Tryz.f112,go_sem]
 repeat' (first|exact ⟨⟩|refine sp ?_|refine uF (iM _ (by omega)) ?_)
 all_goals ((simp_all [DQ];done))
theorem cX (x:Nat):aA Tryz.prog 239 [.c (.p (.f x))] [] fun d h=>d=.c (.p (.f (cY x)))∧h=[]:=by
 refine ent aB aK Tryz.func239 rfl rfl fun X0 hX=>?_;simp only [Tryz.f239,go_sem]
 repeat' (first|exact ⟨⟩|refine sp ?_|refine uF (zC7 _) ?_|refine uF (iM _ (by omega)) ?_|with_reducible refine aO (fun _=>?_) (fun _=>?_))
 all_goals ((simp_all [cY,DQ];done))
theorem Or_c (a b:Int):aA Tryz.prog 302 [.c (.p (.sl 1 [[.i .i64 a],[.i .i64 b]]))] [] fun d h=>d=.c (.p (.i .i64 (if a == 0 then b else a)))∧h=[]:=by
 refine ent aB aK Tryz.func302 rfl rfl fun X0 hX=>?_;simp only [Tryz.f302,go_sem]
 repeat' (first|exact ⟨⟩|refine sp ?_)
 refine fL aB aK 3 ?_
 repeat' (first|exact ⟨⟩|refine sp ?_|with_reducible refine aO (fun _=>?_) (fun _=>?_))
 all_goals ((simp_all [];done))
theorem LX (a b:Nat):aA Tryz.prog 249 [.c (.p (.f a)),.c (.p (.f b))] [] fun d h=>d=.c (.p (.i .i64 (uT a b)))∧h=[]:=by
 refine ent aB aK Tryz.func249 rfl rfl fun X0 hX=>?_;simp only [Tryz.f249,go_sem]
 repeat' (first|exact ⟨⟩|refine sp ?_|refine uF (zJ8 _) ?_|refine uF (zFw _ _) ?_|refine uF (zFv _ _) ?_|refine uF (Or_c _ _) ?_|with_reducible refine aO (fun _=>?_) (fun _=>?_)|((with_reducible apply aA.frz);exact rfl;exact rfl)|((with_reducible refine And.intro ?_ ?_);decide))
 all_goals (first|(simp_all [uT];done)|(simp_all [uT];omega))
theorem zDN (a b:Nat):aA Tryz.prog 188 [.c (.p (.f a)),.c (.p (.f b))] [] fun d h=>d=.c (.p (.b (uT a b == 0)))∧h=[]:=by
 refine ent aB aK Tryz.func188 rfl rfl fun X0 hX=>?_;simp only [Tryz.f188,go_sem]
 repeat' (first|exact ⟨⟩|refine sp ?_|refine uF (LX _ _) ?_)
 all_goals (first|(with_reducible rfl)|(simp_all [];done)|(simp_all [];omega)|(simp_all [];(repeat' split) <;> omega))
theorem uK {a b:List UInt8}:aA Tryz.prog 189 [.c (.p (.sl 1 (bO a))),.c (.p (.sl 1 (bO b)))] [] fun d h=>d=.c (.p (.b (a == b)))∧h=[]:=by
 refine ent aB aK Tryz.func189 rfl rfl fun X0 hX=>?_;simp only [Tryz.f189,go_sem]
 repeat' (first|exact ⟨⟩|refine sp ?_)
 all_goals (first|(with_reducible rfl)|(simp_all [];done)|(simp_all [];omega)|(simp_all [];(repeat' split) <;> omega))
theorem wY {a:List UInt8} (ha:a.length≤140737488355328):aA Tryz.prog 177 [.c (.p (.sl 1 (bO a)))] [] fun d h=>d=.c (.p (.sl 1 (bO a)))∧h=[]:=by
 refine bK ?_;refine ent aB aK Tryz.func177 rfl rfl fun X0 hX=>?_;simp only [Tryz.f177,go_sem];cases a with
 | nil =>
  repeat' (first|exact ⟨⟩|refine sp ?_)
  simp [List.range_succ]
 | cons x l =>
  repeat' (first|exact ⟨⟩|refine sp ?_|((with_reducible refine And.intro ?_ ?_);decide))
  simp only [List.length_cons] at ha;exact ⟨by omega,by omega⟩
theorem rO {k m k' m':Int} {t t':Nat} {d d':List UInt8}:aA Tryz.prog 107 [.agg (ndc k m t d),.agg (ndc k' m' t' d')] [] fun r h=>r=.c (.p (.b (mI ⟨k,m,t,d⟩ ⟨k',m',t',d'⟩)))∧h=[]:=by
 refine ent aB aK Tryz.func107 rfl rfl fun X0 hX=>?_;simp only [Tryz.f107,go_sem]
 repeat' (first|exact ⟨⟩|refine sp ?_|refine uF (zDN _ _) ?_|refine uF (uK) ?_|with_reducible refine bF (fun _=>?_) (fun _=>?_))
 all_goals ((simp_all [mI];done))
theorem uB {k m k' m':Int} {t t':Nat} {d d':List UInt8}:aA Tryz.prog 63 [.agg (ndc k m t d),.agg (ndc k' m' t' d')] [] fun r h=>r=.c (.p (.b (gE ⟨k,m,t,d⟩ ⟨k',m',t',d'⟩)))∧h=[]:=by
 refine ent aB aK Tryz.func63 rfl rfl fun X0 hX=>?_;simp only [Tryz.f63,go_sem]
 repeat' (first|exact ⟨⟩|refine sp ?_|refine uF (zAf _ _) ?_|with_reducible refine bF (fun _=>?_) (fun _=>?_))
 all_goals ((simp_all [gE];done))
theorem xC {k m:Int} {t:Nat} {d:List UInt8} (hd:d.length≤140737488355328):aA Tryz.prog 143 [.agg (ndc k m t d)] [] fun r h=>r=.agg (ndc k m t d)∧h=[]:=by
 refine ent aB aK Tryz.func143 rfl rfl fun X0 hX=>?_;simp only [Tryz.f143,go_sem]
 repeat' (first|exact ⟨⟩|refine sp ?_|refine uN (wY hd) ?_)
 all_goals (first|(with_reducible rfl)|(simp_all [];done)|(simp_all [];omega)|(simp_all [];(repeat' split) <;> omega))
end Go.Proofs.YtlbfnbldeefgmaaGreatDoor
end
section
namespace Go.Proofs.YtlbfnbldeefgmaaGreatDoor
open Go Go.Dm
set_option maxRecDepth 100000
set_option maxHeartbeats 4000000
theorem zFq {p q:List UInt8} (hp:p.length≤4611686018427387904) (hq:q.length≤9223372036854775807):aA Tryz.prog 138 [.c (.p (.s p)),.c (.p (.s q))] [] fun r h=>r=.c (.p (.b (aP p q)))∧h=[]:=by
 have w1:IntKind.i64.wrap ((p.length:Int)+1)=p.length+1:=wrap_i64 (by omega) (by omega);refine ent aB aK Tryz.func138 rfl rfl fun X0 hX=>?_;simp only [Tryz.f138,go_sem]
 repeat' (first|exact ⟨⟩|refine sp ?_|with_reducible refine aO (fun _=>?_) (fun _=>?_)|with_reducible refine bF (fun _=>?_) (fun _=>?_)|((with_reducible refine And.intro ?_ ?_);((first|omega|(simp only [decide_eq_true_eq] at *;omega)))))
 all_goals (simp_all [aP];try (intro _;omega))
theorem RV {t:List It} {p:List UInt8} (ht:t.length≤1000000) (hp:p.length≤4611686018427387904) (hq:∀ x∈t,x.p.length≤9223372036854775807):
  aA Tryz.prog 150 [.c (.p (.sl 5 (aU t))),.c (.p (.s p))] [] fun r h=>r=.c (.p (.sl 5 (aU (bE t p))))∧h=[]:=by
 refine ent aB aK Tryz.func150 rfl rfl fun X0 hX=>?_;simp only [Tryz.f150,go_sem]
 repeat' (first|exact ⟨⟩|refine sp ?_)
 refine mB aB aK 5 5 rfl ?_;refine aY aB aK (α:=Nat × List It) (fun x=>⟨29,[(0,.c (.p (.sl 5 (aU t)))),(1,.c (.p (.s p))),(5,.c (.own 0 0 x.2.length)),(6,.c (.p (.i .i64 x.1)))],[.arr 5 (aU x.2) false]⟩)
  (fun x=>x.1≤t.length∧x.2.length≤x.1∧x.2++bE (t.drop x.1) p=bE t p) (fun x=>t.length-x.1) (0,[]) ?_ ?_ ?_
 ·exact ⟨Nat.zero_le _,Nat.le_refl _,by simp⟩
 ·refine .inl (aI (by rw [hX];rfl) rfl rfl ?_);simp [aH,aL,aD,aJ,aF]
 ·rintro ⟨k,out⟩ ⟨hk,hol,hout⟩;simp only at hk hol hout;by_cases hlt:k<t.length
  ·have hx:t[k]? = some t[k]:=List.getElem?_eq_getElem hlt;have hg:=cQ hx;have hd:=drop_at hx;have h1:decide ((k:Int)<(t.length:Int))=true:=decide_eq_true (by omega);have w1:IntKind.i64.wrap ((k:Int)+1)=k+1:=wrap_i64 (by omega) (by omega);generalize t[k]=x at hx hg hd;have hxp:=hq x (List.mem_of_getElem? hx)
   repeat' (first|exact ⟨⟩|refine sp ?_|refine uF (zFq hp hxp) ?_|with_reducible refine aO (fun _=>?_) (fun _=>?_)|((with_reducible refine And.intro ?_ ?_);((first|omega|decide))))
   ·refine gV (k+1,out++[x]) 0 2 ⟨by omega,by simp;omega,?_⟩ (by simp;omega) rfl rfl (aI rfl rfl rfl ?_)
    ·rw [← hout,hd];have hb:aP p x.p=false:=by simpa using ‹(!aP p x.p)=true›
     simp [bE,hb]
    ·simp [aH,aL,aD,aJ,aF,vB,tY,vA]
   ·refine fD (k+1,out) ⟨by omega,by simp;omega,?_⟩ (by simp;omega) (aI rfl rfl rfl ?_)
    ·rw [← hout,hd];have hb:aP p x.p=true:=by simpa using ‹(!aP p x.p)=false›
     simp [bE,hb]
    ·simp [aH,aL,aD,aJ,aF]
  ·have h1:decide ((k:Int)<(t.length:Int))=false:=decide_eq_false (by omega)
   repeat' (first|exact ⟨⟩|refine sp ?_)
   have:k=t.length:=by omega
   subst this;rw [List.drop_length] at hout;rw [← hout];simp [bE]
theorem zFA {p:List UInt8} (hp:p.length≤4611686018427387904):aA Tryz.prog 162 [.c (.p (.s p))] [] fun r h=>r=.c (.p (.s (aR p)))∧h=[]:=by
 have w0:IntKind.i64.wrap ((p.length:Int)-1)=p.length-1:=wrap_i64 (by omega) (by omega);refine ent aB aK Tryz.func162 rfl rfl fun X0 hX=>?_;simp only [Tryz.f162,go_sem]
 repeat' (first|exact ⟨⟩|refine sp ?_)
 refine aY aB aK (α:=Nat) (fun j=>⟨18,[(0,.c (.p (.s p))),(3,.c (.p (.i .i64 ((j:Int)-1))))],[]⟩) (fun j=>j≤p.length∧dB p j=dB p p.length) (fun j=>j) p.length ⟨Nat.le_refl _,rfl⟩ (.inl (aI (by rw [hX];rfl) rfl rfl (by simp [aH,aL,aD,aJ,aF,]))) ?_;rintro (_|j) ⟨hj,hl⟩
 ·repeat' (first|exact ⟨⟩|refine sp ?_)
  simp only [aR,← hl,dB]
 ·have e1:((j+1:Nat):Int)-1=j:=by omega
  have w1:IntKind.i64.wrap ((j:Int)-1)=j-1:=wrap_i64 (by omega) (by omega);have d1:decide ((0:Int)≤j)=true:=decide_eq_true (by omega);simp only [dB] at hl
  repeat' (first|exact ⟨⟩|refine sp ?_|with_reducible refine aO (fun _=>?_) (fun _=>?_)|((with_reducible refine And.intro ?_ ?_);omega))
  ·rename_i hb;rw [if_pos hb] at hl;simp only [aR,← hl]
  ·rename_i hb;rw [if_neg (by rw [hb];decide)] at hl;exact fD j ⟨by omega,hl⟩ (by omega) (aI rfl rfl rfl (by simp [aH,aL,aD,aJ,aF,]))
theorem MQ {s:List UInt8} (hs:s.length≤4611686018427387904):aA Tryz.prog 80 [.c (.p (.s s))] [] fun r h=>r=.c (.p (.b (aW s)))∧h=[]:=by
 refine ent aB aK Tryz.func80 rfl rfl fun X0 hX=>?_;simp only [Tryz.f80,go_sem]
 repeat' (first|exact ⟨⟩|refine sp ?_)
 refine aY aB aK (α:=Nat) (fun k=>⟨36,[(0,.c (.p (.s s))),(3,.c (.p (.i .i64 k)))],[]⟩) (fun k=>k≤s.length∧(s.drop k).all nQ=s.all nQ) (fun k=>s.length-k) 0 ⟨Nat.zero_le _,rfl⟩ (.inl (aI (by rw [hX];rfl) rfl rfl (by simp [aH,aL,aD,aJ,aF,]))) ?_;rintro k ⟨hk,hl⟩;by_cases hlt:k<s.length
 ·have hx:s[k]? = some s[k]:=List.getElem?_eq_getElem hlt;have hg:=QT hx;have hd:=drop_at hx;have h1:decide ((k:Int)<(s.length:Int))=true:=decide_eq_true (by omega);have w1:IntKind.i64.wrap ((k:Int)+1)=k+1:=wrap_i64 (by omega) (by omega);generalize s[k]=x at hx hg hd;rw [hd,List.all_cons] at hl
  repeat' (first|exact ⟨⟩|refine sp ?_|with_reducible refine aO (fun _=>?_) (fun _=>?_)|with_reducible refine bF (fun _=>?_) (fun _=>?_)|((with_reducible refine And.intro ?_ ?_);omega))
  ·have:nQ x=false:=by simp_all [nQ]
   simp only [aW,← hl,this,Bool.false_and]
  ·have:nQ x=false:=by simp_all [nQ]
   simp only [aW,← hl,this,Bool.false_and]
  ·have:nQ x=true:=by simp_all [nQ]
   rw [this,Bool.true_and] at hl;exact fD (k+1) ⟨by omega,hl⟩ (by omega) (aI rfl rfl rfl (by simp [aH,aL,aD,aJ,aF,]))
 ·have h1:decide ((k:Int)<(s.length:Int))=false:=decide_eq_false (by omega);rw [List.drop_of_length_le (by omega),List.all_nil] at hl;unfold aW;rw [← hl];clear hl
  repeat' (first|exact ⟨⟩|refine sp ?_|with_reducible refine bF (fun _=>?_) (fun _=>?_))
  all_goals simp only [*,Bool.true_and,Bool.and_true,Bool.and_false,Bool.false_and,Bool.not_false,Bool.not_true]
theorem zK3 {s:List UInt8} (hs:s.length≤1000000000):aA Tryz.prog 224 [.c (.p (.s s))] [] fun r h=>r=.c (.p (.sl 1 (encS (oK s))))∧h=[]:=by
 refine ent aB aK Tryz.func224 rfl rfl fun X0 hX=>?_;simp only [Tryz.f224,go_sem]
 repeat' (first|exact ⟨⟩|refine sp ?_)
 refine mB aB aK 3 1 rfl ?_;refine aY aB aK (α:=Nat × List (List UInt8) × List UInt8) (fun x=>⟨31,[(0,.c (.p (.s s))),(3,.c (.own 0 0 x.2.1.length)),(4,.c (.p (.s x.2.2))),(5,.c (.p (.i .i64 x.1)))],[.arr 1 (encS x.2.1) false]⟩)
  (fun x=>x.1≤s.length∧x.2.1.length≤x.1∧x.2.2.length≤x.1∧x.2.1++vU x.2.2 (s.drop x.1)=oK s) (fun x=>s.length-x.1) (0,[],[]) ⟨Nat.zero_le _,Nat.le_refl _,Nat.le_refl _,by simp [oK]⟩ (.inl (aI (by rw [hX];rfl) rfl rfl (by simp [aH,aL,aD,aJ,aF,lL]))) ?_
 rintro ⟨k,out,w⟩ ⟨hk,hol,hwl,hl⟩;simp only at hk hol hwl hl;by_cases hlt:k<s.length
 ·have hx:s[k]? = some s[k]:=List.getElem?_eq_getElem hlt;have hg:=QT hx;have hd:=drop_at hx;have h1:decide ((k:Int)<(s.length:Int))=true:=decide_eq_true (by omega);have w1:IntKind.i64.wrap ((k:Int)+1)=k+1:=wrap_i64 (by omega) (by omega);have ho:=zLS hx;generalize s[k]=x at hx hg hd ho;rw [hd] at hl;simp only [vU] at hl
  repeat' (first|exact ⟨⟩|refine sp ?_|with_reducible refine aO (fun _=>?_) (fun _=>?_)|((with_reducible refine And.intro ?_ ?_);((first|omega|decide))))
  ·rename_i hb;rw [if_pos hb] at hl;exact gV (k+1,out++[w],[]) 0 2 ⟨by omega,by simp;omega,by simp,by simpa using hl⟩ (by simp;omega) rfl rfl (aI rfl rfl rfl (by simp [aH,aL,aD,aJ,aF,vB,tY,vA,]))
  ·rename_i hb;rw [if_neg (by rw [hb];decide)] at hl;exact fD (k+1,out,w++[x]) ⟨by omega,by simp;omega,by simp;omega,hl⟩ (by simp;omega) (aI rfl rfl rfl (by simp [aH,aL,aD,aJ,aF,]))
 ·have h1:decide ((k:Int)<(s.length:Int))=false:=decide_eq_false (by omega);rw [List.drop_of_length_le (by omega)] at hl;simp only [vU] at hl;have hl2:(oK s).length=out.length+1:=by rw [← hl];simp
  repeat' (first|exact ⟨⟩|refine sp ?_|((with_reducible refine And.intro ?_ ?_);((first|omega|decide))))
  all_goals rw [List.take_of_length_le (by omega)]
theorem zC8 {p:List UInt8} (hp:p.length≤1000000000):aA Tryz.prog 160 [.c (.p (.s p))] [] fun r h=>r=.c (.p (.b (bT p)))∧h=[]:=by
 have hcl:(oK p).length≤p.length+1:=oJ p [];refine ent aB aK Tryz.func160 rfl rfl fun X0 hX=>?_;simp only [Tryz.f160,go_sem]
 repeat' (first|exact ⟨⟩|refine sp ?_|refine uN (zK3 hp) ?_|with_reducible refine aO (fun _=>?_) (fun _=>?_))
 ·rename_i h0;simp only [bT,h0,Bool.true_or]
 rename_i h0;refine aY aB aK (α:=Nat) (fun k=>⟨24,[(0,.c (.p (.s p))),(3,.c (.p (.sl 1 (encS (oK p))))),(4,.c (.p (.i .i64 k)))],[]⟩)
  (fun k=>k≤(oK p).length∧((oK p).drop k).all aW=(oK p).all aW) (fun k=>(oK p).length-k) 0 ⟨Nat.zero_le _,rfl⟩ (.inl (aI (by rw [hX];rfl) rfl rfl (by simp [aH,aL,aD,aJ,aF,]))) ?_
 rintro k ⟨hk,hl⟩;by_cases hlt:k<(oK p).length
 ·have hx:(oK p)[k]? = some (oK p)[k]:=List.getElem?_eq_getElem hlt;have hg:=encS_at hx;have hd:=drop_at hx;have h1:decide ((k:Int)<((oK p).length:Int))=true:=decide_eq_true (by omega);have w1:IntKind.i64.wrap ((k:Int)+1)=k+1:=wrap_i64 (by omega) (by omega);generalize (oK p)[k]=x at hx hg hd;have hxl:x.length≤p.length:=by have:=qU p [] x (List.mem_of_getElem? hx);simpa using this
  rw [hd,List.all_cons] at hl
  repeat' (first|exact ⟨⟩|refine sp ?_|refine uF (MQ (s:=x) (by omega)) ?_|with_reducible refine aO (fun _=>?_) (fun _=>?_)|((with_reducible refine And.intro ?_ ?_);omega))
  ·rename_i hb;have hb:aW x=false:=by simpa using hb
   simp only [bT,h0,← hl,hb,Bool.false_and,Bool.false_or]
  ·rename_i hb;have hb:aW x=true:=by simpa using hb
   rw [hb,Bool.true_and] at hl;exact fD (k+1) ⟨by omega,hl⟩ (by omega) (aI rfl rfl rfl (by simp [aH,aL,aD,aJ,aF,]))
 ·have h1:decide ((k:Int)<((oK p).length:Int))=false:=decide_eq_false (by omega);rw [List.drop_of_length_le (by omega),List.all_nil] at hl;unfold bT
  repeat' (first|exact ⟨⟩|refine sp ?_)
  all_goals rw [← hl,Bool.true_and]
theorem xZ {t:List It} {p:List UInt8} (ht:t.length≤1000000):
  aA Tryz.prog 84 [.c (.p (.sl 5 (aU t))),.c (.p (.s p))] [] fun r h=>r=.tup [.agg ((aQ t p).getD nd0).cv,.c (.p (.b (aQ t p).isSome))]∧h=[]:=by
 refine bK ?_;refine ent aB aK Tryz.func84 rfl rfl fun X0 hX=>?_;simp only [Tryz.f84,go_sem]
 repeat' (first|exact ⟨⟩|refine sp ?_)
 refine aY aB aK (α:=Nat) (fun k=>⟨26,[(0,.c (.p (.sl 5 (aU t)))),(1,.c (.p (.s p))),(4,.c (.ptr 0 0)),(6,.c (.p (.i .i64 k)))],[.box [.p (.i .i64 0),.p (.i .i64 0),.p (.f 0),.p .nil]]⟩)
  (fun k=>k≤t.length∧aQ (t.drop k) p=aQ t p) (fun k=>t.length-k) 0 ⟨Nat.zero_le _,rfl⟩ (.inl (aI (by rw [hX];rfl) rfl rfl (by simp [aH,aL,aD,aJ,aF,]))) ?_
 rintro k ⟨hk,hl⟩;by_cases hlt:k<t.length
 ·have hx:t[k]? = some t[k]:=List.getElem?_eq_getElem hlt;have hg:=cQ hx;have hd:=drop_at hx;have h1:decide ((k:Int)<(t.length:Int))=true:=decide_eq_true (by omega);have w1:IntKind.i64.wrap ((k:Int)+1)=k+1:=wrap_i64 (by omega) (by omega);generalize t[k]=x at hx hg hd;rw [hd] at hl;simp only [aQ] at hl
  repeat' (first|exact ⟨⟩|refine sp ?_|with_reducible refine aO (fun _=>?_) (fun _=>?_)|((with_reducible refine And.intro ?_ ?_);omega))
  ·rename_i hb;rw [if_pos hb] at hl;rw [← hl];simp only [Option.getD_some,Option.isSome_some];simp
  ·rename_i hb;rw [if_neg (by rw [hb];decide)] at hl;exact fD (k+1) ⟨by omega,hl⟩ (by omega) (aI rfl rfl rfl (by simp [aH,aL,aD,aJ,aF,]))
 ·have h1:decide ((k:Int)<(t.length:Int))=false:=decide_eq_false (by omega);rw [List.drop_of_length_le (by omega)] at hl;simp only [aQ] at hl
  repeat' (first|exact ⟨⟩|refine sp ?_)
  all_goals rw [← hl]
  all_goals simp [nd0,lJ]
theorem rI {t:List It} {p:List UInt8} (ht:t.length≤1000000):
  aA Tryz.prog 87 [.c (.p (.sl 5 (aU t))),.c (.p (.s p))] [] fun r h=>r=.c (.p (.b (aV t p)))∧h=[]:=by
 have hd:aV t p=(p == [] || ((aQ t p).isSome && ((aQ t p).getD nd0).k == 2)):=by
  unfold aV;cases aQ t p <;> rfl
 rw [hd];refine ent aB aK Tryz.func87 rfl rfl fun X0 hX=>?_;simp only [Tryz.f87,go_sem]
 repeat' (first|exact ⟨⟩|refine sp ?_|refine uN (xZ ht) ?_|with_reducible refine bF (fun _=>?_) (fun _=>?_))
 all_goals simp only [*,Bool.true_and,Bool.and_true,Bool.and_false,Bool.false_and,Bool.false_or,Bool.true_or]
theorem zEJ {d:List UInt8} (hd:d.length≤1000000000):aA Tryz.prog 226 [.c (.p (.sl 1 (bO d)))] [] fun r h=>r=.c (.p (.b (jK d)))∧h=[]:=by
 refine ent aB aK Tryz.func226 rfl rfl fun X0 hX=>?_;simp only [Tryz.f226,go_sem]
 repeat' (first|exact ⟨⟩|refine sp ?_)
 refine aY aB aK (α:=Nat) (fun k=>⟨23,[(0,.c (.p (.sl 1 (bO d)))),(3,.c (.p (.i .i64 k)))],[]⟩) (fun k=>k≤d.length∧(d.drop k).all (fun b=>!((b.toNat:Int) == 0))=d.all (fun b=>!((b.toNat:Int) == 0))) (fun k=>d.length-k) 0 ⟨Nat.zero_le _,rfl⟩ (.inl (aI (by rw [hX];rfl) rfl rfl (by simp [aH,aL,aD,aJ,aF,]))) ?_;rintro k ⟨hk,hl⟩;by_cases hlt:k<d.length
 ·have hx:d[k]? = some d[k]:=List.getElem?_eq_getElem hlt;have hg:=zJh hx;have hd:=drop_at hx;have h1:decide ((k:Int)<(d.length:Int))=true:=decide_eq_true (by omega);have w1:IntKind.i64.wrap ((k:Int)+1)=k+1:=wrap_i64 (by omega) (by omega);generalize d[k]=x at hx hg hd;rw [hd,List.all_cons] at hl
  repeat' (first|exact ⟨⟩|refine sp ?_|with_reducible refine aO (fun _=>?_) (fun _=>?_)|((with_reducible refine And.intro ?_ ?_);omega))
  ·rename_i hb;rw [hb,Bool.not_true,Bool.false_and] at hl;simp only [jK,← hl,Bool.false_and]
  ·rename_i hb;rw [hb,Bool.not_false,Bool.true_and] at hl;exact fD (k+1) ⟨by omega,hl⟩ (by omega) (aI rfl rfl rfl (by simp [aH,aL,aD,aJ,aF,]))
 ·have h1:decide ((k:Int)<(d.length:Int))=false:=decide_eq_false (by omega);rw [List.drop_of_length_le (by omega),List.all_nil] at hl;unfold jK;rw [← hl];clear hl
  repeat' (first|exact ⟨⟩|refine sp ?_|with_reducible refine bF (fun _=>?_) (fun _=>?_))
  all_goals simp only [*,Bool.true_and,Bool.and_true,Bool.and_false,Bool.false_and,Bool.not_false,Bool.not_true]
theorem zIy {t:List It} {p:List UInt8} {k m:Int} {tt:Nat} {d:List UInt8} (ht:t.length≤1000000):
  aA Tryz.prog 151 [.c (.p (.sl 5 (aU t))),.c (.p (.s p)),.agg (ndc k m tt d)] [] fun r h=>r=.c (.p (.sl 5 (aU (sP t p ⟨k,m,tt,d⟩))))∧h=[]:=by
 refine ent aB aK Tryz.func151 rfl rfl fun X0 hX=>?_;simp only [Tryz.f151,go_sem]
 repeat' (first|exact ⟨⟩|refine sp ?_)
 refine mB aB aK 7 5 rfl ?_;refine aY aB aK (α:=Nat × List It × Bool) (fun x=>⟨56,[(0,.c (.p (.sl 5 (aU t)))),(1,.c (.p (.s p))),(5,.c (.ptr 0 0)),(7,.c (.own 1 0 x.2.1.length)),(8,.c (.p (.b x.2.2))),(9,.c (.p (.i .i64 x.1)))],[.box (ndc k m tt d),.arr 5 (aU x.2.1) false]⟩)
  (fun x=>x.1≤t.length∧x.2.1.length≤2*x.1∧x.2.1++vD p ⟨k,m,tt,d⟩ x.2.2 (t.drop x.1)=sP t p ⟨k,m,tt,d⟩) (fun x=>t.length-x.1) (0,[],false) ⟨Nat.zero_le _,Nat.le_refl _,by simp [sP]⟩ (.inl (aI (by rw [hX];rfl) rfl rfl (by simp [aH,aL,aD,aJ,aF,gA,]))) ?_
 rintro ⟨j,out,done⟩ ⟨hk,hol,hout⟩;simp only at hk hol hout;by_cases hlt:j<t.length
 ·have hx:t[j]? = some t[j]:=List.getElem?_eq_getElem hlt;have hg:=cQ hx;have hd:=drop_at hx;have h1:decide ((j:Int)<(t.length:Int))=true:=decide_eq_true (by omega);have w1:IntKind.i64.wrap ((j:Int)+1)=j+1:=wrap_i64 (by omega) (by omega);generalize t[j]=x at hx hg hd;rw [hd,vD] at hout;cases done
  ·repeat' (first|exact ⟨⟩|refine sp ?_|with_reducible refine aO (fun _=>?_) (fun _=>?_)|((with_reducible refine And.intro ?_ ?_);((first|omega|decide))))
   ·rename_i ha hb;simp only [ha,hb,Bool.not_false,Bool.true_and,if_true,Bool.false_or] at hout;exact gV (j+1,out++[⟨p,⟨k,m,tt,d⟩⟩]++[x],true) 1 5 ⟨by omega,by simp;omega,by simpa using hout⟩ (by simp;omega) rfl rfl (aI rfl rfl rfl (by simp [aH,aL,aD,aJ,aF,vB,tY,vA,]))
   ·rename_i ha hb;simp only [ha,hb,Bool.not_false,Bool.true_and,if_true,Bool.false_or,Bool.false_eq_true,if_false] at hout;exact gV (j+1,out++[⟨p,⟨k,m,tt,d⟩⟩],true) 1 3 ⟨by omega,by simp;omega,by simpa using hout⟩ (by simp;omega) rfl rfl (aI rfl rfl rfl (by simp [aH,aL,aD,aJ,aF,vB,tY,vA,]))
   ·rename_i ha hb;simp only [ha,hb,Bool.not_false,Bool.true_and,if_true,Bool.false_or,Bool.false_eq_true,if_false] at hout;exact gV (j+1,out++[x],false) 1 3 ⟨by omega,by simp;omega,by simpa using hout⟩ (by simp;omega) rfl rfl (aI rfl rfl rfl (by simp [aH,aL,aD,aJ,aF,vB,tY,vA,]))
   ·rename_i ha hb;simp only [ha,hb,Bool.not_false,Bool.true_and,Bool.false_or,Bool.false_eq_true,if_false] at hout;exact fD (j+1,out,false) ⟨by omega,by simp;omega,by simpa using hout⟩ (by simp;omega) (aI rfl rfl rfl (by simp [aH,aL,aD,aJ,aF,]))
  ·repeat' (first|exact ⟨⟩|refine sp ?_|with_reducible refine aO (fun _=>?_) (fun _=>?_)|((with_reducible refine And.intro ?_ ?_);((first|omega|decide))))
   ·rename_i hb;simp only [hb,Bool.not_true,Bool.false_and,if_true,Bool.true_or,Bool.false_eq_true,if_false] at hout;exact gV (j+1,out++[x],true) 1 3 ⟨by omega,by simp;omega,by simpa using hout⟩ (by simp;omega) rfl rfl (aI rfl rfl rfl (by simp [aH,aL,aD,aJ,aF,vB,tY,vA,]))
   ·rename_i hb;simp only [hb,Bool.not_true,Bool.false_and,Bool.true_or,Bool.false_eq_true,if_false] at hout;exact fD (j+1,out,true) ⟨by omega,by simp;omega,by simpa using hout⟩ (by simp;omega) (aI rfl rfl rfl (by simp [aH,aL,aD,aJ,aF,]))
 ·have h1:decide ((j:Int)<(t.length:Int))=false:=decide_eq_false (by omega);rw [List.drop_of_length_le (by omega)] at hout;cases done
  ·simp only [vD,Bool.false_eq_true,if_false] at hout
   repeat' (first|exact ⟨⟩|refine sp ?_|((with_reducible refine And.intro ?_ ?_);((first|omega|decide))))
   all_goals rw [List.take_of_length_le (by rw [← hout];simp)]
  ·simp only [vD,if_true,List.append_nil] at hout
   repeat' (first|exact ⟨⟩|refine sp ?_)
   all_goals rw [hout]
end Go.Proofs.YtlbfnbldeefgmaaGreatDoor
end
