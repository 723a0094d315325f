/- Part 24 of the proof of roomAsks_card, set without needless blanks. No condition. -/
import Derived.Shelf.Spec.SlicesGrow
import Derived.Ground.Names8Prog
import Derived.Shelf.SlGeneric
import Derived.Test.YtlbfnbldeefgmaaGreatDoorA22
import Derived.Test.YtlbfnbldeefgmaaGreatDoorA16
set_option linter.all false
section
namespace Go.Proofs.YtlbfnbldeefgmaaGreatDoor
open Go Go.Dm
set_option maxRecDepth 100000
set_option maxHeartbeats 4000000
theorem zHd {x:Nat}:aA Tryz.prog 225 [.c (.p (.f x))] [] fun r h=>r=.c (.p (.b (zA x)))∧h=[]:=by
 refine ent aB aK Tryz.func225 rfl rfl fun X0 hX=>?_;simp only [Tryz.f225,go_sem]
 repeat' (first|simp (maxSteps:=1000000) only [*,go_sem,Nat.reduceLT,Nat.reduceLeDiff,Nat.reduceEqDiff,↓reduceIte,Nat.reduceAdd,Int.reduceLE,Int.reduceSub,Int.reduceMul,Int.reduceNeg,Int.reduceToNat,Nat.reduceBEq,PD,PE,TL,Nat.min_def,decide_true,decide_false,zB0,VH]|((refine aN (id:=5) aB aK [] [0,1,2,3,4,5,6,7,8,9,10,11] (by decide +kernel) ?_);(repeat' (first|(refine aT ?_)|((refine bV ?_ rfl rfl ?_ ?_);(rotate_left 1);(focus ((repeat' (simp (maxSteps:=1000000) only [*,go_sem,Nat.reduceLT,Nat.reduceEqDiff,↓reduceIte,]));exact rfl));(simp only [aG])))))|((with_reducible refine zNF aB aK Tryz.func275 rfl rfl fun _ _=>?_);simp only [Tryz.f275,go_sem])|((with_reducible refine zNF aB aK Tryz.func324 rfl rfl fun _ _=>?_);simp only [Tryz.f324,go_sem])|((with_reducible refine dM (wR _) ?_ ?_ ?_);exact rfl;exact rfl)|((with_reducible refine dM (zAZ _) ?_ ?_ ?_);exact rfl;exact rfl)|refine fL aB aK 9 ?_|((with_reducible refine And.intro ?_ ?_);decide))
 all_goals rfl
theorem MR {k m:Int} {t:Nat} {d:List UInt8} (hd:d.length≤1000000000):aA Tryz.prog 161 [.agg (ndc k m t d)] [] fun r h=>r=.c (.p (.b (aS ⟨k,m,t,d⟩)))∧h=[]:=by
 refine ent aB aK Tryz.func161 rfl rfl fun X0 hX=>?_;simp only [Tryz.f161,go_sem]
 repeat' (first|simp (maxSteps:=1000000) only [*,go_sem,Nat.reduceLT,Nat.reduceEqDiff,↓reduceIte,]|((with_reducible refine dM (zHd) ?_ ?_ ?_);exact rfl;exact rfl)|((with_reducible refine kM (zEJ hd) ?_ ?_ ?_);exact rfl;exact fun _=>rfl)|with_reducible refine aO (fun _=>?_) (fun _=>?_)|with_reducible refine bF (fun _=>?_) (fun _=>?_))
 all_goals simp only [aS, *,Bool.not_true,Bool.not_false,Bool.or_false,Bool.or_true,Bool.true_or,Bool.true_and,Bool.false_and,↓reduceIte,Bool.false_eq_true]
theorem zD4 {t:List It} {p:List UInt8} {k m:Int} {tt:Nat} {d:List UInt8} (ht:t.length≤1000000-1) (hp:p.length≤1000000000) (hq:∀ x∈t,x.p.length≤9223372036854775807) (hd:d.length≤1000000000):
  aA Tryz.prog 88 [.c (.p (.sl 5 (aU t))),.c (.p (.s p)),.agg (ndc k m tt d)] [] fun r h =>
   r=.tup [.c (.p (.sl 5 (aU (lV t p ⟨k,m,tt,d⟩).1))),.c (.p (.i .i64 (lV t p ⟨k,m,tt,d⟩).2))]∧h=[]:=by
 have h1:=rQ t p;have h2:=oW t p ⟨k,m,tt,d⟩;have h3:=oW (bE t p) p ⟨k,m,tt,d⟩;have hp2:p.length≤4611686018427387904:=by omega
 refine bK ?_;refine ent aB aK Tryz.func88 rfl rfl fun X0 hX=>?_;simp only [Tryz.f88,go_sem]
 repeat' (first|simp (maxSteps:=1000000) only [*,go_sem,Nat.reduceLT,Nat.reduceLeDiff,Nat.reduceEqDiff,↓reduceIte,Nat.reduceAdd,]|((with_reducible refine dM (zC8 hp) ?_ ?_ ?_);exact rfl;exact rfl)|((with_reducible refine dM (MR hd) ?_ ?_ ?_);exact rfl;exact rfl)|((with_reducible refine dM (zFA hp2) ?_ ?_ ?_);exact rfl;exact rfl)|((with_reducible refine dM (rI (t:=t) (by omega)) ?_ ?_ ?_);exact rfl;exact rfl)|((with_reducible refine kM (RV (t:=t) (by omega) hp2 hq) ?_ ?_ ?_);exact rfl;exact fun _=>rfl)|((with_reducible refine kM (zIy (t:=t) (by omega)) ?_ ?_ ?_);exact rfl;exact fun _=>rfl)|((with_reducible refine kM (zIy (t:=bE t p) (by omega)) ?_ ?_ ?_);exact rfl;exact fun _=>rfl)|with_reducible refine aO (fun _=>?_) (fun _=>?_)|with_reducible refine bF (fun _=>?_) (fun _=>?_))
 all_goals simp only [lV, *,Bool.or_false,Bool.or_true,Bool.true_or,↓reduceIte,Bool.false_eq_true,gA]
 all_goals simp
end Go.Proofs.YtlbfnbldeefgmaaGreatDoor
end
section
namespace Go.Proofs.YtlbfnbldeefgmaaGreatDoor
open Go Go.Dm
set_option maxRecDepth 100000
set_option maxHeartbeats 4000000
theorem mE {n m:Int} (hm:0<m) (hm2:m≤9223372036854775807):aA Tryz.prog 22 [.c (.p (.i .i64 n)),.c (.p (.i .i64 m))] [] fun r h=>r=.c (.p (.i .i64 (n % m)))∧h=[]:=by
 refine ent aB aK Tryz.func22 rfl rfl fun X0 hX=>?_;simp only [Tryz.f22,go_sem];have h0:=Int.emod_nonneg n (show m≠0 by omega)
 have h1:=Int.emod_lt_of_pos n hm
 repeat' (first|exact ⟨⟩|refine sp ?_|with_reducible refine aO (fun _=>?_) (fun _=>?_)|((with_reducible refine And.intro ?_ ?_);omega))
 ·rename_i h;rw [tmod_neg hm (of_decide_eq_true h),wrap_i64 (by omega) (by omega)]
 ·rename_i h;rw [zHJ hm (of_decide_eq_false h)]
theorem zIK {b:List UInt8} {n:Int} (hn:0≤n) (hn2:n≤140737488355328) (hb:b.length≤9223372036854775807):aA Tryz.prog 49 [.c (.p (.sl 1 (bO b))),.c (.p (.i .i64 n))] [] fun r h=>r=.c (.p (.sl 1 (bO (b.take n.toNat))))∧h=[]:=by
 refine ent aB aK Tryz.func49 rfl rfl fun X0 hX=>?_;simp only [Tryz.f49,go_sem]
 repeat' (first|exact ⟨⟩|refine sp ?_|((with_reducible refine And.intro ?_ ?_);((first|omega|decide))))
 by_cases h:n<(b.length:Int)
 ·simp only [if_pos h,List.length_take];refine ⟨by omega,by omega,?_⟩
  first|trivial|rfl
 ·simp only [if_neg h,List.length_take];refine ⟨by omega,by omega,?_⟩
  rw [List.take_of_length_le (by omega),List.take_of_length_le (by omega)]
theorem wL {n:Int}:aA Tryz.prog 109 [.c (.p (.i .i64 n))] [] fun r h=>r=.c (.p (.s (tP n)))∧h=[]:=by
 refine ent aB aK Tryz.func109 rfl rfl fun X0 hX=>?_;simp only [Tryz.f109,go_sem]
 repeat' (first|exact ⟨⟩|refine sp ?_|refine uF (mE (by omega) (by omega)) ?_|((with_reducible refine And.intro ?_ ?_);omega))
 unfold tP;have h1:=Int.emod_nonneg n (show (6:Int)≠0 by decide)
 have h2:=Int.emod_lt_of_pos n (show (0:Int)<6 by decide)
 generalize n % 6=k at h1 h2;have:k=0∨k=1∨k=2∨k=3∨k=4∨k=5:=by omega
 rcases this with rfl|rfl|rfl|rfl|rfl|rfl <;> rfl
theorem zAY {n:Int}:aA Tryz.prog 86 [.c (.p (.i .i64 n))] [] fun r h=>r=.c (.p (.s (kK n)))∧h=[]:=by
 unfold kK;have h1:=Int.emod_nonneg n (show (1073741824:Int)≠0 by decide)
 have h2:=Int.emod_lt_of_pos n (show (0:Int)<1073741824 by decide)
 have e1:IntKind.i64.wrap ((n % 1073741824).tdiv 6)=n % 1073741824 / 6:=by rw [Int.tdiv_eq_ediv_of_nonneg h1];exact wrap_i64 (by omega) (by omega)
 have e2:(n % 1073741824 / 6).tmod 3=n % 1073741824 / 6 % 3:=Int.tmod_eq_emod_of_nonneg (by omega);have e3:IntKind.i64.wrap ((n % 1073741824).tdiv 7)=n % 1073741824 / 7:=by rw [Int.tdiv_eq_ediv_of_nonneg h1];exact wrap_i64 (by omega) (by omega)
 have e4:IntKind.i64.wrap ((n % 1073741824 / 7).tdiv 7)=n % 1073741824 / 7 / 7:=by rw [Int.tdiv_eq_ediv_of_nonneg (by omega)];exact wrap_i64 (by omega) (by omega)
 have l1:=gC (n % 1073741824);have l2:=gC (n % 1073741824 / 7);have l3:=gC (n % 1073741824 / 7 / 7);have hk:n % 1073741824 / 6 % 3=0∨n % 1073741824 / 6 % 3=1∨n % 1073741824 / 6 % 3=2:=by omega
 refine ent aB aK Tryz.func86 rfl rfl fun X0 hX=>?_;simp only [Tryz.f86,go_sem];rcases hk with hk|hk|hk
 ·repeat' (first|exact ⟨⟩|refine sp ?_|refine uF (mE (by omega) (by omega)) ?_|refine uF (wL) ?_)
  refine fL aB aK 1 ?_
  repeat' (first|exact ⟨⟩|refine sp ?_)
  simp only [MA]
 ·repeat' (first|exact ⟨⟩|refine sp ?_|refine uF (mE (by omega) (by omega)) ?_|refine uF (wL) ?_)
  refine fL aB aK 2 ?_
  repeat' (first|exact ⟨⟩|refine sp ?_|refine uF (wL) ?_|((with_reducible refine And.intro ?_ ?_);omega))
  all_goals simp [MA]
 ·repeat' (first|exact ⟨⟩|refine sp ?_|refine uF (mE (by omega) (by omega)) ?_|refine uF (wL) ?_)
  refine fL aB aK 3 ?_
  repeat' (first|exact ⟨⟩|refine sp ?_|refine uF (wL) ?_|((with_reducible refine And.intro ?_ ?_);omega))
  all_goals simp [MA]
theorem zH8 {n:Int} {x:Nat}:aA Tryz.prog 48 [.c (.p (.i .i64 n)),.c (.p (.f x))] [] fun r h=>r=.c (.p (.f (AA n x)))∧h=[]:=by
 refine ent aB aK Tryz.func48 rfl rfl fun X0 hX=>?_;simp only [Tryz.f48,go_sem]
 repeat' (first|exact ⟨⟩|refine sp ?_|refine uF (mE (by omega) (by omega)) ?_|refine uF (YF) ?_|refine uF (zMX _) ?_|refine uF (zMI) ?_|refine uF (iM _ (by omega)) ?_|with_reducible refine aO (fun _=>?_) (fun _=>?_)|((with_reducible refine And.intro ?_ ?_);((first|omega|(simp only [decide_eq_true_eq] at *;omega)))))
 ·rename_i h;have h:=of_decide_eq_true h
  try refine ⟨h,?_⟩
  unfold AA;have h1:=Int.emod_nonneg n (show (15:Int)≠0 by decide)
  generalize n % 15=k at h h1;have:k=0∨k=1∨k=2∨k=3∨k=4∨k=5∨k=6∨k=7∨k=8∨k=9∨k=10∨k=11:=by omega
  rcases this with rfl|rfl|rfl|rfl|rfl|rfl|rfl|rfl|rfl|rfl|rfl|rfl <;> rfl
 ·rename_i h;have h:=of_decide_eq_false h;unfold AA;rw [if_neg h]
theorem zDM {k m t:Int} {x:Nat} {d:List UInt8} (hd:d.length≤9223372036854775807):aA Tryz.prog 50 [.agg (rnc k m t x d)] [] fun r h=>r=.agg (GF ⟨k,m,t,x,d⟩).cv∧h=[]:=by
 have hp:=nU m;have e0:=Int.emod_nonneg k (show (3:Int)≠0 by decide)
 have e1:=Int.emod_lt_of_pos k (show (0:Int)<3 by decide)
 have e2:IntKind.i64.wrap (1+k % 3)=1+k % 3:=wrap_i64 (by omega) (by omega);refine bK ?_;refine ent aB aK Tryz.func50 rfl rfl fun X0 hX=>?_;simp only [Tryz.f50,go_sem]
 repeat' (first|exact ⟨⟩|refine sp ?_|refine uF (zAY) ?_|refine uN (zIK (by omega) (by omega) hd) ?_|((refine aN (id:=1) aB aK [14,15] [14,0,1,2,3,4,5,6,7,8,9,10,11,12,13,15] (by decide +kernel) ?_);(repeat' (first|(refine aT ?_)|((refine cV ?_ ?_ rfl rfl rfl ?_ ?_);(rotate_left 2);(focus ((repeat' (first|exact ⟨⟩|refine sp ?_));((refine And.intro ?_ ?_ <;> exact rfl))));(simp only [aG,bI]))|((refine cU ?_ rfl rfl rfl ?_ ?_);(rotate_left 1);(focus ((repeat' (first|exact bG|refine aZ ?_ ?_));(all_goals ((repeat' (first|exact ⟨⟩|refine sp ?_|refine uF (mE (by omega) (by omega)) ?_|refine uF (zH8) ?_|refine uF (PL _) ?_));(try (exact rfl))))));(simp only [aG])))))|with_reducible refine aO (fun _=>?_) (fun _=>?_)|((with_reducible refine And.intro ?_ ?_);((first|omega|decide))))
 all_goals (simp_all [GF,zDK,FU,lJ,];try omega)
end Go.Proofs.YtlbfnbldeefgmaaGreatDoor
end
section
namespace Go.Proofs.YtlbfnbldeefgmaaGreatDoor
open Go Go.Dm
set_option maxRecDepth 100000
set_option maxHeartbeats 4000000
theorem zD5 {t:List It} {p:List UInt8} {k m:Int} {tt:Nat} (ht:t.length≤1000000-1) (hp:p.length≤1000000000) (hq:∀ x∈t,x.p.length≤9223372036854775807):
  aA Tryz.prog 88 [.c (.p (.sl 5 (aU t))),.c (.p (.s p)),.agg [.p (.i .i64 k),.p (.i .i64 m),.p (.f tt),.p .nil]] [] fun r h =>
   r=.tup [.c (.p (.sl 5 (aU (lV t p ⟨k,m,tt,[]⟩).1))),.c (.p (.i .i64 (lV t p ⟨k,m,tt,[]⟩).2))]∧h=[] :=
 aA.wkargs (args':=[.c (.p (.sl 5 (aU t))),.c (.p (.s p)),.agg (ndc k m tt [])]) ⟨wkP.rfl,wkP.rfl,⟨wkP.rfl,wkP.rfl,wkP.rfl,TH,True.intro⟩,True.intro⟩ (zD4 ht hp hq (Nat.zero_le _))
end Go.Proofs.YtlbfnbldeefgmaaGreatDoor
end
section
namespace Go.Proofs.YtlbfnbldeefgmaaGreatDoor
open Go Go.Dm Go.Proofs
open Go Go.Dm
set_option maxRecDepth 100000
set_option maxHeartbeats 4000000
theorem jX {a b:List UInt8}:aA Tryz.prog 157 [.c (.p (.s a)),.c (.p (.s b))] [] fun r h=>r=.c (.p (.i .i64 (HL a b)))∧h=[]:=by
 rw [← mV];exact QH (enters Tryz.func157 rfl rfl) (fun a b w=>Tryz.strings_Compare a b w)
theorem zL3 {h:aC} {id:Nat} {ss:List (List UInt8)} (hid:h[id]? = some (.arr 1 (Go.Dm.encS ss) false)) (hsz:ss.length<4611686018427387904):
  aA Tryz.prog 228 [.c (.own id 0 ss.length)] h fun d h'=>d=.tup []∧h'=h.set id (.arr 1 (Go.Dm.encS (ss.mergeSort fun x y=>decide (x≤y))) false) :=
 QG (enters Tryz.func228 rfl rfl) (fun blk off cap ss w h1 h2 h3=>Tryz.slices_Sort_string blk off cap ss w h1 h2 h3) (fun p cap w=>Tryz.slices_Sort_string_none p cap w) hid hsz
theorem zCJ {q:List UInt8} {k m:Int} {tt:Nat} {d p:List UInt8}:aA Tryz.prog 290 [.agg [.p (.s q),.p (.i .i64 k),.p (.i .i64 m),.p (.f tt),.p (.sl 1 (bO d))],.c (.p (.s p))] [] fun r h=>r=.c (.p (.i .i64 (HL q p)))∧h=[]:=by
 refine ent aB aK Tryz.func290 rfl rfl fun X0 hX=>?_;simp only [Tryz.f290,go_sem]
 repeat' (first|exact ⟨⟩|refine sp ?_|refine uF (jX) ?_)
def EA (t:List It) (p:List UInt8) (i:Nat):Prop:=i≤t.length∧∀ k x,t[k]? = some x→(k<i→bL x.p p=true)∧(i≤k→bL x.p p=false)
def fN (t:List It) (p:List UInt8) (i:Nat):Bool:=match t[i]? with
 | some x=>x.p == p
 | none=>false
def lN (t:List It) (p:List UInt8) (i:Nat):DV:=.tup [.c (.p (.i .i64 i)),.c (.p (.b (fN t p i)))]
theorem KR {p:List UInt8}:∀ {t:List It},(∀ x∈t,(x.p == p)=false)→aQ t p=none
 | [],_=>rfl
 | x::r,h=>by
  rw [aQ,if_neg (by rw [h x List.mem_cons_self];decide)];exact KR fun y hy=>h y (List.mem_cons_of_mem _ hy)
theorem FE {p:List UInt8}:∀ {t:List It} {k:Nat} {x:It},Srt t→t[k]? = some x→(x.p == p)=true→aQ t p=some x.n
 | [],k,x,_,h,_=>by simp at h
 | y::r,0,x,_,h,hp=>by
  simp only [List.getElem?_cons_zero,Option.some.injEq] at h;subst h;rw [aQ,if_pos hp]
 | y::r,k+1,x,hs,h,hp=>by
  simp only [List.getElem?_cons_succ] at h;have hs:=List.pairwise_cons.1 hs;have:=hs.1 x (List.mem_of_getElem? h);rw [eq_of_beq hp] at this;rw [aQ,if_neg (by rw [jT this];decide)];exact FE hs.2 h hp
theorem QQ {t:List It} {p:List UInt8} {i:Nat} (hs:Srt t) (h:EA t p i) (hf:fN t p i=false):aQ t p=none:=by
 refine KR fun x hx=>?_;obtain ⟨k,hk⟩:=List.getElem?_of_mem hx;cases he:x.p == p
 ·rfl
 ·have h1:=h.2 k x hk;rcases Nat.lt_trichotomy k i with hki|rfl|hki
  ·have:=h1.1 hki;rw [eq_of_beq he,cM] at this;cases this
  ·unfold fN at hf;rw [hk] at hf;simp only at hf;rw [he] at hf;cases hf
  ·have hil:i<t.length:=Nat.lt_trans hki (List.getElem?_eq_some_iff.1 hk).1;have h2:=h.2 i t[i] (List.getElem?_eq_getElem hil);have h3:=List.pairwise_iff_getElem.1 hs i k hil (List.getElem?_eq_some_iff.1 hk).1 hki;rw [(List.getElem?_eq_some_iff.1 hk).2,eq_of_beq he,h2.2 (Nat.le_refl _)] at h3;cases h3
theorem zBk {t:List It} {p:List UInt8} (ht:t.length≤1000000) (hs:Srt t):
  aA Tryz.prog 289 [.c (.p (.sl 5 (aU t))),.c (.p (.s p)),.c (.clo 290 [])] [] fun r h =>
   ∃ i:Nat,EA t p i∧r=lN t p i∧h=[]:=by
 have hmon:∀ (k k':Nat) (x x':It),t[k]? = some x→t[k']? = some x'→k<k'→bL x.p x'.p=true:=fun k k' x x' h1 h2 h3=>by
  obtain ⟨h4,rfl⟩:=List.getElem?_eq_some_iff.1 h1;obtain ⟨h5,rfl⟩:=List.getElem?_eq_some_iff.1 h2;exact List.pairwise_iff_getElem.1 hs _ _ h4 h5 h3
 refine ent aB aK Tryz.func289 rfl rfl fun X0 hX=>?_;simp only [Tryz.f289,go_sem]
 repeat' (first|exact ⟨⟩|refine sp ?_)
 refine aY aB aK (α:=Nat × Nat) (fun x=>⟨49,[(0,.c (.p (.sl 5 (aU t)))),(1,.c (.p (.s p))),(2,.c (.clo 290 [])),(8,.c (.p (.i .i64 t.length))),(9,.c (.p (.i .i64 x.1))),(10,.c (.p (.i .i64 x.2)))],[]⟩)
  (fun x=>x.1≤x.2∧x.2≤t.length∧∀ k y,t[k]? = some y→(k<x.1→bL y.p p=true)∧(x.2≤k→bL y.p p=false)) (fun x=>x.2-x.1) (0,t.length) ⟨Nat.zero_le _,Nat.le_refl _,fun k y hy=>⟨fun h=>by omega,fun h=>by rw [List.getElem?_eq_none h] at hy;cases hy⟩⟩ (.inl (aI (by rw [hX];rfl) rfl rfl (by simp [aH,aL,aD,aJ,aF,]))) ?_
 rintro ⟨i,j⟩ ⟨hij,hj,hl⟩;simp only at hij hj hl;by_cases hlt:i<j
 ·have h1:decide ((i:Int)<(j:Int))=true:=decide_eq_true (by omega);have w1:IntKind.i64.wrap ((i:Int)+j)=(i:Int)+j:=wrap_i64 (by omega) (by omega);have w2:IntKind.u64.wrap ((i:Int)+j)=(i:Int)+j:=wrap_u64 (by omega) (by omega);obtain ⟨m,hm,hmi,hmj⟩:∃ m:Nat,((i:Int)+j).fdiv (2 ^ min 1 64)=(m:Int)∧i≤m∧m<j :=
   ⟨(i+j) / 2,by rw [show (2:Int) ^ min 1 64=2 from rfl,Int.fdiv_eq_ediv_of_nonneg _ (by decide)];omega,by omega,by omega⟩
  have w3:IntKind.i64.wrap (m:Int)=m:=wrap_i64 (by omega) (by omega);have w4:IntKind.i64.wrap ((m:Int)+1)=m+1:=wrap_i64 (by omega) (by omega);have hml:m<t.length:=by omega
  have hx:t[m]? = some t[m]:=List.getElem?_eq_getElem hml;have hg:=cQ hx;generalize t[m]=x at hx hg
  repeat' (first|exact ⟨⟩|refine sp ?_|refine uF (zCJ) ?_|with_reducible refine aO (fun _=>?_) (fun _=>?_)|((with_reducible refine And.intro ?_ ?_);omega))
  ·rename_i hb;have hb:bL x.p p=true:=by rw [← pF];exact hb
   exact fD (m+1,j) ⟨by simp only;omega,hj,fun k y hy=>⟨fun hk=>by
    rcases Nat.lt_or_ge k m with h|h
    ·exact cC (hmon _ _ _ _ hy hx h) hb
    ·have:k=m:=by simp only at hk;omega
     subst this;rw [hx] at hy;cases hy;exact hb,(hl k y hy).2⟩⟩ (by simp only;omega) (aI rfl rfl rfl (by simp [aH,aL,aD,aJ,aF,]))
  ·rename_i hb;have hb:bL x.p p=false:=by rw [← pF];exact hb
   exact fD (i,m) ⟨hmi,by simp only;omega,fun k y hy=>⟨(hl k y hy).1,fun hk=>by
    rcases Nat.lt_or_ge m k with h|h
    ·cases hc:bL y.p p
     ·rfl
     ·have:=cC (hmon _ _ _ _ hx hy h) hc;rw [hb] at this;cases this
    ·have:k=m:=by simp only at hk;omega
     subst this;rw [hx] at hy;cases hy;exact hb⟩⟩ (by simp only;omega) (aI rfl rfl rfl (by simp [aH,aL,aD,aJ,aF,]))
 ·have h1:decide ((i:Int)<(j:Int))=false:=decide_eq_false (by omega);have:i=j:=by omega
  subst this;by_cases hil:i<t.length
  ·have hx:t[i]? = some t[i]:=List.getElem?_eq_getElem hil;have hg:=cQ hx;have h2:decide ((i:Int)<(t.length:Int))=true:=decide_eq_true (by omega);generalize t[i]=x at hx hg
   repeat' (first|exact ⟨⟩|refine sp ?_|refine uF (zCJ) ?_|((with_reducible refine And.intro ?_ ?_);omega))
   refine ⟨i,⟨hj,hl⟩,?_⟩;simp only [lN,fN,hx,PY]
  ·have h2:decide ((i:Int)<(t.length:Int))=false:=decide_eq_false (by omega)
   repeat' (first|exact ⟨⟩|refine sp ?_)
   refine ⟨i,⟨hj,hl⟩,?_⟩;simp only [lN,fN,List.getElem?_eq_none (Nat.le_of_not_lt hil)]
theorem KL {t:List It} {p:List UInt8} (ht:t.length≤1000000) (hs:Srt t):
  aA Tryz.prog 237 [.c (.p (.sl 5 (aU t))),.c (.p (.s p))] [] fun r h=>∃ i:Nat,EA t p i∧r=lN t p i∧h=[]:=by
 refine ent aB aK Tryz.func237 rfl rfl fun X0 hX=>?_;simp only [Tryz.f237,go_sem]
 repeat' (first|exact ⟨⟩|refine sp ?_)
 refine zEQ (zBk ht hs) rfl (fun _ _=>rfl) fun i hi=>?_;unfold lN
 repeat' (first|exact ⟨⟩|refine sp ?_)
 exact ⟨i,hi,rfl⟩
theorem jL {t:List It} {p:List UInt8} (ht:t.length≤1000000) (hs:Srt t) (hne:∀ x∈t,x.p≠[]) (hdl:∀ x∈t,x.n.d.length≤140737488355328):
  aA Tryz.prog 175 [.c (.p (.sl 5 (aU t))),.c (.p (.s p))] [] fun r h=>r=.tup [.agg ((aQ t p).getD nd0).cv,.c (.p (.b (aQ t p).isSome))]∧h=[]:=by
 refine bK ?_;refine ent aB aK Tryz.func175 rfl rfl fun X0 hX=>?_;simp only [Tryz.f175,go_sem]
 repeat' (first|exact ⟨⟩|refine sp ?_)
 refine zEQ (KL ht hs) rfl (fun _ _=>rfl) fun i hi=>?_;unfold lN;cases hf:fN t p i
 ·have hg:=QQ hs hi hf;rw [hg]
  repeat' (first|exact ⟨⟩|refine sp ?_)
  all_goals simp [nd0,lJ]
 ·unfold fN at hf;cases hx:t[i]? with
  | none=>rw [hx] at hf;cases hf
  | some x =>
   rw [hx] at hf;simp only at hf;have hg:=FE hs hx hf;have hxm:=List.mem_of_getElem? hx;have hpe:(p == [])=false:=by
    rw [← eq_of_beq hf];have:=hne x hxm;simpa using this
   have he:=cQ hx;have hil:i<t.length:=(List.getElem?_eq_some_iff.1 hx).1;have hxd:=hdl x hxm;rw [hg];clear hg
   repeat' (first|exact ⟨⟩|refine sp ?_|refine uN (xC hxd) ?_|((with_reducible refine And.intro ?_ ?_);omega))
   all_goals simp
theorem zLB {k m k' m':Int} {t t':Nat} {d d':List UInt8} (p q:Bool):aA Tryz.prog 230 [.agg (ndc k m t d),.agg (ndc k' m' t' d'),.c (.p (.b p)),.c (.p (.b q))] [] fun r h=>r=.c (.p (.i .i64 (iW p q ⟨k,m,t,d⟩ ⟨k',m',t',d'⟩)))∧h=[]:=by
 cases p <;> cases q
 all_goals
  refine ent aB aK Tryz.func230 rfl rfl fun X0 hX=>?_;simp only [Tryz.f230,go_sem]
 all_goals repeat' (first|exact ⟨⟩|refine sp ?_|refine uF (rO) ?_|refine uF (uK) ?_|with_reducible refine aO (fun _=>?_) (fun _=>?_))
 all_goals simp only [iW, *,↓reduceIte,Bool.false_eq_true]
end Go.Proofs.YtlbfnbldeefgmaaGreatDoor
end
section
namespace Go.Proofs.YtlbfnbldeefgmaaGreatDoor
open Go Go.Dm
set_option maxRecDepth 100000
set_option maxHeartbeats 4000000
theorem nJ {a:List UInt8} {c:Int} (ha:a.length<4611686018427387904):aA Tryz.prog 234 [.c (.p (.s a)),.c (.p (.i .u8 c))] [] fun r h=>r=.c (.p (.i .i64 (Lib.lastIndexByte ⟨a.toArray⟩ c)))∧h=[] :=
 pC (N:=4611686018427387904) (g:=fun a c=>Lib.lastIndexByte ⟨a.toArray⟩ c) (enters Tryz.func234 rfl rfl) (fun a c w h=>Tryz.strings_LastIndexByte ⟨a.toArray⟩ c (by simpa [ByteArray.size] using h) w) ha
theorem QX {a b:List UInt8}:aA Tryz.prog 294 [.c (.p (.s a)),.c (.p (.s b))] [] fun r h=>r=.c (.p (.b (b.isPrefixOf a)))∧h=[] :=
 AQ (g:=fun a b=>b.isPrefixOf a) (enters Tryz.func294 rfl rfl) (fun a b w=>Tryz.strings_HasPrefix a b w)
theorem dQ {p:List UInt8} (hp:p.length≤1000000000):aA Tryz.prog 173 [.c (.p (.s p))] [] fun r h=>r=.c (.p (.s (aR p)))∧h=[]:=by
 have hl:=nJ (a:=p) (c:=47) (by omega);rw [mH] at hl;unfold aR;cases hs:dB p p.length with
 | none =>
  rw [hs] at hl;simp only at hl ⊢;clear hs;refine ent aB aK Tryz.func173 rfl rfl fun X0 hX=>?_;simp only [Tryz.f173,go_sem]
  repeat' (first|simp only [*,go_sem,Nat.reduceLT,Nat.reduceEqDiff,↓reduceIte,Int.reduceLT,Int.reduceLE,Int.reduceNeg,Int.reduceToNat,]|((with_reducible refine dM (hl) ?_ ?_ ?_);exact rfl;exact rfl))
  all_goals simp
 | some j =>
  rw [hs] at hl;have hj:=uR hs;have hm:max (0:Int) (j:Int)=j:=by omega
  simp only at hl ⊢;clear hs;have hj2:(j:Int)≤p.length:=by omega
  have hj3:(0:Int)≤j:=by omega
  have hj4:(if (0:Int)<(j:Int) then (j:Int) else 0)=j:=by split <;> omega
  refine ent aB aK Tryz.func173 rfl rfl fun X0 hX=>?_;simp only [Tryz.f173,go_sem]
  repeat' (first|simp only [*,go_sem,Nat.reduceLT,Nat.reduceEqDiff,↓reduceIte,Int.reduceLE,Int.reduceToNat,]|((with_reducible refine dM (hl) ?_ ?_ ?_);exact rfl;exact rfl))
  all_goals first|(rw [hj4];done)|(rw [hj4];omega)|(rw [hj4];rfl)|skip
theorem ZQ {p:List UInt8} (hp:p.length≤1000000000):aA Tryz.prog 238 [.c (.p (.s p))] [] fun r h=>r=.c (.p (.s (vJ p)))∧h=[]:=by
 have hl:=nJ (a:=p) (c:=47) (by omega);rw [mH] at hl;unfold vJ;cases hs:dB p p.length with
 | none =>
  rw [hs] at hl;simp only at hl ⊢;clear hs;have w1:IntKind.i64.wrap (-1+1)=0:=by decide +kernel
  refine ent aB aK Tryz.func238 rfl rfl fun X0 hX=>?_;simp only [Tryz.f238,go_sem]
  repeat' (first|simp only [*,go_sem,Nat.reduceLT,Nat.reduceEqDiff,↓reduceIte,Int.reduceLE,Int.reduceAdd,Int.reduceNeg,Int.reduceToNat,]|((with_reducible refine dM (hl) ?_ ?_ ?_);exact rfl;exact rfl)|((with_reducible refine And.intro ?_ ?_);omega))
  all_goals simp
 | some j =>
  rw [hs] at hl;have hj:=uR hs;have w1:IntKind.i64.wrap ((j:Int)+1)=(j+1:Nat):=wrap_i64 (by omega) (by omega);simp only at hl ⊢;clear hs;have hj2:((j+1:Nat):Int)≤p.length:=by omega
  refine ent aB aK Tryz.func238 rfl rfl fun X0 hX=>?_;simp only [Tryz.f238,go_sem]
  repeat' (first|simp only [*,go_sem,Nat.reduceLT,Nat.reduceEqDiff,↓reduceIte,]|((with_reducible refine dM (hl) ?_ ?_ ?_);exact rfl;exact rfl)|((with_reducible refine And.intro ?_ ?_);omega))
  all_goals simp
theorem cK {p q:List UInt8} (hpl:p.length≤1000000000):aA Tryz.prog 244 [.c (.p (.s p)),.c (.p (.s q))] [] fun r h=>r=.c (.p (.b (aP p q)))∧h=[]:=by
 by_cases hp:p=[]
 ·subst hp;refine ent aB aK Tryz.func244 rfl rfl fun X0 hX=>?_;simp only [Tryz.f244,go_sem]
  repeat' (simp only [*,go_sem,Nat.reduceLT,Nat.reduceEqDiff,↓reduceIte,beq_self_eq_true])
  all_goals simp [aP]
 ·have q0:(p == [])=false:=by simpa using hp
  have hb:=HV (q:=q) hp;refine ent aB aK Tryz.func244 rfl rfl fun X0 hX=>?_;simp only [Tryz.f244,go_sem]
  repeat' (first|simp only [*,go_sem,Nat.reduceLT,Nat.reduceLeDiff,Nat.reduceEqDiff,↓reduceIte,]|((with_reducible refine dM (QX) ?_ ?_ ?_);exact rfl;exact rfl)|((with_reducible refine And.intro ?_ ?_);omega))
theorem eN {t:List It} {p:List UInt8} (ht:t.length≤1000000) (hs:Srt t):
  aA Tryz.prog 223 [.c (.p (.sl 5 (aU t))),.c (.p (.s p))] [] fun r h=>r=.c (.p (.b (aV t p)))∧h=[]:=by
 refine ent aB aK Tryz.func223 rfl rfl fun X0 hX=>?_;simp only [Tryz.f223,go_sem]
 repeat' (simp only [*,go_sem,Nat.reduceLT,Nat.reduceEqDiff,↓reduceIte,])
 refine zEQ (KL ht hs) rfl (fun _ _=>rfl) fun i hi=>?_;unfold lN aV;cases hf:fN t p i
 ·have hg:=QQ hs hi hf;rw [hg];cases q:(p == [])
  ·repeat' (simp only [*,go_sem,Nat.reduceLT,Nat.reduceEqDiff,↓reduceIte,])
  ·repeat' (simp only [*,go_sem,Nat.reduceLT,Nat.reduceEqDiff,↓reduceIte,])
 ·unfold fN at hf;cases hx:t[i]? with
  | none=>rw [hx] at hf;cases hf
  | some x =>
   rw [hx] at hf;simp only at hf;have hg:=FE hs hx hf;have he:=cQ hx;have hil:(i:Int)<t.length:=by have:=(List.getElem?_eq_some_iff.1 hx).1;omega
   have hi0:(0:Int)≤i:=by omega
   rw [hg];clear hg hf hi;cases q:(p == [])
   ·repeat' (simp only [*,go_sem,Nat.reduceLT,Nat.reduceEqDiff,↓reduceIte,])
   ·repeat' (simp only [*,go_sem,Nat.reduceLT,Nat.reduceEqDiff,↓reduceIte,])
end Go.Proofs.YtlbfnbldeefgmaaGreatDoor
end
