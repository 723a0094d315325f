/- Part 23 of the proof of roomDeep_card, set without needless blanks. No condition. -/
import Derived.Test.YtlbfnbldeefgmaaGreatDoorC21
import Derived.Shelf.Spec.SlicesGrow
import Derived.Ground.Names8Prog
import Derived.Shelf.SlGeneric
import Derived.Test.YtlbfnbldeefgmaaGreatDoorC15
set_option linter.all false
section
namespace Go.Proofs.YtlbfnbldeefgmaaGreatDoor
open Go Go.Dm
set_option maxRecDepth 100000
set_option maxHeartbeats 4000000
theorem lB {n m:Int} (hm:0<m) (hm2:m≤9223372036854775807):aA Tryz.prog 22 [.c (.p (.i .i64 n)),.c (.p (.i .i64 m))] [] fun r h=>r=.c (.p (.i .i64 (n % m)))∧h=[]:=by
 refine ent aC aK Tryz.func22 rfl rfl fun X0 hX=>?_;simp only [Tryz.f22,go_sem];have h0:=Int.emod_nonneg n (show m≠0 by omega)
 have h1:=Int.emod_lt_of_pos n hm
 repeat' (first|simp only [*,go_sem,Nat.reduceLT,Nat.reduceEqDiff,↓reduceIte,]|with_reducible refine aR (fun _=>?_) (fun _=>?_)|((with_reducible refine And.intro ?_ ?_);omega))
 ·rename_i h;rw [tmod_neg hm (of_decide_eq_true h),wrap_i64 (by omega) (by omega)]
 ·rename_i h;rw [zEZ hm (of_decide_eq_false h)]
theorem zFX {b:List UInt8} {n:Int} (hn:0≤n) (hn2:n≤140737488355328) (hb:b.length≤9223372036854775807):aA Tryz.prog 49 [.c (.p (.sl 1 (bW b))),.c (.p (.i .i64 n))] [] fun r h=>r=.c (.p (.sl 1 (bW (b.take n.toNat))))∧h=[]:=by
 refine ent aC aK Tryz.func49 rfl rfl fun X0 hX=>?_;simp only [Tryz.f49,go_sem]
 repeat' (first|simp only [*,go_sem,Nat.reduceLT,Nat.reduceLeDiff,Nat.reduceEqDiff,↓reduceIte,Nat.reduceAdd,Int.reduceLE,Int.reduceToNat,]|((with_reducible refine And.intro ?_ ?_);((first|omega|decide))))
 by_cases h:n<(b.length:Int)
 ·simp only [if_pos h,List.length_take];refine ⟨by omega,by omega,?_⟩
  first|trivial|rfl
 ·simp only [if_neg h,List.length_take];refine ⟨by omega,by omega,?_⟩
  rw [List.take_of_length_le (by omega),List.take_of_length_le (by omega)]
theorem tT {n:Int}:aA Tryz.prog 109 [.c (.p (.i .i64 n))] [] fun r h=>r=.c (.p (.s (rJ n)))∧h=[]:=by
 refine ent aC aK Tryz.func109 rfl rfl fun X0 hX=>?_;simp only [Tryz.f109,go_sem]
 repeat' (first|simp only [*,go_sem,Nat.reduceLT,Nat.reduceLeDiff,Nat.reduceEqDiff,↓reduceIte,Nat.reduceAdd,]|((with_reducible refine aQ (lB (by omega) (by omega)) ?_ ?_ ?_);exact rfl;exact rfl)|((with_reducible refine And.intro ?_ ?_);omega))
 unfold rJ;have h1:=Int.emod_nonneg n (show (6:Int)≠0 by decide)
 have h2:=Int.emod_lt_of_pos n (show (0:Int)<6 by decide)
 generalize n % 6=k at h1 h2;have:k=0∨k=1∨k=2∨k=3∨k=4∨k=5:=by omega
 rcases this with rfl|rfl|rfl|rfl|rfl|rfl <;> rfl
theorem zFl {n:Int}:aA Tryz.prog 86 [.c (.p (.i .i64 n))] [] fun r h=>r=.c (.p (.s (pV n)))∧h=[]:=by
 unfold pV;have h1:=Int.emod_nonneg n (show (1073741824:Int)≠0 by decide)
 have h2:=Int.emod_lt_of_pos n (show (0:Int)<1073741824 by decide)
 have e1:IntKind.i64.wrap ((n % 1073741824).tdiv 6)=n % 1073741824 / 6:=by rw [Int.tdiv_eq_ediv_of_nonneg h1];exact wrap_i64 (by omega) (by omega)
 have e2:(n % 1073741824 / 6).tmod 3=n % 1073741824 / 6 % 3:=Int.tmod_eq_emod_of_nonneg (by omega);have e3:IntKind.i64.wrap ((n % 1073741824).tdiv 7)=n % 1073741824 / 7:=by rw [Int.tdiv_eq_ediv_of_nonneg h1];exact wrap_i64 (by omega) (by omega)
 have e4:IntKind.i64.wrap ((n % 1073741824 / 7).tdiv 7)=n % 1073741824 / 7 / 7:=by rw [Int.tdiv_eq_ediv_of_nonneg (by omega)];exact wrap_i64 (by omega) (by omega)
 have l1:=fS (n % 1073741824);have l2:=fS (n % 1073741824 / 7);have l3:=fS (n % 1073741824 / 7 / 7);have hk:n % 1073741824 / 6 % 3=0∨n % 1073741824 / 6 % 3=1∨n % 1073741824 / 6 % 3=2:=by omega
 refine ent aC aK Tryz.func86 rfl rfl fun X0 hX=>?_;simp only [Tryz.f86,go_sem];rcases hk with hk|hk|hk
 ·repeat' (first|simp only [*,go_sem,Nat.reduceLT,Nat.reduceEqDiff,↓reduceIte,Int.reduceToNat,Int.reduceEq,]|((with_reducible refine aQ (lB (by omega) (by omega)) ?_ ?_ ?_);exact rfl;exact rfl)|((with_reducible refine aQ (tT) ?_ ?_ ?_);exact rfl;exact rfl))
  refine gD aC aK 1 ?_
  repeat' (simp only [*,go_sem,Nat.reduceLT,Nat.reduceEqDiff,↓reduceIte,Int.reduceLT,])
  simp only [HF]
 ·repeat' (first|simp only [*,go_sem,Nat.reduceLT,Nat.reduceEqDiff,↓reduceIte,Int.reduceToNat,Int.reduceEq,]|((with_reducible refine aQ (lB (by omega) (by omega)) ?_ ?_ ?_);exact rfl;exact rfl)|((with_reducible refine aQ (tT) ?_ ?_ ?_);exact rfl;exact rfl))
  refine gD aC aK 2 ?_
  repeat' (first|simp only [*,go_sem,Nat.reduceLT,Nat.reduceLeDiff,Nat.reduceEqDiff,↓reduceIte,Int.reduceLT,Int.reduceLE,Int.reduceSub,Int.reduceNeg,Int.reduceEq,]|((with_reducible refine aQ (tT) ?_ ?_ ?_);exact rfl;exact rfl)|((with_reducible refine And.intro ?_ ?_);omega))
  all_goals simp [HF]
 ·repeat' (first|simp only [*,go_sem,Nat.reduceLT,Nat.reduceEqDiff,↓reduceIte,Int.reduceToNat,Int.reduceEq,]|((with_reducible refine aQ (lB (by omega) (by omega)) ?_ ?_ ?_);exact rfl;exact rfl)|((with_reducible refine aQ (tT) ?_ ?_ ?_);exact rfl;exact rfl))
  refine gD aC aK 3 ?_
  repeat' (first|simp only [*,go_sem,Nat.reduceLT,Nat.reduceLeDiff,Nat.reduceEqDiff,↓reduceIte,Int.reduceLT,Int.reduceLE,Int.reduceSub,Int.reduceNeg,Int.reduceEq,]|((with_reducible refine aQ (tT) ?_ ?_ ?_);exact rfl;exact rfl)|((with_reducible refine And.intro ?_ ?_);omega))
  all_goals simp [HF]
theorem zFm {n:Int} {x:Nat}:aA Tryz.prog 48 [.c (.p (.i .i64 n)),.c (.p (.f x))] [] fun r h=>r=.c (.p (.f (xC n x)))∧h=[]:=by
 refine ent aC aK Tryz.func48 rfl rfl fun X0 hX=>?_;simp only [Tryz.f48,go_sem]
 repeat' (first|simp only [*,go_sem,Nat.reduceLT,Nat.reduceLeDiff,Nat.reduceEqDiff,↓reduceIte,Nat.reduceAdd,Int.reduceLE,Int.reduceNeg,Int.reduceToNat,]|((with_reducible refine aQ (lB (by omega) (by omega)) ?_ ?_ ?_);exact rfl;exact rfl)|((with_reducible refine aQ (QY) ?_ ?_ ?_);exact rfl;exact rfl)|((with_reducible refine aQ (zJT _) ?_ ?_ ?_);exact rfl;exact rfl)|((with_reducible refine aQ (zJF) ?_ ?_ ?_);exact rfl;exact rfl)|((with_reducible refine aQ (iA _ (by omega)) ?_ ?_ ?_);exact rfl;exact rfl)|with_reducible refine aR (fun _=>?_) (fun _=>?_)|((with_reducible refine And.intro ?_ ?_);((first|omega|(simp only [decide_eq_true_eq] at *;omega)))))
 ·rename_i h;have h:=of_decide_eq_true h
  try refine ⟨h,?_⟩
  unfold xC;have h1:=Int.emod_nonneg n (show (15:Int)≠0 by decide)
  generalize n % 15=k at h h1;have:k=0∨k=1∨k=2∨k=3∨k=4∨k=5∨k=6∨k=7∨k=8∨k=9∨k=10∨k=11:=by omega
  rcases this with rfl|rfl|rfl|rfl|rfl|rfl|rfl|rfl|rfl|rfl|rfl|rfl <;> rfl
 ·rename_i h;have h:=of_decide_eq_false h;unfold xC;rw [if_neg h]
theorem zG5 {k m t:Int} {x:Nat} {d:List UInt8} (hd:d.length≤9223372036854775807):aA Tryz.prog 50 [.agg (rnc k m t x d)] [] fun r h=>r=.agg (zEp ⟨k,m,t,x,d⟩).cv∧h=[]:=by
 have hp:=pW m;have e0:=Int.emod_nonneg k (show (3:Int)≠0 by decide)
 have e1:=Int.emod_lt_of_pos k (show (0:Int)<3 by decide)
 have e2:IntKind.i64.wrap (1+k % 3)=1+k % 3:=wrap_i64 (by omega) (by omega);refine bN ?_;refine ent aC aK Tryz.func50 rfl rfl fun X0 hX=>?_;simp only [Tryz.f50,go_sem]
 repeat' (first|simp only [*,go_sem,Nat.reduceLT,Nat.reduceLeDiff,Nat.reduceEqDiff,↓reduceIte,Nat.reduceAdd,Int.reduceLE,Int.reduceToNat,Int.reduceEq,Nat.reduceBEq,]|((with_reducible refine aQ (zFl) ?_ ?_ ?_);exact rfl;exact rfl)|((with_reducible refine cH (zFX (by omega) (by omega) hd) ?_ ?_ ?_);exact rfl;exact fun _=>rfl)|((refine aO (id:=1) aC aK [14,15] [14,0,1,2,3,4,5,6,7,8,9,10,11,12,13,15] (by decide +kernel) ?_);(repeat' (first|(refine bC ?_)|((refine dB ?_ ?_ rfl rfl rfl ?_ ?_);(rotate_left 2);(focus ((repeat' (simp only [*,go_sem,Nat.reduceLT,Nat.reduceLeDiff,Nat.reduceEqDiff,↓reduceIte,Nat.reduceAdd,]));((refine And.intro ?_ ?_ <;> exact rfl))));(simp only [aF,bF]))|((refine dA ?_ rfl rfl rfl ?_ ?_);(rotate_left 1);(focus ((repeat' (first|exact bI|refine bA ?_ ?_));(all_goals ((repeat' (first|simp only [*,go_sem,Nat.reduceLT,Nat.reduceLeDiff,Nat.reduceEqDiff,↓reduceIte,Nat.reduceAdd,]|((with_reducible refine aQ (lB (by omega) (by omega)) ?_ ?_ ?_);exact rfl;exact rfl)|((with_reducible refine aQ (zFm) ?_ ?_ ?_);exact rfl;exact rfl)|((with_reducible refine aQ (JY _) ?_ ?_ ?_);exact rfl;exact rfl)));(try (exact rfl))))));(simp only [aF])))))|with_reducible refine aR (fun _=>?_) (fun _=>?_)|((with_reducible refine And.intro ?_ ?_);((first|omega|decide))))
 all_goals (simp_all [zEp,zG4,CF,mZ,];try omega)
end Go.Proofs.YtlbfnbldeefgmaaGreatDoor
end
section
namespace Go.Proofs.YtlbfnbldeefgmaaGreatDoor
open Go Go.Dm Go.Proofs
open Go Go.Dm
set_option maxRecDepth 100000
set_option maxHeartbeats 4000000
theorem qK {a b:List UInt8}:aA Tryz.prog 157 [.c (.p (.s a)),.c (.p (.s b))] [] fun r h=>r=.c (.p (.i .i64 (NP a b)))∧h=[]:=by
 rw [← lP];exact KQ (enters Tryz.func157 rfl rfl) (fun a b w=>Tryz.strings_Compare a b w)
theorem zI1 {h:aB} {id:Nat} {ss:List (List UInt8)} (hid:h[id]? = some (.arr 1 (Go.Dm.encS ss) false)) (hsz:ss.length<4611686018427387904):
  aA Tryz.prog 228 [.c (.own id 0 ss.length)] h fun d h'=>d=.tup []∧h'=h.set id (.arr 1 (Go.Dm.encS (ss.mergeSort fun x y=>decide (x≤y))) false) :=
 KP (enters Tryz.func228 rfl rfl) (fun blk off cap ss w h1 h2 h3=>Tryz.slices_Sort_string blk off cap ss w h1 h2 h3) (fun p cap w=>Tryz.slices_Sort_string_none p cap w) hid hsz
theorem zAi {q:List UInt8} {k m:Int} {tt:Nat} {d p:List UInt8}:aA Tryz.prog 290 [.agg [.p (.s q),.p (.i .i64 k),.p (.i .i64 m),.p (.f tt),.p (.sl 1 (bW d))],.c (.p (.s p))] [] fun r h=>r=.c (.p (.i .i64 (NP q p)))∧h=[]:=by
 refine ent aC aK Tryz.func290 rfl rfl fun X0 hX=>?_;simp only [Tryz.f290,go_sem]
 repeat' (first|simp only [*,go_sem,Nat.reduceLT,Nat.reduceEqDiff,↓reduceIte,]|((with_reducible refine aQ (qK) ?_ ?_ ?_);exact rfl;exact rfl))
def AR (t:List It) (p:List UInt8) (i:Nat):Prop:=i≤t.length∧∀ k x,t[k]? = some x→(k<i→bZ x.p p=true)∧(i≤k→bZ x.p p=false)
def fF (t:List It) (p:List UInt8) (i:Nat):Bool:=match t[i]? with
 | some x=>x.p == p
 | none=>false
def kL (t:List It) (p:List UInt8) (i:Nat):DV:=.tup [.c (.p (.i .i64 i)),.c (.p (.b (fF t p i)))]
theorem GA {p:List UInt8}:∀ {t:List It},(∀ x∈t,(x.p == p)=false)→aW t p=none
 | [],_=>rfl
 | x::r,h=>by
  rw [aW,if_neg (by rw [h x List.mem_cons_self];decide)];exact GA fun y hy=>h y (List.mem_cons_of_mem _ hy)
theorem BQ {p:List UInt8}:∀ {t:List It} {k:Nat} {x:It},Srt t→t[k]? = some x→(x.p == p)=true→aW t p=some x.n
 | [],k,x,_,h,_=>by simp at h
 | y::r,0,x,_,h,hp=>by
  simp only [List.getElem?_cons_zero,Option.some.injEq] at h;subst h;rw [aW,if_pos hp]
 | y::r,k+1,x,hs,h,hp=>by
  simp only [List.getElem?_cons_succ] at h;have hs:=List.pairwise_cons.1 hs;have:=hs.1 x (List.mem_of_getElem? h);rw [eq_of_beq hp] at this;rw [aW,if_neg (by rw [lC this];decide)];exact BQ hs.2 h hp
theorem KY {t:List It} {p:List UInt8} {i:Nat} (hs:Srt t) (h:AR t p i) (hf:fF t p i=false):aW t p=none:=by
 refine GA fun x hx=>?_;obtain ⟨k,hk⟩:=List.getElem?_of_mem hx;cases he:x.p == p
 ·rfl
 ·have h1:=h.2 k x hk;rcases Nat.lt_trichotomy k i with hki|rfl|hki
  ·have:=h1.1 hki;rw [eq_of_beq he,cR] at this;cases this
  ·unfold fF at hf;rw [hk] at hf;simp only at hf;rw [he] at hf;cases hf
  ·have hil:i<t.length:=Nat.lt_trans hki (List.getElem?_eq_some_iff.1 hk).1;have h2:=h.2 i t[i] (List.getElem?_eq_getElem hil);have h3:=List.pairwise_iff_getElem.1 hs i k hil (List.getElem?_eq_some_iff.1 hk).1 hki;rw [(List.getElem?_eq_some_iff.1 hk).2,eq_of_beq he,h2.2 (Nat.le_refl _)] at h3;cases h3
theorem WY {t:List It} {p:List UInt8} (ht:t.length≤1000000) (hs:Srt t):
  aA Tryz.prog 289 [.c (.p (.sl 5 (aZ t))),.c (.p (.s p)),.c (.clo 290 [])] [] fun r h =>
   ∃ i:Nat,AR t p i∧r=kL t p i∧h=[]:=by
 have hmon:∀ (k k':Nat) (x x':It),t[k]? = some x→t[k']? = some x'→k<k'→bZ x.p x'.p=true:=fun k k' x x' h1 h2 h3=>by
  obtain ⟨h4,rfl⟩:=List.getElem?_eq_some_iff.1 h1;obtain ⟨h5,rfl⟩:=List.getElem?_eq_some_iff.1 h2;exact List.pairwise_iff_getElem.1 hs _ _ h4 h5 h3
 refine ent aC aK Tryz.func289 rfl rfl fun X0 hX=>?_;simp only [Tryz.f289,go_sem]
 repeat' (simp only [*,go_sem,Nat.reduceLT,Nat.reduceEqDiff,↓reduceIte,Nat.reduceAdd,])
 refine bQ aC aK (α:=Nat × Nat) (fun x=>⟨49,[(0,.c (.p (.sl 5 (aZ t)))),(1,.c (.p (.s p))),(2,.c (.clo 290 [])),(8,.c (.p (.i .i64 t.length))),(9,.c (.p (.i .i64 x.1))),(10,.c (.p (.i .i64 x.2)))],[]⟩)
  (fun x=>x.1≤x.2∧x.2≤t.length∧∀ k y,t[k]? = some y→(k<x.1→bZ y.p p=true)∧(x.2≤k→bZ y.p p=false)) (fun x=>x.2-x.1) (0,t.length) ⟨Nat.zero_le _,Nat.le_refl _,fun k y hy=>⟨fun h=>by omega,fun h=>by rw [List.getElem?_eq_none h] at hy;cases hy⟩⟩ (.inl (aJ (by rw [hX];rfl) rfl rfl (by simp [aH,aN,aD,aL,aG,]))) ?_
 rintro ⟨i,j⟩ ⟨hij,hj,hl⟩;simp only at hij hj hl;by_cases hlt:i<j
 ·have h1:decide ((i:Int)<(j:Int))=true:=decide_eq_true (by omega);have w1:IntKind.i64.wrap ((i:Int)+j)=(i:Int)+j:=wrap_i64 (by omega) (by omega);have w2:IntKind.u64.wrap ((i:Int)+j)=(i:Int)+j:=wrap_u64 (by omega) (by omega);obtain ⟨m,hm,hmi,hmj⟩:∃ m:Nat,((i:Int)+j).fdiv (2 ^ min 1 64)=(m:Int)∧i≤m∧m<j :=
   ⟨(i+j) / 2,by rw [show (2:Int) ^ min 1 64=2 from rfl,Int.fdiv_eq_ediv_of_nonneg _ (by decide)];omega,by omega,by omega⟩
  have w3:IntKind.i64.wrap (m:Int)=m:=wrap_i64 (by omega) (by omega);have w4:IntKind.i64.wrap ((m:Int)+1)=m+1:=wrap_i64 (by omega) (by omega);have hml:m<t.length:=by omega
  have hx:t[m]? = some t[m]:=List.getElem?_eq_getElem hml;have hg:=dD hx;generalize t[m]=x at hx hg
  repeat' (first|simp only [*,go_sem,Nat.reduceLT,Nat.reduceLeDiff,Nat.reduceEqDiff,↓reduceIte,Nat.reduceAdd,Int.reduceLE,Int.reduceToNat,]|((with_reducible refine aQ (zAi) ?_ ?_ ?_);exact rfl;exact rfl)|with_reducible refine aR (fun _=>?_) (fun _=>?_)|((with_reducible refine And.intro ?_ ?_);omega))
  ·rename_i hb;have hb:bZ x.p p=true:=by rw [← nU];exact hb
   exact jC (m+1,j) ⟨by simp only;omega,hj,fun k y hy=>⟨fun hk=>by
    rcases Nat.lt_or_ge k m with h|h
    ·exact cO (hmon _ _ _ _ hy hx h) hb
    ·have:k=m:=by simp only at hk;omega
     subst this;rw [hx] at hy;cases hy;exact hb,(hl k y hy).2⟩⟩ (by simp only;omega) (aJ rfl rfl rfl (by simp [aH,aN,aD,aL,aG,]))
  ·rename_i hb;have hb:bZ x.p p=false:=by rw [← nU];exact hb
   exact jC (i,m) ⟨hmi,by simp only;omega,fun k y hy=>⟨(hl k y hy).1,fun hk=>by
    rcases Nat.lt_or_ge m k with h|h
    ·cases hc:bZ y.p p
     ·rfl
     ·have:=cO (hmon _ _ _ _ hx hy h) hc;rw [hb] at this;cases this
    ·have:k=m:=by simp only at hk;omega
     subst this;rw [hx] at hy;cases hy;exact hb⟩⟩ (by simp only;omega) (aJ rfl rfl rfl (by simp [aH,aN,aD,aL,aG,]))
 ·have h1:decide ((i:Int)<(j:Int))=false:=decide_eq_false (by omega);have:i=j:=by omega
  subst this;by_cases hil:i<t.length
  ·have hx:t[i]? = some t[i]:=List.getElem?_eq_getElem hil;have hg:=dD hx;have h2:decide ((i:Int)<(t.length:Int))=true:=decide_eq_true (by omega);generalize t[i]=x at hx hg
   repeat' (first|simp only [*,go_sem,Nat.reduceLT,Nat.reduceLeDiff,Nat.reduceEqDiff,↓reduceIte,Nat.reduceAdd,]|((with_reducible refine aQ (zAi) ?_ ?_ ?_);exact rfl;exact rfl)|((with_reducible refine And.intro ?_ ?_);omega))
   refine ⟨i,⟨hj,hl⟩,?_⟩;simp only [kL,fF,hx,KI]
  ·have h2:decide ((i:Int)<(t.length:Int))=false:=decide_eq_false (by omega)
   repeat' (simp only [*,go_sem,Nat.reduceLT,Nat.reduceEqDiff,↓reduceIte,])
   refine ⟨i,⟨hj,hl⟩,?_⟩;simp only [kL,fF,List.getElem?_eq_none (Nat.le_of_not_lt hil)]
theorem FU {t:List It} {p:List UInt8} (ht:t.length≤1000000) (hs:Srt t):
  aA Tryz.prog 237 [.c (.p (.sl 5 (aZ t))),.c (.p (.s p))] [] fun r h=>∃ i:Nat,AR t p i∧r=kL t p i∧h=[]:=by
 refine ent aC aK Tryz.func237 rfl rfl fun X0 hX=>?_;simp only [Tryz.f237,go_sem]
 repeat' (simp only [*,go_sem,Nat.reduceLT,Nat.reduceEqDiff,↓reduceIte,])
 refine zCb (WY ht hs) rfl (fun _ _=>rfl) fun i hi=>?_;unfold kL
 repeat' (simp only [*,go_sem,Nat.reduceLT,Nat.reduceEqDiff,↓reduceIte,])
 exact ⟨i,hi,rfl⟩
theorem jY {t:List It} {p:List UInt8} (ht:t.length≤1000000) (hs:Srt t) (hne:∀ x∈t,x.p≠[]) (hdl:∀ x∈t,x.n.d.length≤140737488355328):
  aA Tryz.prog 175 [.c (.p (.sl 5 (aZ t))),.c (.p (.s p))] [] fun r h=>r=.tup [.agg ((aW t p).getD nd0).cv,.c (.p (.b (aW t p).isSome))]∧h=[]:=by
 refine bN ?_;refine ent aC aK Tryz.func175 rfl rfl fun X0 hX=>?_;simp only [Tryz.f175,go_sem]
 repeat' (simp only [*,go_sem,Nat.reduceLT,Nat.reduceEqDiff,↓reduceIte,])
 refine zCb (FU ht hs) rfl (fun _ _=>rfl) fun i hi=>?_;unfold kL;cases hf:fF t p i
 ·have hg:=KY hs hi hf;rw [hg]
  repeat' (simp only [*,go_sem,Nat.reduceLT,Nat.reduceLeDiff,Nat.reduceEqDiff,↓reduceIte,Nat.reduceAdd,])
  all_goals simp [nd0,mZ]
 ·unfold fF at hf;cases hx:t[i]? with
  | none=>rw [hx] at hf;cases hf
  | some x =>
   rw [hx] at hf;simp only at hf;have hg:=BQ hs hx hf;have hxm:=List.mem_of_getElem? hx;have hpe:(p == [])=false:=by
    rw [← eq_of_beq hf];have:=hne x hxm;simpa using this
   have he:=dD hx;have hil:i<t.length:=(List.getElem?_eq_some_iff.1 hx).1;have hxd:=hdl x hxm;rw [hg];clear hg
   repeat' (first|simp only [*,go_sem,Nat.reduceLT,Nat.reduceLeDiff,Nat.reduceEqDiff,↓reduceIte,Nat.reduceAdd,]|((with_reducible refine cH (EN hxd) ?_ ?_ ?_);exact rfl;exact fun _=>rfl)|((with_reducible refine And.intro ?_ ?_);omega))
   all_goals simp
end Go.Proofs.YtlbfnbldeefgmaaGreatDoor
end
section
namespace Go.Proofs.YtlbfnbldeefgmaaGreatDoor
open Go Go.Dm
set_option maxRecDepth 100000
set_option maxHeartbeats 4000000
theorem mA {a:List UInt8} {c:Int} (ha:a.length<4611686018427387904):aA Tryz.prog 234 [.c (.p (.s a)),.c (.p (.i .u8 c))] [] fun r h=>r=.c (.p (.i .i64 (Lib.lastIndexByte ⟨a.toArray⟩ c)))∧h=[] :=
 nQ (N:=4611686018427387904) (g:=fun a c=>Lib.lastIndexByte ⟨a.toArray⟩ c) (enters Tryz.func234 rfl rfl) (fun a c w h=>Tryz.strings_LastIndexByte ⟨a.toArray⟩ c (by simpa [ByteArray.size] using h) w) ha
theorem LG {a b:List UInt8}:aA Tryz.prog 294 [.c (.p (.s a)),.c (.p (.s b))] [] fun r h=>r=.c (.p (.b (b.isPrefixOf a)))∧h=[] :=
 xP (g:=fun a b=>b.isPrefixOf a) (enters Tryz.func294 rfl rfl) (fun a b w=>Tryz.strings_HasPrefix a b w)
theorem dQ {p:List UInt8} (hp:p.length≤1000000000):aA Tryz.prog 173 [.c (.p (.s p))] [] fun r h=>r=.c (.p (.s (aP p)))∧h=[]:=by
 have hl:=mA (a:=p) (c:=47) (by omega);rw [lE] at hl;unfold aP;cases hs:dX p p.length with
 | none =>
  rw [hs] at hl;simp only at hl ⊢;clear hs;refine ent aC aK Tryz.func173 rfl rfl fun X0 hX=>?_;simp only [Tryz.f173,go_sem]
  repeat' (first|simp only [*,go_sem,Nat.reduceLT,Nat.reduceEqDiff,↓reduceIte,Int.reduceLT,Int.reduceLE,Int.reduceNeg,Int.reduceToNat,]|((with_reducible refine aQ (hl) ?_ ?_ ?_);exact rfl;exact rfl))
  all_goals simp
 | some j =>
  rw [hs] at hl;have hj:=sG hs;have hm:max (0:Int) (j:Int)=j:=by omega
  simp only at hl ⊢;clear hs;have hj2:(j:Int)≤p.length:=by omega
  have hj3:(0:Int)≤j:=by omega
  have hj4:(if (0:Int)<(j:Int) then (j:Int) else 0)=j:=by split <;> omega
  refine ent aC aK Tryz.func173 rfl rfl fun X0 hX=>?_;simp only [Tryz.f173,go_sem]
  repeat' (first|simp only [*,go_sem,Nat.reduceLT,Nat.reduceEqDiff,↓reduceIte,Int.reduceLE,Int.reduceToNat,]|((with_reducible refine aQ (hl) ?_ ?_ ?_);exact rfl;exact rfl))
  all_goals first|(rw [hj4];done)|(rw [hj4];omega)|(rw [hj4];rfl)|skip
theorem SQ {p:List UInt8} (hp:p.length≤1000000000):aA Tryz.prog 238 [.c (.p (.s p))] [] fun r h=>r=.c (.p (.s (sS p)))∧h=[]:=by
 have hl:=mA (a:=p) (c:=47) (by omega);rw [lE] at hl;unfold sS;cases hs:dX p p.length with
 | none =>
  rw [hs] at hl;simp only at hl ⊢;clear hs;have w1:IntKind.i64.wrap (-1+1)=0:=by decide +kernel
  refine ent aC aK Tryz.func238 rfl rfl fun X0 hX=>?_;simp only [Tryz.f238,go_sem]
  repeat' (first|simp only [*,go_sem,Nat.reduceLT,Nat.reduceEqDiff,↓reduceIte,Int.reduceLE,Int.reduceAdd,Int.reduceNeg,Int.reduceToNat,]|((with_reducible refine aQ (hl) ?_ ?_ ?_);exact rfl;exact rfl)|((with_reducible refine And.intro ?_ ?_);omega))
  all_goals simp
 | some j =>
  rw [hs] at hl;have hj:=sG hs;have w1:IntKind.i64.wrap ((j:Int)+1)=(j+1:Nat):=wrap_i64 (by omega) (by omega);simp only at hl ⊢;clear hs;have hj2:((j+1:Nat):Int)≤p.length:=by omega
  refine ent aC aK Tryz.func238 rfl rfl fun X0 hX=>?_;simp only [Tryz.f238,go_sem]
  repeat' (first|simp only [*,go_sem,Nat.reduceLT,Nat.reduceEqDiff,↓reduceIte,]|((with_reducible refine aQ (hl) ?_ ?_ ?_);exact rfl;exact rfl)|((with_reducible refine And.intro ?_ ?_);omega))
  all_goals simp
theorem cE {p q:List UInt8} (hpl:p.length≤1000000000):aA Tryz.prog 244 [.c (.p (.s p)),.c (.p (.s q))] [] fun r h=>r=.c (.p (.b (aM p q)))∧h=[]:=by
 by_cases hp:p=[]
 ·subst hp;refine ent aC aK Tryz.func244 rfl rfl fun X0 hX=>?_;simp only [Tryz.f244,go_sem]
  repeat' (simp only [*,go_sem,Nat.reduceLT,Nat.reduceEqDiff,↓reduceIte,beq_self_eq_true])
  all_goals simp [aM]
 ·have q0:(p == [])=false:=by simpa using hp
  have hb:=EC (q:=q) hp;refine ent aC aK Tryz.func244 rfl rfl fun X0 hX=>?_;simp only [Tryz.f244,go_sem]
  repeat' (first|simp only [*,go_sem,Nat.reduceLT,Nat.reduceLeDiff,Nat.reduceEqDiff,↓reduceIte,]|((with_reducible refine aQ (LG) ?_ ?_ ?_);exact rfl;exact rfl)|((with_reducible refine And.intro ?_ ?_);omega))
theorem eG {t:List It} {p:List UInt8} (ht:t.length≤1000000) (hs:Srt t):
  aA Tryz.prog 223 [.c (.p (.sl 5 (aZ t))),.c (.p (.s p))] [] fun r h=>r=.c (.p (.b (aU t p)))∧h=[]:=by
 refine ent aC aK Tryz.func223 rfl rfl fun X0 hX=>?_;simp only [Tryz.f223,go_sem]
 repeat' (simp only [*,go_sem,Nat.reduceLT,Nat.reduceEqDiff,↓reduceIte,])
 refine zCb (FU ht hs) rfl (fun _ _=>rfl) fun i hi=>?_;unfold kL aU;cases hf:fF t p i
 ·have hg:=KY hs hi hf;rw [hg];cases q:(p == [])
  ·repeat' (simp only [*,go_sem,Nat.reduceLT,Nat.reduceEqDiff,↓reduceIte,])
  ·repeat' (simp only [*,go_sem,Nat.reduceLT,Nat.reduceEqDiff,↓reduceIte,])
 ·unfold fF at hf;cases hx:t[i]? with
  | none=>rw [hx] at hf;cases hf
  | some x =>
   rw [hx] at hf;simp only at hf;have hg:=BQ hs hx hf;have he:=dD hx;have hil:(i:Int)<t.length:=by have:=(List.getElem?_eq_some_iff.1 hx).1;omega
   have hi0:(0:Int)≤i:=by omega
   rw [hg];clear hg hf hi;cases q:(p == [])
   ·repeat' (simp only [*,go_sem,Nat.reduceLT,Nat.reduceEqDiff,↓reduceIte,])
   ·repeat' (simp only [*,go_sem,Nat.reduceLT,Nat.reduceEqDiff,↓reduceIte,])
end Go.Proofs.YtlbfnbldeefgmaaGreatDoor
end
