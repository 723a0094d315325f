/- Part 21 of the proof of roomKnown_card. No condition. -/
import Derived.Test.YtbpblnmhlhpebaaGreatDoorB19
import Derived.Shelf.Spec.SlicesGrow
import Derived.Ground.Names8Prog
import Derived.Shelf.SlGeneric
import Derived.Test.YtbpblnmhlhpebaaGreatDoorB14
set_option linter.all false
set_option maxRecDepth 100000
set_option maxHeartbeats 4000000
namespace Go.Proofs.YtbpblnmhlhpebaaGreatDoor
open Go Go.Dm
section
theorem pY {a:List UInt8} {c:Int} (ha:a.length<4611686018427387904):aA Tryz.prog 176 [.c (.p (.s a)),.c (.p (.i .u8 c))] [] fun r h=>r=.c (.p (.i .i64 (Lib.indexByte a c.toNat.toUInt8)))∧h=[] :=
 pD (N:=4611686018427387904) (g:=fun a c=>Lib.indexByte a c.toNat.toUInt8) (enters Tryz.func176 rfl rfl) (fun a c w _=>Tryz.strings_IndexByte ⟨a.toArray⟩ c w) ha
theorem zBG {a:List UInt8} (ha:a.length<4294967281):aA Tryz.prog 243 [.c (.p (.s a)),.c (.p (.s [47]))] [] fun r h=>r=.c (.p (.sl 1 (Go.Dm.encS (GO a))))∧h=[]:=by
 rw [← zBd]
 exact HR (g1:=Tryz.laysM146_ren.g 1) (enters Tryz.func243 rfl rfl) (fun w h=>Tryz.laysM146.s1_3 w h) (fun s sep m w h1 h2 h3=>Tryz.strings_Split s sep m w h1 h2 h3) ha (by decide)
theorem mN {d:List UInt8} {c:Int} (hd:d≠[]):aA Tryz.prog 254 [.c (.p (.sl 1 (cB d))),.c (.p (.i .u8 c))] [] fun r h=>r=.c (.p (.i .i64 (Lib.indexByte d c.toNat.toUInt8)))∧h=[] :=
 zP (g:=fun a c=>Lib.indexByte a c.toNat.toUInt8) (enters Tryz.func254 rfl rfl) (fun a n c xs cv w h1 h2=>Tryz.bytes_IndexByte_at a n c xs cv w h1 h2) hd
theorem pZ {s:List UInt8} (hs:s.length≤1000000000):aA Tryz.prog 109 [.c (.p (.s s))] [] fun r h=>r=.c (.p (.b (bF s)))∧h=[]:=by
 have e0:decide (Lib.indexByte s (Int.toNat 0).toUInt8<0)=s.all fun b=>!(b == 0):=indexByte_none 0 s
 have e1:decide (Lib.indexByte s (Int.toNat 47).toUInt8<0)=s.all fun b=>!(b == 47):=indexByte_none 47 s
 have e2:decide ((1:Int)≤s.length) = !(s == []):=by cases s <;> simp <;> omega
 have key:bF s=(!(s == []) && decide ((s.length:Int)≤24) && (s.all fun b=>!(b == 0)) && (s.all fun b=>!(b == 47)) && !(s == [46]) && !(s == [46,46])):=by
  unfold bF
  rw [BO,e2]
  cases (s == []) <;> cases decide ((s.length:Int)≤24) <;> cases (s.all fun b=>!(b == 0)) <;> cases (s.all fun b=>!(b == 47)) <;> cases (s == [46]) <;> rfl
 rw [key]
 clear key e2
 generalize (s.all fun b=>!(b == 0))=q0 at e0 ⊢
 generalize (s.all fun b=>!(b == 47))=q1 at e1 ⊢
 refine ent aB aK Tryz.func109 rfl rfl fun X0 hX=>?_
 simp only [Tryz.f109,go_sem]
 repeat' (first|simp only [*,go_sem,Nat.reduceLT,Nat.reduceEqDiff,↓reduceIte,Int.reduceToNat]|((with_reducible refine aS (pY (by omega)) ?_ ?_ ?_);exact rfl;exact rfl)|with_reducible refine bR (fun _=>?_) (fun _=>?_))
 all_goals first|(simp_all;done)|(simp_all;intros;omega)
theorem fE {p:List UInt8} (hp:p.length≤1000000000):aA Tryz.prog 169 [.c (.p (.s p))] [] fun r h=>r=.c (.p (.b (cG p)))∧h=[]:=by
 by_cases h0:p=[]
 ·subst h0
  refine ent aB aK Tryz.func169 rfl rfl fun X0 hX=>?_
  simp only [Tryz.f169,go_sem]
  repeat' (simp only [*,go_sem,Nat.reduceLT,Nat.reduceEqDiff,↓reduceIte,beq_self_eq_true])
  rfl
 ·have q0:(p == [])=false:=by simpa using h0
  have hle:∀ x∈GO p,x.length≤p.length:=fun x hx=>by have:=wA p [] x hx;simpa using this
  have hln:(GO p).length≤p.length+1:=rF p []
  refine ent aB aK Tryz.func169 rfl rfl fun X0 hX=>?_
  simp only [Tryz.f169,go_sem]
  repeat' (first|simp only [*,go_sem,Nat.reduceLT,Nat.reduceEqDiff,↓reduceIte]|((with_reducible refine bP (zBG (by omega)) ?_ ?_ ?_);exact rfl;exact fun _=>rfl))
  have key:cG p=((GO p).all bF && decide ((p.length:Int)≤120)):=by rw [cG,q0,Bool.false_or]
  generalize GO p=cs at *
  refine bC aB aK (α:=Nat) (fun k=>⟨21,[(0,.c (.p (.s p))),(8,.c (.p (.sl 1 (Go.Dm.encS cs)))),(9,.c (.p (.i .i64 cs.length))),(10,.c (.p (.i .i64 k)))],[]⟩)
   (fun k=>k≤cs.length∧(cs.drop k).all bF=cs.all bF) (fun k=>cs.length-k) 0 ⟨Nat.zero_le _,rfl⟩ (.inl (aJ (by rw [hX];rfl) rfl rfl (by simp [aI,aM,aD,aH,aG]))) ?_
  rintro k ⟨hk,hs⟩
  by_cases hlt:k<cs.length
  ·have hx:cs[k]? = some cs[k]:=List.getElem?_eq_getElem hlt
   have hg:=Go.Dm.encS_at hx
   have hdr:=drop_at hx
   have h1:decide ((k:Int)<(cs.length:Int))=true:=decide_eq_true (by omega)
   have w1:IntKind.i64.wrap ((k:Int)+1)=k+1:=wrap_i64 (by omega) (by omega)
   have hxl:=hle _ (List.getElem_mem hlt)
   generalize cs[k]=x at hx hg hdr hxl
   rw [hdr,List.all_cons] at hs
   clear hdr hle
   cases hb:bF x
   ·rw [hb,Bool.false_and] at hs
    rw [key,← hs]
    clear key hs
    repeat' (first|simp only [*,go_sem,Nat.reduceLT,Nat.reduceEqDiff,↓reduceIte]|((with_reducible refine aS (pZ (by omega)) ?_ ?_ ?_);exact rfl;exact rfl)|((with_reducible refine And.intro ?_ ?_);omega))
   ·rw [hb,Bool.true_and] at hs
    have hs':k+1≤cs.length∧(cs.drop (k+1)).all bF=cs.all bF:=⟨by omega,hs⟩
    clear hs key
    repeat' (first|simp only [*,go_sem,Nat.reduceLT,Nat.reduceEqDiff,↓reduceIte]|((with_reducible refine aS (pZ (by omega)) ?_ ?_ ?_);exact rfl;exact rfl)|((with_reducible refine And.intro ?_ ?_);omega))
    exact gL (k+1) hs' (by omega) (aJ rfl rfl rfl (by simp [aI,aM,aD,aH,aG]))
  ·have h1:decide ((k:Int)<(cs.length:Int))=false:=decide_eq_false (by omega)
   rw [List.drop_of_length_le (by omega),List.all_nil] at hs
   rw [key,← hs,Bool.true_and]
   clear key hs hle
   repeat' (simp only [*,go_sem,Nat.reduceLT,Nat.reduceEqDiff,↓reduceIte])
theorem zK4 {k m:Int} {t:Nat} {d:List UInt8}:aA Tryz.prog 245 [.agg (ndc k m t d)] [] fun r h=>r=.c (.p (.b (YZ ⟨k,m,t,d⟩)))∧h=[]:=by
 have e0:decide (Lib.indexByte d (Int.toNat 0).toUInt8<0)=d.all fun b=>!(b == 0):=indexByte_none 0 d
 by_cases hd:d=[]
 ·subst hd
  refine ent aB aK Tryz.func245 rfl rfl fun X0 hX=>?_
  simp only [Tryz.f245,go_sem]
  repeat' (first|simp only [*,go_sem,Nat.reduceLT,Nat.reduceEqDiff,↓reduceIte,Int.reduceLE,beq_self_eq_true]|with_reducible refine aU (fun _=>?_) (fun _=>?_))
  all_goals simp_all [YZ]
 ·have h1:decide ((1:Int)≤(d.length:Int))=true:=by
   have:=List.length_pos_iff.2 hd
   exact decide_eq_true (by omega)
  refine ent aB aK Tryz.func245 rfl rfl fun X0 hX=>?_
  simp only [Tryz.f245,go_sem]
  unfold YZ
  generalize (d.all fun b=>!(b == 0))=q0 at e0 ⊢
  repeat' (first|simp only [*,go_sem,Nat.reduceLT,Nat.reduceEqDiff,↓reduceIte,Int.reduceToNat]|((with_reducible refine aS (mN hd) ?_ ?_ ?_);exact rfl;exact rfl)|with_reducible refine aU (fun _=>?_) (fun _=>?_)|with_reducible refine bR (fun _=>?_) (fun _=>?_))
  all_goals first|(simp_all;done)|(simp_all;intros;omega)
theorem dQ {k m:Int} {t:Nat} {d:List UInt8} (ht:t<18446744073709551616):aA Tryz.prog 170 [.agg (ndc k m t d)] [] fun r h=>r=.c (.p (.b (aT ⟨k,m,t,d⟩)))∧h=[]:=by
 rw [← iP (n:=⟨k,m,t,d⟩) ht]
 refine ent aB aK Tryz.func170 rfl rfl fun X0 hX=>?_
 simp only [Tryz.f170,go_sem]
 repeat' (first|simp only [*,go_sem,Nat.reduceLT,Nat.reduceLeDiff,Nat.reduceEqDiff,↓reduceIte,Nat.reduceAdd]|((with_reducible refine aS (zK4) ?_ ?_ ?_);exact rfl;exact rfl)|((refine aN (id:=1) aB aK [] [0,1,2,3,4,5,6,7,8] (by decide +kernel) ?_);(repeat' (first|(refine aW ?_)|((refine cD ?_ rfl rfl ?_ ?_);(rotate_left 1);(focus ((repeat' (first|simp only [*,go_sem,Nat.reduceLT,Nat.reduceEqDiff,↓reduceIte]|((with_reducible refine aS (cT _) ?_ ?_ ?_);exact rfl;exact rfl)|((with_reducible refine aS (TY _) ?_ ?_ ?_);exact rfl;exact rfl)));exact rfl));(simp only [aF])))))|with_reducible refine bR (fun _=>?_) (fun _=>?_))
 all_goals first|(simp_all [kV,NY];done)|(simp_all [kV];intros;omega)
end
end Go.Proofs.YtbpblnmhlhpebaaGreatDoor
namespace Go.Proofs
open Go.Shelf
section
def Tryz.growItem_ren:Go.Shelf.Ren:=⟨fun | 4=>207|n=>n,fun | 22=>26 | 25=>121 | 3=>3 | 4=>4 | 9=>9 | 20=>20 | 0=>0|n=>n,fun|n=>n⟩
theorem Tryz.growItem:Go.Proofs.Lays8.n4 Tryz.prog Tryz.growItem_ren:={
 mixed:=by kernel_rfl
 f4:=⟨Tryz.f207.name,by decide,Tryz.func207.trans (congrArg some (by kernel_rfl))⟩
 t0:=Tryz.underlying0
 a0:=Tryz.isAgg0
 z0:=Tryz.sizeOf0
 v0:=Tryz.zeroValue0
 t3:=Tryz.underlying3
 a3:=Tryz.isAgg3
 z3:=Tryz.sizeOf3
 v3:=Tryz.zeroValue3
 t4:=Tryz.underlying4
 a4:=Tryz.isAgg4
 z4:=Tryz.sizeOf4
 v4:=Tryz.zeroValue4
 t9:=Tryz.underlying9
 a9:=Tryz.isAgg9
 z9:=Tryz.sizeOf9
 v9:=Tryz.zeroValue9
 t20:=Tryz.underlying20
 a20:=Tryz.isAgg20
 z20:=Tryz.sizeOf20
 v20:=Tryz.zeroValue20
 t22:=Tryz.underlying26
 a22:=Tryz.isAgg26
 z22:=Tryz.sizeOf26
 v22:=Tryz.zeroValue26 }
def Tryz.growConf_ren:Go.Shelf.Ren:=⟨fun | 4=>270|n=>n,fun | 22=>50 | 25=>221 | 3=>3 | 4=>4 | 9=>9 | 20=>20 | 0=>0|n=>n,fun|n=>n⟩
theorem Tryz.growConf:Go.Proofs.Lays8.n4 Tryz.prog Tryz.growConf_ren:={
 mixed:=by kernel_rfl
 f4:=⟨Tryz.f270.name,by decide,Tryz.func270.trans (congrArg some (by kernel_rfl))⟩
 t0:=Tryz.underlying0
 a0:=Tryz.isAgg0
 z0:=Tryz.sizeOf0
 v0:=Tryz.zeroValue0
 t3:=Tryz.underlying3
 a3:=Tryz.isAgg3
 z3:=Tryz.sizeOf3
 v3:=Tryz.zeroValue3
 t4:=Tryz.underlying4
 a4:=Tryz.isAgg4
 z4:=Tryz.sizeOf4
 v4:=Tryz.zeroValue4
 t9:=Tryz.underlying9
 a9:=Tryz.isAgg9
 z9:=Tryz.sizeOf9
 v9:=Tryz.zeroValue9
 t20:=Tryz.underlying20
 a20:=Tryz.isAgg20
 z20:=Tryz.sizeOf20
 v20:=Tryz.zeroValue20
 t22:=Tryz.underlying50
 a22:=Tryz.isAgg50
 z22:=Tryz.sizeOf50
 v22:=Tryz.zeroValue50 }
end
end Go.Proofs
namespace Go.Proofs.YtbpblnmhlhpebaaGreatDoor
open Go Go.Dm Go.Proofs
section
open Go Go.Dm
theorem mF {a b:List UInt8}:aA Tryz.prog 102 [.c (.p (.s a)),.c (.p (.s b))] [] fun r h=>r=.c (.p (.i .i64 (AP a b)))∧h=[]:=by
 rw [← nO]
 exact QL (enters Tryz.func102 rfl rfl) (fun a b w=>Tryz.strings_Compare a b w)
theorem zKq {h:aC} {id:Nat} {ss:List (List UInt8)} (hid:h[id]? = some (.arr 1 (Go.Dm.encS ss) false)) (hsz:ss.length<4611686018427387904):
  aA Tryz.prog 133 [.c (.own id 0 ss.length)] h fun d h'=>d=.tup []∧h'=h.set id (.arr 1 (Go.Dm.encS (ss.mergeSort fun x y=>decide (x≤y))) false) :=
 PL (enters Tryz.func133 rfl rfl) (fun blk off cap ss w h1 h2 h3=>Tryz.slices_Sort_string blk off cap ss w h1 h2 h3) (fun p cap w=>Tryz.slices_Sort_string_none p cap w) hid hsz
theorem yF (l:List (List UInt8)):(Lib.compact l).length≤l.length:=by
 unfold Lib.compact Lib.compactUpTo
 rw [List.length_map]
 exact Nat.le_trans (List.length_filter_le ..) (by simp)
theorem zCJ {h:aC} {id:Nat} {ss:List (List UInt8)} (hid:h[id]? = some (.arr 1 (Go.Dm.encS ss) false)) (hsz:ss.length<4611686018427387904):
  aA Tryz.prog 134 [.c (.own id 0 ss.length)] h fun d h'=>d=.c (.own id 0 (Lib.compact ss).length)∧h'=h.set id (.arr 1 (Go.Dm.encS (Lib.compact ss++List.replicate (ss.length-(Lib.compact ss).length) [])) false) :=
 AG (enters Tryz.func134 rfl rfl) (fun blk off cap ss w h1 h2 h3=>Tryz.slices_Compact_string blk off cap ss w h1 h2 h3) (fun p cap w=>Tryz.slices_Compact_string_empty p cap w) hid hsz yF
theorem zKt {h:aC} {n:Nat} (hn:n≤1000000000):
  aA Tryz.prog 207 [.c (.p .nil),.c (.p (.i .i64 n))] h fun d h'=>d=.c (.own h.length 0 0)∧h'=h++[.arr 5 [] false]:=by
 have:=mA (n:=n) (h:=h) (e:=121) aB (by rw [tab121];exact fun h=>by cases h) (by rw [tab121];decide) (enters Tryz.func207 rfl rfl)
  (fun w=>Any8.slices_Grow_room Tryz.growItem none 0 0 0 w (Nat.le_refl _) (by decide) (by decide) (Nat.le_refl _))
  (fun i0 z n w h1 h2 h3 h4 h5 h6=>by
   have:=Any8.slices_Grow_grow Tryz.growItem i0 z h1 h2 h3 none 0 0 n [] w (Nat.le_refl _) (by omega) (by simpa using h5) (by simpa using h6) (by simp) (fun _=>rfl) (fun a ha=>by cases ha)
   simp only [Nat.zero_add,Nat.sub_zero] at this
   exact this)
  (by rw [tab121];simp only;omega) (by omega)
 rw [tab121] at this
 exact this
theorem zCP {q:List UInt8} {k m:Int} {tt:Nat} {d p:List UInt8}:aA Tryz.prog 279 [.agg [.p (.s q),.p (.i .i64 k),.p (.i .i64 m),.p (.f tt),.p (.sl 1 (cB d))],.c (.p (.s p))] [] fun r h=>r=.c (.p (.i .i64 (AP q p)))∧h=[]:=by
 refine ent aB aK Tryz.func279 rfl rfl fun X0 hX=>?_
 simp only [Tryz.f279,go_sem]
 repeat' (first|simp only [*,go_sem,Nat.reduceLT,Nat.reduceEqDiff,↓reduceIte]|((with_reducible refine aS (mF) ?_ ?_ ?_);exact rfl;exact rfl))
def GK (t:List It) (p:List UInt8) (i:Nat):Prop:=i≤t.length∧∀ k x,t[k]? = some x→(k<i→bL x.p p=true)∧(i≤k→bL x.p p=false)
def fZ (t:List It) (p:List UInt8) (i:Nat):Bool:=match t[i]? with
 | some x=>x.p == p
 | none=>false
def lU (t:List It) (p:List UInt8) (i:Nat):DV:=.tup [.c (.p (.i .i64 i)),.c (.p (.b (fZ t p i)))]
theorem HP {p:List UInt8}:∀ {t:List It},(∀ x∈t,(x.p == p)=false)→aQ t p=none
 | [],_=>rfl
 | x::r,h=>by
  rw [aQ,if_neg (by rw [h x List.mem_cons_self];decide)]
  exact HP fun y hy=>h y (List.mem_cons_of_mem _ hy)
theorem DJ {p:List UInt8}:∀ {t:List It} {k:Nat} {x:It},Srt t→t[k]? = some x→(x.p == p)=true→aQ t p=some x.n
 | [],k,x,_,h,_=>by simp at h
 | y::r,0,x,_,h,hp=>by
  simp only [List.getElem?_cons_zero,Option.some.injEq] at h
  subst h
  rw [aQ,if_pos hp]
 | y::r,k+1,x,hs,h,hp=>by
  simp only [List.getElem?_cons_succ] at h
  have hs:=List.pairwise_cons.1 hs
  have:=hs.1 x (List.mem_of_getElem? h)
  rw [eq_of_beq hp] at this
  rw [aQ,if_neg (by rw [mM this];decide)]
  exact DJ hs.2 h hp
theorem NS {t:List It} {p:List UInt8} {i:Nat} (hs:Srt t) (h:GK t p i) (hf:fZ t p i=false):aQ t p=none:=by
 refine HP fun x hx=>?_
 obtain ⟨k,hk⟩:=List.getElem?_of_mem hx
 cases he:x.p == p
 ·rfl
 ·have h1:=h.2 k x hk
  rcases Nat.lt_trichotomy k i with hki|rfl|hki
  ·have:=h1.1 hki;rw [eq_of_beq he,bY] at this;cases this
  ·unfold fZ at hf;rw [hk] at hf;simp only at hf;rw [he] at hf;cases hf
  ·have hil:i<t.length:=Nat.lt_trans hki (List.getElem?_eq_some_iff.1 hk).1
   have h2:=h.2 i t[i] (List.getElem?_eq_getElem hil)
   have h3:=List.pairwise_iff_getElem.1 hs i k hil (List.getElem?_eq_some_iff.1 hk).1 hki
   rw [(List.getElem?_eq_some_iff.1 hk).2,eq_of_beq he,h2.2 (Nat.le_refl _)] at h3;cases h3
theorem zD0 {t:List It} {p:List UInt8} (ht:t.length≤1000000) (hs:Srt t):
  aA Tryz.prog 278 [.c (.p (.sl 5 (aV t))),.c (.p (.s p)),.c (.clo 279 [])] [] fun r h =>
   ∃ i:Nat,GK t p i∧r=lU t p i∧h=[]:=by
 have hmon:∀ (k k':Nat) (x x':It),t[k]? = some x→t[k']? = some x'→k<k'→bL x.p x'.p=true:=fun k k' x x' h1 h2 h3=>by
  obtain ⟨h4,rfl⟩:=List.getElem?_eq_some_iff.1 h1
  obtain ⟨h5,rfl⟩:=List.getElem?_eq_some_iff.1 h2
  exact List.pairwise_iff_getElem.1 hs _ _ h4 h5 h3
 refine ent aB aK Tryz.func278 rfl rfl fun X0 hX=>?_
 simp only [Tryz.f278,go_sem]
 repeat' (simp only [*,go_sem,Nat.reduceLT,Nat.reduceEqDiff,↓reduceIte,Nat.reduceAdd])
 refine bC aB aK (α:=Nat × Nat) (fun x=>⟨49,[(0,.c (.p (.sl 5 (aV t)))),(1,.c (.p (.s p))),(2,.c (.clo 279 [])),(8,.c (.p (.i .i64 t.length))),(9,.c (.p (.i .i64 x.1))),(10,.c (.p (.i .i64 x.2)))],[]⟩)
  (fun x=>x.1≤x.2∧x.2≤t.length∧∀ k y,t[k]? = some y→(k<x.1→bL y.p p=true)∧(x.2≤k→bL y.p p=false)) (fun x=>x.2-x.1) (0,t.length) ⟨Nat.zero_le _,Nat.le_refl _,fun k y hy=>⟨fun h=>by omega,fun h=>by rw [List.getElem?_eq_none h] at hy;cases hy⟩⟩ (.inl (aJ (by rw [hX];rfl) rfl rfl (by simp [aI,aM,aD,aH,aG]))) ?_
 rintro ⟨i,j⟩ ⟨hij,hj,hl⟩
 simp only at hij hj hl
 by_cases hlt:i<j
 ·have h1:decide ((i:Int)<(j:Int))=true:=decide_eq_true (by omega)
  have w1:IntKind.i64.wrap ((i:Int)+j)=(i:Int)+j:=wrap_i64 (by omega) (by omega)
  have w2:IntKind.u64.wrap ((i:Int)+j)=(i:Int)+j:=wrap_u64 (by omega) (by omega)
  obtain ⟨m,hm,hmi,hmj⟩:∃ m:Nat,((i:Int)+j).fdiv (2 ^ min 1 64)=(m:Int)∧i≤m∧m<j :=
   ⟨(i+j) / 2,by rw [show (2:Int) ^ min 1 64=2 from rfl,Int.fdiv_eq_ediv_of_nonneg _ (by decide)];omega,by omega,by omega⟩
  have w3:IntKind.i64.wrap (m:Int)=m:=wrap_i64 (by omega) (by omega)
  have w4:IntKind.i64.wrap ((m:Int)+1)=m+1:=wrap_i64 (by omega) (by omega)
  have hml:m<t.length:=by omega
  have hx:t[m]? = some t[m]:=List.getElem?_eq_getElem hml
  have hg:=cZ hx
  generalize t[m]=x at hx hg
  repeat' (first|simp only [*,go_sem,Nat.reduceLT,Nat.reduceLeDiff,Nat.reduceEqDiff,↓reduceIte,Nat.reduceAdd,Int.reduceLE,Int.reduceToNat]|((with_reducible refine aS (zCP) ?_ ?_ ?_);exact rfl;exact rfl)|with_reducible refine aU (fun _=>?_) (fun _=>?_)|((with_reducible refine And.intro ?_ ?_);omega))
  ·rename_i hb
   have hb:bL x.p p=true:=by rw [← nU];exact hb
   exact gL (m+1,j) ⟨by simp only;omega,hj,fun k y hy=>⟨fun hk=>by
    rcases Nat.lt_or_ge k m with h|h
    ·exact cF (hmon _ _ _ _ hy hx h) hb
    ·have:k=m:=by simp only at hk;omega
     subst this;rw [hx] at hy;cases hy;exact hb,(hl k y hy).2⟩⟩ (by simp only;omega) (aJ rfl rfl rfl (by simp [aI,aM,aD,aH,aG]))
  ·rename_i hb
   have hb:bL x.p p=false:=by rw [← nU];exact hb
   exact gL (i,m) ⟨hmi,by simp only;omega,fun k y hy=>⟨(hl k y hy).1,fun hk=>by
    rcases Nat.lt_or_ge m k with h|h
    ·cases hc:bL y.p p
     ·rfl
     ·have:=cF (hmon _ _ _ _ hx hy h) hc
      rw [hb] at this;cases this
    ·have:k=m:=by simp only at hk;omega
     subst this;rw [hx] at hy;cases hy;exact hb⟩⟩ (by simp only;omega) (aJ rfl rfl rfl (by simp [aI,aM,aD,aH,aG]))
 ·have h1:decide ((i:Int)<(j:Int))=false:=decide_eq_false (by omega)
  have:i=j:=by omega
  subst this
  by_cases hil:i<t.length
  ·have hx:t[i]? = some t[i]:=List.getElem?_eq_getElem hil
   have hg:=cZ hx
   have h2:decide ((i:Int)<(t.length:Int))=true:=decide_eq_true (by omega)
   generalize t[i]=x at hx hg
   repeat' (first|simp only [*,go_sem,Nat.reduceLT,Nat.reduceLeDiff,Nat.reduceEqDiff,↓reduceIte,Nat.reduceAdd]|((with_reducible refine aS (zCP) ?_ ?_ ?_);exact rfl;exact rfl)|((with_reducible refine And.intro ?_ ?_);omega))
   refine ⟨i,⟨hj,hl⟩,?_⟩
   simp only [lU,fZ,hx,EF]
  ·have h2:decide ((i:Int)<(t.length:Int))=false:=decide_eq_false (by omega)
   repeat' (simp only [*,go_sem,Nat.reduceLT,Nat.reduceEqDiff,↓reduceIte])
   refine ⟨i,⟨hj,hl⟩,?_⟩
   simp only [lU,fZ,List.getElem?_eq_none (Nat.le_of_not_lt hil)]
theorem JS {t:List It} {p:List UInt8} (ht:t.length≤1000000) (hs:Srt t):
  aA Tryz.prog 205 [.c (.p (.sl 5 (aV t))),.c (.p (.s p))] [] fun r h=>∃ i:Nat,GK t p i∧r=lU t p i∧h=[]:=by
 refine ent aB aK Tryz.func205 rfl rfl fun X0 hX=>?_
 simp only [Tryz.f205,go_sem]
 repeat' (simp only [*,go_sem,Nat.reduceLT,Nat.reduceEqDiff,↓reduceIte])
 refine zA9 (zD0 ht hs) rfl (fun _ _=>rfl) fun i hi=>?_
 unfold lU
 repeat' (simp only [*,go_sem,Nat.reduceLT,Nat.reduceEqDiff,↓reduceIte])
 exact ⟨i,hi,rfl⟩
theorem eT {t:List It} {p:List UInt8} (ht:t.length≤1000000) (hs:Srt t) (hne:∀ x∈t,x.p≠[]) (hdl:∀ x∈t,x.n.d.length≤140737488355328):
  aA Tryz.prog 128 [.c (.p (.sl 5 (aV t))),.c (.p (.s p))] [] fun r h=>r=.tup [.agg ((aQ t p).getD nd0).cv,.c (.p (.b (aQ t p).isSome))]∧h=[]:=by
 refine aX ?_
 refine ent aB aK Tryz.func128 rfl rfl fun X0 hX=>?_
 simp only [Tryz.f128,go_sem]
 repeat' (simp only [*,go_sem,Nat.reduceLT,Nat.reduceEqDiff,↓reduceIte])
 refine zA9 (JS ht hs) rfl (fun _ _=>rfl) fun i hi=>?_
 unfold lU
 cases hf:fZ t p i
 ·have hg:=NS hs hi hf
  rw [hg]
  repeat' (simp only [*,go_sem,Nat.reduceLT,Nat.reduceLeDiff,Nat.reduceEqDiff,↓reduceIte,Nat.reduceAdd])
  all_goals simp [nd0,oH]
 ·unfold fZ at hf
  cases hx:t[i]? with
  | none=>rw [hx] at hf;cases hf
  | some x =>
   rw [hx] at hf
   simp only at hf
   have hg:=DJ hs hx hf
   have hxm:=List.mem_of_getElem? hx
   have hpe:(p == [])=false:=by
    rw [← eq_of_beq hf]
    have:=hne x hxm
    simpa using this
   have he:=cZ hx
   have hil:i<t.length:=(List.getElem?_eq_some_iff.1 hx).1
   have hxd:=hdl x hxm
   rw [hg]
   clear hg
   repeat' (first|simp only [*,go_sem,Nat.reduceLT,Nat.reduceLeDiff,Nat.reduceEqDiff,↓reduceIte,Nat.reduceAdd]|((with_reducible refine bP (uS hxd) ?_ ?_ ?_);exact rfl;exact fun _=>rfl)|((with_reducible refine And.intro ?_ ?_);omega))
   all_goals simp
theorem zGC {a b:List It} (ha:a.length≤1000000) (hb:b.length≤1000000):
  aA Tryz.prog 132 [.c (.p (.sl 1 [[.sl 5 (aV a)],[.sl 5 (aV b)]]))] [] fun r h=>r=.c (.p (.sl 5 (aV (a++b))))∧h=[]:=by
 have w1:IntKind.i64.wrap (a.length:Int)=a.length:=wrap_i64 (by omega) (by omega)
 have w2:IntKind.i64.wrap ((a.length:Int)+(b.length:Int))=(a.length+b.length:Nat):=wrap_i64 (by omega) (by omega)
 have z1:decide ((a.length:Int)<0)=false:=decide_eq_false (by omega)
 have z2:decide (((a.length+b.length:Nat):Int)<0)=false:=decide_eq_false (by omega)
 refine ent aB aK Tryz.func132 rfl rfl fun X0 hX=>?_
 simp only [Tryz.f132,go_sem]
 repeat' (first|simp only [*,go_sem,Nat.reduceLT,Nat.reduceEqDiff,↓reduceIte,Nat.reduceAdd,Int.reduceLT,Int.reduceLE,Int.reduceAdd,Int.reduceToNat,Int.zero_add,kC,decide_true,decide_false]|refine fT aB aK 3 ?_)
 refine (zKt (n:=a.length+b.length) (by omega)).mono ?_
 rintro d h' ⟨rfl,rfl⟩
 repeat' (first|simp only [*,go_sem,Nat.reduceLT,Nat.reduceLeDiff,Nat.reduceEqDiff,↓reduceIte,Nat.reduceAdd,Int.reduceLT,Int.reduceLE,Int.reduceAdd,Int.reduceToNat,Int.zero_add,kC,decide_true,decide_false]|refine fT aB aK 3 ?_|((with_reducible refine And.intro ?_ ?_);omega))
 rw [List.take_of_length_le (by simp)]
theorem zGS {k m k' m':Int} {t t':Nat} {d d':List UInt8} (p q:Bool):aA Tryz.prog 135 [.agg (ndc k m t d),.agg (ndc k' m' t' d'),.c (.p (.b p)),.c (.p (.b q))] [] fun r h=>r=.c (.p (.i .i64 (oY p q ⟨k,m,t,d⟩ ⟨k',m',t',d'⟩)))∧h=[]:=by
 cases p <;> cases q
 all_goals
  refine ent aB aK Tryz.func135 rfl rfl fun X0 hX=>?_
  simp only [Tryz.f135,go_sem]
 all_goals repeat' (first|simp only [*,go_sem,Nat.reduceLT,Nat.reduceLeDiff,Nat.reduceEqDiff,↓reduceIte,Nat.reduceAdd]|((with_reducible refine aS (wE) ?_ ?_ ?_);exact rfl;exact rfl)|((with_reducible refine aS (hZ) ?_ ?_ ?_);exact rfl;exact rfl)|with_reducible refine aU (fun _=>?_) (fun _=>?_))
 all_goals simp only [oY, *,↓reduceIte,Bool.false_eq_true]
end
end Go.Proofs.YtbpblnmhlhpebaaGreatDoor
namespace Go.Proofs.YtbpblnmhlhpebaaGreatDoor
open Go Go.Dm
section
theorem nB {a:List UInt8} {c:Int} (ha:a.length<4611686018427387904):aA Tryz.prog 246 [.c (.p (.s a)),.c (.p (.i .u8 c))] [] fun r h=>r=.c (.p (.i .i64 (Lib.lastIndexByte ⟨a.toArray⟩ c)))∧h=[] :=
 pD (N:=4611686018427387904) (g:=fun a c=>Lib.lastIndexByte ⟨a.toArray⟩ c) (enters Tryz.func246 rfl rfl) (fun a c w h=>Tryz.strings_LastIndexByte ⟨a.toArray⟩ c (by simpa [ByteArray.size] using h) w) ha
theorem PG {a b:List UInt8}:aA Tryz.prog 323 [.c (.p (.s a)),.c (.p (.s b))] [] fun r h=>r=.c (.p (.b (b.isPrefixOf a)))∧h=[] :=
 AH (g:=fun a b=>b.isPrefixOf a) (enters Tryz.func323 rfl rfl) (fun a b w=>Tryz.strings_HasPrefix a b w)
theorem dJ {p:List UInt8} (hp:p.length≤1000000000):aA Tryz.prog 172 [.c (.p (.s p))] [] fun r h=>r=.c (.p (.s (aR p)))∧h=[]:=by
 have hl:=nB (a:=p) (c:=47) (by omega)
 rw [mP] at hl
 unfold aR
 cases hs:eG p p.length with
 | none =>
  rw [hs] at hl
  simp only at hl ⊢
  clear hs
  refine ent aB aK Tryz.func172 rfl rfl fun X0 hX=>?_
  simp only [Tryz.f172,go_sem]
  repeat' (first|simp only [*,go_sem,Nat.reduceLT,Nat.reduceEqDiff,↓reduceIte,Int.reduceLT,Int.reduceLE,Int.reduceNeg,Int.reduceToNat]|((with_reducible refine aS (hl) ?_ ?_ ?_);exact rfl;exact rfl))
  all_goals simp
 | some j =>
  rw [hs] at hl
  have hj:=uB hs
  have hm:max (0:Int) (j:Int)=j:=by omega
  simp only at hl ⊢
  clear hs
  have hj2:(j:Int)≤p.length:=by omega
  have hj3:(0:Int)≤j:=by omega
  have hj4:(if (0:Int)<(j:Int) then (j:Int) else 0)=j:=by split <;> omega
  refine ent aB aK Tryz.func172 rfl rfl fun X0 hX=>?_
  simp only [Tryz.f172,go_sem]
  repeat' (first|simp only [*,go_sem,Nat.reduceLT,Nat.reduceEqDiff,↓reduceIte,Int.reduceLE,Int.reduceToNat]|((with_reducible refine aS (hl) ?_ ?_ ?_);exact rfl;exact rfl))
  all_goals first|(rw [hj4];done)|(rw [hj4];omega)|(rw [hj4];rfl)|skip
theorem XY {p:List UInt8} (hp:p.length≤1000000000):aA Tryz.prog 252 [.c (.p (.s p))] [] fun r h=>r=.c (.p (.s (uX p)))∧h=[]:=by
 have hl:=nB (a:=p) (c:=47) (by omega)
 rw [mP] at hl
 unfold uX
 cases hs:eG p p.length with
 | none =>
  rw [hs] at hl
  simp only at hl ⊢
  clear hs
  have w1:IntKind.i64.wrap (-1+1)=0:=by decide +kernel
  refine ent aB aK Tryz.func252 rfl rfl fun X0 hX=>?_
  simp only [Tryz.f252,go_sem]
  repeat' (first|simp only [*,go_sem,Nat.reduceLT,Nat.reduceEqDiff,↓reduceIte,Int.reduceLE,Int.reduceAdd,Int.reduceNeg,Int.reduceToNat]|((with_reducible refine aS (hl) ?_ ?_ ?_);exact rfl;exact rfl)|((with_reducible refine And.intro ?_ ?_);omega))
  all_goals simp
 | some j =>
  rw [hs] at hl
  have hj:=uB hs
  have w1:IntKind.i64.wrap ((j:Int)+1)=(j+1:Nat):=wrap_i64 (by omega) (by omega)
  simp only at hl ⊢
  clear hs
  have hj2:((j+1:Nat):Int)≤p.length:=by omega
  refine ent aB aK Tryz.func252 rfl rfl fun X0 hX=>?_
  simp only [Tryz.f252,go_sem]
  repeat' (first|simp only [*,go_sem,Nat.reduceLT,Nat.reduceEqDiff,↓reduceIte]|((with_reducible refine aS (hl) ?_ ?_ ?_);exact rfl;exact rfl)|((with_reducible refine And.intro ?_ ?_);omega))
  all_goals simp
theorem cL {p q:List UInt8} (hpl:p.length≤1000000000):aA Tryz.prog 257 [.c (.p (.s p)),.c (.p (.s q))] [] fun r h=>r=.c (.p (.b (aP p q)))∧h=[]:=by
 by_cases hp:p=[]
 ·subst hp
  refine ent aB aK Tryz.func257 rfl rfl fun X0 hX=>?_
  simp only [Tryz.f257,go_sem]
  repeat' (simp only [*,go_sem,Nat.reduceLT,Nat.reduceEqDiff,↓reduceIte,beq_self_eq_true])
  all_goals simp [aP]
 ·have q0:(p == [])=false:=by simpa using hp
  have hb:=HK (q:=q) hp
  refine ent aB aK Tryz.func257 rfl rfl fun X0 hX=>?_
  simp only [Tryz.f257,go_sem]
  repeat' (first|simp only [*,go_sem,Nat.reduceLT,Nat.reduceLeDiff,Nat.reduceEqDiff,↓reduceIte]|((with_reducible refine aS (PG) ?_ ?_ ?_);exact rfl;exact rfl)|((with_reducible refine And.intro ?_ ?_);omega))
theorem eC {t:List It} {p:List UInt8} (ht:t.length≤1000000) (hs:Srt t):
  aA Tryz.prog 171 [.c (.p (.sl 5 (aV t))),.c (.p (.s p))] [] fun r h=>r=.c (.p (.b (aY t p)))∧h=[]:=by
 refine ent aB aK Tryz.func171 rfl rfl fun X0 hX=>?_
 simp only [Tryz.f171,go_sem]
 repeat' (simp only [*,go_sem,Nat.reduceLT,Nat.reduceEqDiff,↓reduceIte])
 refine zA9 (JS ht hs) rfl (fun _ _=>rfl) fun i hi=>?_
 unfold lU aY
 cases hf:fZ t p i
 ·have hg:=NS hs hi hf
  rw [hg]
  cases q:(p == [])
  ·repeat' (simp only [*,go_sem,Nat.reduceLT,Nat.reduceEqDiff,↓reduceIte])
  ·repeat' (simp only [*,go_sem,Nat.reduceLT,Nat.reduceEqDiff,↓reduceIte])
 ·unfold fZ at hf
  cases hx:t[i]? with
  | none=>rw [hx] at hf;cases hf
  | some x =>
   rw [hx] at hf
   simp only at hf
   have hg:=DJ hs hx hf
   have he:=cZ hx
   have hil:(i:Int)<t.length:=by have:=(List.getElem?_eq_some_iff.1 hx).1;omega
   have hi0:(0:Int)≤i:=by omega
   rw [hg]
   clear hg hf hi
   cases q:(p == [])
   ·repeat' (simp only [*,go_sem,Nat.reduceLT,Nat.reduceEqDiff,↓reduceIte])
   ·repeat' (simp only [*,go_sem,Nat.reduceLT,Nat.reduceEqDiff,↓reduceIte])
end
end Go.Proofs.YtbpblnmhlhpebaaGreatDoor
namespace Go.Dm
open Go
section
def zJM (x:List It × Int):Prop:=(x.2=0→OkT x.1)∧(x.2≠0→x.1=[])
theorem zJM.len {x:List It × Int} (h:zJM x):x.1.length≤1000000:=by
 by_cases h0:x.2=0
 ·exact Nat.le_trans (h.1 h0).len (by decide)
 ·rw [h.2 h0];simp
end
end Go.Dm
