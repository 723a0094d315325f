/- Part 24 of the proof of roomForks_card, set without needless blanks. No condition. -/
import Derived.Test.YtbpblnmhlhpebaaGreatDoorC22
import Derived.Shelf.Spec.SlicesGrow
import Derived.Ground.Names8Prog
import Derived.Shelf.SlGeneric
import Derived.Test.YtbpblnmhlhpebaaGreatDoorC15
set_option linter.unusedSimpArgs false
set_option linter.unusedVariables false
set_option maxRecDepth 100000
set_option maxHeartbeats 4000000
namespace Go.Proofs.YtbpblnmhlhpebaaGreatDoor
open Go Go.Dm
section
theorem uO {n m:Int} (hm:0<m) (hm2:m≤9223372036854775807):aA Tryz.prog 27 [.c (.p (.i .i64 n)),.c (.p (.i .i64 m))] [] fun r h=>r=.c (.p (.i .i64 (n % m)))∧h=[]:=by
 refine ent aB aK Tryz.func27 rfl rfl fun X0 hX=>?_
 simp only [Tryz.f27,go_sem]
 have h0:=Int.emod_nonneg n (show m≠0 by omega)
 have h1:=Int.emod_lt_of_pos n hm
 repeat' (first|simp only [*,go_sem,Nat.reduceLT,Nat.reduceEqDiff,↓reduceIte]|with_reducible refine aM (fun _=>?_) (fun _=>?_)|((with_reducible refine And.intro ?_ ?_);(focus (omega))))
 ·rename_i h
  rw [tmod_neg hm (of_decide_eq_true h),wrap_i64 (by omega) (by omega)]
 ·rename_i h
  rw [zFI hm (of_decide_eq_false h)]
theorem zJP {b:List UInt8} {n:Int} (hn:0≤n) (hn2:n≤140737488355328) (hb:b.length≤9223372036854775807):aA Tryz.prog 56 [.c (.p (.sl 1 (bT b))),.c (.p (.i .i64 n))] [] fun r h=>r=.c (.p (.sl 1 (bT (b.take n.toNat))))∧h=[]:=by
 refine ent aB aK Tryz.func56 rfl rfl fun X0 hX=>?_
 simp only [Tryz.f56,go_sem]
 repeat' (first|simp only [*,go_sem,Nat.reduceLT,Nat.reduceLeDiff,Nat.reduceEqDiff,↓reduceIte,Nat.reduceAdd,Int.reduceLE,Int.reduceToNat]|((with_reducible refine And.intro ?_ ?_);(focus (first|omega|decide))))
 by_cases h:n<(b.length:Int)
 ·simp only [if_pos h,List.length_take]
  refine ⟨by omega,by omega,?_⟩
  first|trivial|rfl
 ·simp only [if_neg h,List.length_take]
  refine ⟨by omega,by omega,?_⟩
  rw [List.take_of_length_le (by omega),List.take_of_length_le (by omega)]
theorem JI {n:Int}:aA Tryz.prog 89 [.c (.p (.i .i64 n))] [] fun r h=>r=.c (.p (.s (LP n)))∧h=[]:=by
 refine ent aB aK Tryz.func89 rfl rfl fun X0 hX=>?_
 simp only [Tryz.f89,go_sem]
 repeat' (first|simp only [*,go_sem,Nat.reduceLT,Nat.reduceLeDiff,Nat.reduceEqDiff,↓reduceIte,Nat.reduceAdd]|((with_reducible refine aQ (uO (by omega) (by omega)) ?_ ?_ ?_);exact rfl;exact rfl)|((with_reducible refine And.intro ?_ ?_);(focus (omega))))
 unfold LP
 have h1:=Int.emod_nonneg n (show (6:Int)≠0 by decide)
 have h2:=Int.emod_lt_of_pos n (show (0:Int)<6 by decide)
 generalize n % 6=k at h1 h2
 have:k=0∨k=1∨k=2∨k=3∨k=4∨k=5:=by omega
 rcases this with rfl|rfl|rfl|rfl|rfl|rfl <;> rfl
theorem VP {n:Int}:aA Tryz.prog 34 [.c (.p (.i .i64 n))] [] fun r h=>r=.c (.p (.s (pE n)))∧h=[]:=by
 unfold pE
 have h1:=Int.emod_nonneg n (show (1073741824:Int)≠0 by decide)
 have h2:=Int.emod_lt_of_pos n (show (0:Int)<1073741824 by decide)
 have e1:IntKind.i64.wrap ((n % 1073741824).tdiv 6)=n % 1073741824 / 6:=by rw [Int.tdiv_eq_ediv_of_nonneg h1];exact wrap_i64 (by omega) (by omega)
 have e2:(n % 1073741824 / 6).tmod 3=n % 1073741824 / 6 % 3:=Int.tmod_eq_emod_of_nonneg (by omega)
 have e3:IntKind.i64.wrap ((n % 1073741824).tdiv 7)=n % 1073741824 / 7:=by rw [Int.tdiv_eq_ediv_of_nonneg h1];exact wrap_i64 (by omega) (by omega)
 have e4:IntKind.i64.wrap ((n % 1073741824 / 7).tdiv 7)=n % 1073741824 / 7 / 7:=by rw [Int.tdiv_eq_ediv_of_nonneg (by omega)];exact wrap_i64 (by omega) (by omega)
 have l1:=nO (n % 1073741824)
 have l2:=nO (n % 1073741824 / 7)
 have l3:=nO (n % 1073741824 / 7 / 7)
 have hk:n % 1073741824 / 6 % 3=0∨n % 1073741824 / 6 % 3=1∨n % 1073741824 / 6 % 3=2:=by omega
 refine ent aB aK Tryz.func34 rfl rfl fun X0 hX=>?_
 simp only [Tryz.f34,go_sem]
 rcases hk with hk|hk|hk
 ·repeat' (first|simp only [*,go_sem,Nat.reduceLT,Nat.reduceEqDiff,↓reduceIte,Int.reduceToNat,Int.reduceEq]|((with_reducible refine aQ (uO (by omega) (by omega)) ?_ ?_ ?_);exact rfl;exact rfl)|((with_reducible refine aQ (JI) ?_ ?_ ?_);exact rfl;exact rfl))
  refine fG aB aK 1 ?_
  repeat' (simp only [*,go_sem,Nat.reduceLT,Nat.reduceEqDiff,↓reduceIte,Int.reduceLT])
  simp only [KP]
 ·repeat' (first|simp only [*,go_sem,Nat.reduceLT,Nat.reduceEqDiff,↓reduceIte,Int.reduceToNat,Int.reduceEq]|((with_reducible refine aQ (uO (by omega) (by omega)) ?_ ?_ ?_);exact rfl;exact rfl)|((with_reducible refine aQ (JI) ?_ ?_ ?_);exact rfl;exact rfl))
  refine fG aB aK 2 ?_
  repeat' (first|simp only [*,go_sem,Nat.reduceLT,Nat.reduceLeDiff,Nat.reduceEqDiff,↓reduceIte,Int.reduceLT,Int.reduceLE,Int.reduceSub,Int.reduceNeg,Int.reduceEq]|((with_reducible refine aQ (JI) ?_ ?_ ?_);exact rfl;exact rfl)|((with_reducible refine And.intro ?_ ?_);(focus (omega))))
  all_goals simp [KP]
 ·repeat' (first|simp only [*,go_sem,Nat.reduceLT,Nat.reduceEqDiff,↓reduceIte,Int.reduceToNat,Int.reduceEq]|((with_reducible refine aQ (uO (by omega) (by omega)) ?_ ?_ ?_);exact rfl;exact rfl)|((with_reducible refine aQ (JI) ?_ ?_ ?_);exact rfl;exact rfl))
  refine fG aB aK 3 ?_
  repeat' (first|simp only [*,go_sem,Nat.reduceLT,Nat.reduceLeDiff,Nat.reduceEqDiff,↓reduceIte,Int.reduceLT,Int.reduceLE,Int.reduceSub,Int.reduceNeg,Int.reduceEq]|((with_reducible refine aQ (JI) ?_ ?_ ?_);exact rfl;exact rfl)|((with_reducible refine And.intro ?_ ?_);(focus (omega))))
  all_goals simp [KP]
theorem zCa {n:Int} {x:Nat}:aA Tryz.prog 55 [.c (.p (.i .i64 n)),.c (.p (.f x))] [] fun r h=>r=.c (.p (.f (PG n x)))∧h=[]:=by
 refine ent aB aK Tryz.func55 rfl rfl fun X0 hX=>?_
 simp only [Tryz.f55,go_sem]
 repeat' (first|simp only [*,go_sem,Nat.reduceLT,Nat.reduceLeDiff,Nat.reduceEqDiff,↓reduceIte,Nat.reduceAdd,Int.reduceLE,Int.reduceNeg,Int.reduceToNat]|((with_reducible refine aQ (uO (by omega) (by omega)) ?_ ?_ ?_);exact rfl;exact rfl)|((with_reducible refine aQ (XY) ?_ ?_ ?_);exact rfl;exact rfl)|((with_reducible refine aQ (zLY _) ?_ ?_ ?_);exact rfl;exact rfl)|((with_reducible refine aQ (zMm) ?_ ?_ ?_);exact rfl;exact rfl)|((with_reducible refine aQ (iD _ (by omega)) ?_ ?_ ?_);exact rfl;exact rfl)|with_reducible refine aM (fun _=>?_) (fun _=>?_)|((with_reducible refine And.intro ?_ ?_);(focus (first|omega|(simp only [decide_eq_true_eq] at *;omega)))))
 ·rename_i h
  have h:=of_decide_eq_true h
  try refine ⟨h,?_⟩
  unfold PG
  have h1:=Int.emod_nonneg n (show (15:Int)≠0 by decide)
  generalize n % 15=k at h h1
  have:k=0∨k=1∨k=2∨k=3∨k=4∨k=5∨k=6∨k=7∨k=8∨k=9∨k=10∨k=11:=by omega
  rcases this with rfl|rfl|rfl|rfl|rfl|rfl|rfl|rfl|rfl|rfl|rfl|rfl <;> rfl
 ·rename_i h
  have h:=of_decide_eq_false h
  unfold PG
  rw [if_neg h]
theorem zCj {k m t:Int} {x:Nat} {d:List UInt8} (hd:d.length≤9223372036854775807):aA Tryz.prog 38 [.agg (rnc k m t x d)] [] fun r h=>r=.agg (AV ⟨k,m,t,x,d⟩).cv∧h=[]:=by
 have hp:=lE m
 have e0:=Int.emod_nonneg k (show (3:Int)≠0 by decide)
 have e1:=Int.emod_lt_of_pos k (show (0:Int)<3 by decide)
 have e2:IntKind.i64.wrap (1+k % 3)=1+k % 3:=wrap_i64 (by omega) (by omega)
 refine bJ ?_
 refine ent aB aK Tryz.func38 rfl rfl fun X0 hX=>?_
 simp only [Tryz.f38,go_sem]
 repeat' (first|simp only [*,go_sem,Nat.reduceLT,Nat.reduceLeDiff,Nat.reduceEqDiff,↓reduceIte,Nat.reduceAdd,Int.reduceLE,Int.reduceToNat,Int.reduceEq,Nat.reduceBEq]|((with_reducible refine aQ (VP) ?_ ?_ ?_);exact rfl;exact rfl)|((with_reducible refine bK (zJP (by omega) (by omega) hd) ?_ ?_ ?_);exact rfl;exact fun _=>rfl)|((refine aP (id:=1) aB aK [14,15] [14,0,1,2,3,4,5,6,7,8,9,10,11,12,13,15] (by decide +kernel) ?_);(repeat' (first|(refine bA ?_)|((refine dB ?_ ?_ rfl rfl rfl ?_ ?_);(rotate_left 2);(focus ((repeat' (simp only [*,go_sem,Nat.reduceLT,Nat.reduceLeDiff,Nat.reduceEqDiff,↓reduceIte,Nat.reduceAdd]));((refine And.intro ?_ ?_ <;> exact rfl))));(simp only [aJ,bQ]))|((refine dC ?_ rfl rfl rfl ?_ ?_);(rotate_left 1);(focus ((repeat' (first|exact bP|refine bE ?_ ?_));(all_goals ((repeat' (first|simp only [*,go_sem,Nat.reduceLT,Nat.reduceLeDiff,Nat.reduceEqDiff,↓reduceIte,Nat.reduceAdd]|((with_reducible refine aQ (uO (by omega) (by omega)) ?_ ?_ ?_);exact rfl;exact rfl)|((with_reducible refine aQ (zCa) ?_ ?_ ?_);exact rfl;exact rfl)|((with_reducible refine aQ (pU _) ?_ ?_ ?_);exact rfl;exact rfl)));(try (exact rfl))))));(simp only [aJ])))))|with_reducible refine aM (fun _=>?_) (fun _=>?_)|((with_reducible refine And.intro ?_ ?_);(focus (first|omega|decide))))
 all_goals (simp_all [AV,zGR,zE2,oA];try omega)
end
section
theorem zAm {t:List It} {a b:List UInt8} (ht:t.length≤400000) (ha:a.length≤1000000000) (hb:b.length≤1000000000) (hq:∀ x∈t,x.p.length≤1000000000):
  aA Tryz.prog 57 [.c (.p (.sl 5 (aT t))),.c (.p (.s a)),.c (.p (.s b))] [] fun r h =>
   r=.tup [.c (.p (.sl 5 (aT (hD t a b).1))),.c (.p (.i .i64 (hD t a b).2))]∧h=[]:=by
 have hrl:=PU t a
 have ha2:a.length≤4611686018427387904:=by omega
 have hb2:b.length≤4611686018427387904:=by omega
 have hq2:∀ x∈t,x.p.length≤9223372036854775807:=fun x hx=>Nat.le_trans (hq x hx) (by omega)
 refine bJ ?_
 refine ent aB aK Tryz.func57 rfl rfl fun X0 hX=>?_
 simp only [Tryz.f57,go_sem]
 repeat' (first|simp only [*,go_sem,Nat.reduceLT,Nat.reduceLeDiff,Nat.reduceEqDiff,↓reduceIte,Nat.reduceAdd]|((with_reducible refine aQ (yN ha) ?_ ?_ ?_);exact rfl;exact rfl)|((with_reducible refine aQ (yN hb) ?_ ?_ ?_);exact rfl;exact rfl)|((with_reducible refine bK (oT (t:=t) (by omega)) ?_ ?_ ?_);exact rfl;exact fun _=>rfl)|((with_reducible refine aQ (vJ ha2 (by omega)) ?_ ?_ ?_);exact rfl;exact rfl)|((with_reducible refine aQ (VB hb2) ?_ ?_ ?_);exact rfl;exact rfl)|((with_reducible refine bK (oE (t:=t) (by omega)) ?_ ?_ ?_);exact rfl;exact fun _=>rfl)|((with_reducible refine bK (wI (t:=t) (by omega) ha2 hq2) ?_ ?_ ?_);exact rfl;exact fun _=>rfl)|with_reducible refine aM (fun _=>?_) (fun _=>?_)|with_reducible refine bF (fun _=>?_) (fun _=>?_))
 all_goals try (simp only [hD, *,Bool.or_false,Bool.or_true,Bool.true_or,↓reduceIte,Bool.false_eq_true,dR];simp;done)
 have hm:hD t a b=dV a b (bN t a) t:=by
  simp only [hD, *,Bool.or_false,↓reduceIte,Bool.false_eq_true]
 rw [hm]
 clear hm
 refine aY aB aK (α:=Nat × List It) (fun x=>⟨96,[(0,.c (.p (.sl 5 (aT t)))),(1,.c (.p (.s a))),(2,.c (.p (.s b))),(12,.c (.p (.sl 5 (aT x.2)))),(13,.c (.p (.i .i64 x.1)))],[]⟩)
  (fun x=>x.1≤t.length∧x.2.length≤t.length+x.1∧dV a b x.2 (t.drop x.1)=dV a b (bN t a) t) (fun x=>t.length-x.1) (0,bN t a) ⟨Nat.zero_le _,by simpa using hrl,rfl⟩ (.inl (aI (by rw [hX];rfl) rfl rfl (by simp [aH,aL,aC,aG,aF]))) ?_
 rintro ⟨k,out⟩ ⟨hk,hol,hl⟩
 simp only at hk hol hl
 by_cases hlt:k<t.length
 ·have hx:t[k]? = some t[k]:=List.getElem?_eq_getElem hlt
  have hg:=cB hx
  have hd:=drop_at hx
  have h1:decide ((k:Int)<(t.length:Int))=true:=decide_eq_true (by omega)
  have w1:IntKind.i64.wrap ((k:Int)+1)=k+1:=wrap_i64 (by omega) (by omega)
  generalize t[k]=x at hx hg hd
  have hxp:=hq x (List.mem_of_getElem? hx)
  have hxp2:x.p.length≤9223372036854775807:=by omega
  rw [hd,dV] at hl
  have hdl:(List.drop a.length x.p).length≤1000000000:=by rw [List.length_drop];omega
  have hsl:=lP out (b++List.drop a.length x.p) x.n
  have main:(!(x.p == a) && !aO a x.p)=false→a.length≤x.p.length:=by
   intro hc
   cases he:(x.p == a)
   ·cases hbl:aO a x.p
    ·simp [he,hbl] at hc
    ·exact dG hbl
   ·rw [eq_of_beq he];exact Nat.le_refl _
  cases he:(!(x.p == a))
  ·have hla:=main (by rw [he];rfl)
   rw [he,Bool.false_and,if_neg (by decide)] at hl
   clear main
   repeat' (first|simp only [*,go_sem,Nat.reduceLT,Nat.reduceLeDiff,Nat.reduceEqDiff,↓reduceIte,Nat.reduceAdd]|((with_reducible refine bK (TN (t:=out) (by omega)) ?_ ?_ ?_);exact rfl;exact fun _=>rfl)|with_reducible refine aM (fun _=>?_) (fun _=>?_)|((with_reducible refine And.intro ?_ ?_);(focus (omega))))
   ·rename_i hb
    rw [if_pos hb] at hl
    simp only [← hl,dR]
    simp
   ·rename_i hb
    rw [if_neg (by rw [hb];decide)] at hl
    exact eM (k+1,qE out (b++List.drop a.length x.p) x.n) ⟨by omega,by simp only;omega,hl⟩ (by simp only;omega) (aI rfl rfl rfl (by simp [aH,aL,aC,aG,aF]))
  ·cases hbl:(!aO a x.p)
   ·have hla:=main (by rw [he,hbl];rfl)
    rw [he,hbl,Bool.true_and,if_neg (by decide)] at hl
    clear main
    repeat' (first|simp only [*,go_sem,Nat.reduceLT,Nat.reduceLeDiff,Nat.reduceEqDiff,↓reduceIte,Nat.reduceAdd]|((with_reducible refine aQ (vJ (p:=a) (q:=x.p) ha2 hxp2) ?_ ?_ ?_);exact rfl;exact rfl)|((with_reducible refine bK (TN (t:=out) (by omega)) ?_ ?_ ?_);exact rfl;exact fun _=>rfl)|with_reducible refine aM (fun _=>?_) (fun _=>?_)|((with_reducible refine And.intro ?_ ?_);(focus (omega))))
    ·rename_i hb
     rw [if_pos hb] at hl
     simp only [← hl,dR]
     simp
    ·rename_i hb
     rw [if_neg (by rw [hb];decide)] at hl
     exact eM (k+1,qE out (b++List.drop a.length x.p) x.n) ⟨by omega,by simp only;omega,hl⟩ (by simp only;omega) (aI rfl rfl rfl (by simp [aH,aL,aC,aG,aF]))
   ·rw [he,hbl,Bool.true_and,if_pos rfl] at hl
    clear main
    repeat' (first|simp only [*,go_sem,Nat.reduceLT,Nat.reduceEqDiff,↓reduceIte]|((with_reducible refine aQ (vJ (p:=a) (q:=x.p) ha2 hxp2) ?_ ?_ ?_);exact rfl;exact rfl)|((with_reducible refine And.intro ?_ ?_);(focus (omega))))
    exact eM (k+1,out) ⟨by omega,by simp only;omega,hl⟩ (by simp only;omega) (aI rfl rfl rfl (by simp [aH,aL,aC,aG,aF]))
 ·have h1:decide ((k:Int)<(t.length:Int))=false:=decide_eq_false (by omega)
  rw [List.drop_of_length_le (by omega)] at hl
  simp only [dV] at hl
  repeat' (simp only [*,go_sem,Nat.reduceLT,Nat.reduceEqDiff,↓reduceIte])
  all_goals trace_state
  all_goals simp only [← hl]
  all_goals simp
theorem zBn {t:List It} {p:List UInt8} {k m:Int} {tt:Nat} (ht:t.length≤1000000-1) (hp:p.length≤1000000000) (hq:∀ x∈t,x.p.length≤9223372036854775807):
  aA Tryz.prog 37 [.c (.p (.sl 5 (aT t))),.c (.p (.s p)),.agg [.p (.i .i64 k),.p (.i .i64 m),.p (.f tt),.p .nil]] [] fun r h =>
   r=.tup [.c (.p (.sl 5 (aT (jQ t p ⟨k,m,tt,[]⟩).1))),.c (.p (.i .i64 (jQ t p ⟨k,m,tt,[]⟩).2))]∧h=[] :=
 aA.wkargs (args':=[.c (.p (.sl 5 (aT t))),.c (.p (.s p)),.agg (ndc k m tt [])]) ⟨wkP.rfl,wkP.rfl,⟨wkP.rfl,wkP.rfl,wkP.rfl,PE,True.intro⟩,True.intro⟩ (NB ht hp hq (Nat.zero_le _))
end
end Go.Proofs.YtbpblnmhlhpebaaGreatDoor
namespace Go.Proofs.YtbpblnmhlhpebaaGreatDoor
open Go Go.Dm Go.Proofs
section
open Go Go.Dm
theorem jK {a b:List UInt8}:aA Tryz.prog 102 [.c (.p (.s a)),.c (.p (.s b))] [] fun r h=>r=.c (.p (.i .i64 (GY a b)))∧h=[]:=by
 rw [← nA]
 exact PD (enters Tryz.func102 rfl rfl) (fun a b w=>Tryz.strings_Compare a b w)
theorem zK9 {h:aD} {id:Nat} {ss:List (List UInt8)} (hid:h[id]? = some (.arr 1 (Go.Dm.encS ss) false)) (hsz:ss.length<4611686018427387904):
  aA Tryz.prog 133 [.c (.own id 0 ss.length)] h fun d h'=>d=.tup []∧h'=h.set id (.arr 1 (Go.Dm.encS (ss.mergeSort fun x y=>decide (x≤y))) false) :=
 PO (enters Tryz.func133 rfl rfl) (fun blk off cap ss w h1 h2 h3=>Tryz.slices_Sort_string blk off cap ss w h1 h2 h3) (fun p cap w=>Tryz.slices_Sort_string_none p cap w) hid hsz
theorem zCY {q:List UInt8} {k m:Int} {tt:Nat} {d p:List UInt8}:aA Tryz.prog 279 [.agg [.p (.s q),.p (.i .i64 k),.p (.i .i64 m),.p (.f tt),.p (.sl 1 (bT d))],.c (.p (.s p))] [] fun r h=>r=.c (.p (.i .i64 (GY q p)))∧h=[]:=by
 refine ent aB aK Tryz.func279 rfl rfl fun X0 hX=>?_
 simp only [Tryz.f279,go_sem]
 repeat' (first|simp only [*,go_sem,Nat.reduceLT,Nat.reduceEqDiff,↓reduceIte]|((with_reducible refine aQ (jK) ?_ ?_ ?_);exact rfl;exact rfl))
def EZ (t:List It) (p:List UInt8) (i:Nat):Prop:=i≤t.length∧∀ k x,t[k]? = some x→(k<i→bO x.p p=true)∧(i≤k→bO x.p p=false)
def fL (t:List It) (p:List UInt8) (i:Nat):Bool:=match t[i]? with
 | some x=>x.p == p
 | none=>false
def lQ (t:List It) (p:List UInt8) (i:Nat):DV:=.tup [.c (.p (.i .i64 i)),.c (.p (.b (fL t p i)))]
theorem LN {p:List UInt8}:∀ {t:List It},(∀ x∈t,(x.p == p)=false)→aR t p=none
 | [],_=>rfl
 | x::r,h=>by
  rw [aR,if_neg (by rw [h x List.mem_cons_self];decide)]
  exact LN fun y hy=>h y (List.mem_cons_of_mem _ hy)
theorem GD {p:List UInt8}:∀ {t:List It} {k:Nat} {x:It},Srt t→t[k]? = some x→(x.p == p)=true→aR t p=some x.n
 | [],k,x,_,h,_=>by simp at h
 | y::r,0,x,_,h,hp=>by
  simp only [List.getElem?_cons_zero,Option.some.injEq] at h
  subst h
  rw [aR,if_pos hp]
 | y::r,k+1,x,hs,h,hp=>by
  simp only [List.getElem?_cons_succ] at h
  have hs:=List.pairwise_cons.1 hs
  have:=hs.1 x (List.mem_of_getElem? h)
  rw [eq_of_beq hp] at this
  rw [aR,if_neg (by rw [jP this];decide)]
  exact GD hs.2 h hp
theorem RE {t:List It} {p:List UInt8} {i:Nat} (hs:Srt t) (h:EZ t p i) (hf:fL t p i=false):aR t p=none:=by
 refine LN fun x hx=>?_
 obtain ⟨k,hk⟩:=List.getElem?_of_mem hx
 cases he:x.p == p
 ·rfl
 ·have h1:=h.2 k x hk
  rcases Nat.lt_trichotomy k i with hki|rfl|hki
  ·have:=h1.1 hki;rw [eq_of_beq he,cM] at this;cases this
  ·unfold fL at hf;rw [hk] at hf;simp only at hf;rw [he] at hf;cases hf
  ·have hil:i<t.length:=Nat.lt_trans hki (List.getElem?_eq_some_iff.1 hk).1
   have h2:=h.2 i t[i] (List.getElem?_eq_getElem hil)
   have h3:=List.pairwise_iff_getElem.1 hs i k hil (List.getElem?_eq_some_iff.1 hk).1 hki
   rw [(List.getElem?_eq_some_iff.1 hk).2,eq_of_beq he,h2.2 (Nat.le_refl _)] at h3;cases h3
theorem zB3 {t:List It} {p:List UInt8} (ht:t.length≤1000000) (hs:Srt t):
  aA Tryz.prog 278 [.c (.p (.sl 5 (aT t))),.c (.p (.s p)),.c (.clo 279 [])] [] fun r h =>
   ∃ i:Nat,EZ t p i∧r=lQ t p i∧h=[]:=by
 have hmon:∀ (k k':Nat) (x x':It),t[k]? = some x→t[k']? = some x'→k<k'→bO x.p x'.p=true:=fun k k' x x' h1 h2 h3=>by
  obtain ⟨h4,rfl⟩:=List.getElem?_eq_some_iff.1 h1
  obtain ⟨h5,rfl⟩:=List.getElem?_eq_some_iff.1 h2
  exact List.pairwise_iff_getElem.1 hs _ _ h4 h5 h3
 refine ent aB aK Tryz.func278 rfl rfl fun X0 hX=>?_
 simp only [Tryz.f278,go_sem]
 repeat' (simp only [*,go_sem,Nat.reduceLT,Nat.reduceEqDiff,↓reduceIte,Nat.reduceAdd])
 refine aY aB aK (α:=Nat × Nat) (fun x=>⟨49,[(0,.c (.p (.sl 5 (aT t)))),(1,.c (.p (.s p))),(2,.c (.clo 279 [])),(8,.c (.p (.i .i64 t.length))),(9,.c (.p (.i .i64 x.1))),(10,.c (.p (.i .i64 x.2)))],[]⟩)
  (fun x=>x.1≤x.2∧x.2≤t.length∧∀ k y,t[k]? = some y→(k<x.1→bO y.p p=true)∧(x.2≤k→bO y.p p=false)) (fun x=>x.2-x.1) (0,t.length) ⟨Nat.zero_le _,Nat.le_refl _,fun k y hy=>⟨fun h=>by omega,fun h=>by rw [List.getElem?_eq_none h] at hy;cases hy⟩⟩ (.inl (aI (by rw [hX];rfl) rfl rfl (by simp [aH,aL,aC,aG,aF]))) ?_
 rintro ⟨i,j⟩ ⟨hij,hj,hl⟩
 simp only at hij hj hl
 by_cases hlt:i<j
 ·have h1:decide ((i:Int)<(j:Int))=true:=decide_eq_true (by omega)
  have w1:IntKind.i64.wrap ((i:Int)+j)=(i:Int)+j:=wrap_i64 (by omega) (by omega)
  have w2:IntKind.u64.wrap ((i:Int)+j)=(i:Int)+j:=wrap_u64 (by omega) (by omega)
  obtain ⟨m,hm,hmi,hmj⟩:∃ m:Nat,((i:Int)+j).fdiv (2 ^ min 1 64)=(m:Int)∧i≤m∧m<j :=
   ⟨(i+j) / 2,by rw [show (2:Int) ^ min 1 64=2 from rfl,Int.fdiv_eq_ediv_of_nonneg _ (by decide)];omega,by omega,by omega⟩
  have w3:IntKind.i64.wrap (m:Int)=m:=wrap_i64 (by omega) (by omega)
  have w4:IntKind.i64.wrap ((m:Int)+1)=m+1:=wrap_i64 (by omega) (by omega)
  have hml:m<t.length:=by omega
  have hx:t[m]? = some t[m]:=List.getElem?_eq_getElem hml
  have hg:=cB hx
  generalize t[m]=x at hx hg
  repeat' (first|simp only [*,go_sem,Nat.reduceLT,Nat.reduceLeDiff,Nat.reduceEqDiff,↓reduceIte,Nat.reduceAdd,Int.reduceLE,Int.reduceToNat]|((with_reducible refine aQ (zCY) ?_ ?_ ?_);exact rfl;exact rfl)|with_reducible refine aM (fun _=>?_) (fun _=>?_)|((with_reducible refine And.intro ?_ ?_);(focus (omega))))
  ·rename_i hb
   have hb:bO x.p p=true:=by rw [← pD];exact hb
   exact eM (m+1,j) ⟨by simp only;omega,hj,fun k y hy=>⟨fun hk=>by
    rcases Nat.lt_or_ge k m with h|h
    ·exact cD (hmon _ _ _ _ hy hx h) hb
    ·have:k=m:=by simp only at hk;omega
     subst this;rw [hx] at hy;cases hy;exact hb,(hl k y hy).2⟩⟩ (by simp only;omega) (aI rfl rfl rfl (by simp [aH,aL,aC,aG,aF]))
  ·rename_i hb
   have hb:bO x.p p=false:=by rw [← pD];exact hb
   exact eM (i,m) ⟨hmi,by simp only;omega,fun k y hy=>⟨(hl k y hy).1,fun hk=>by
    rcases Nat.lt_or_ge m k with h|h
    ·cases hc:bO y.p p
     ·rfl
     ·have:=cD (hmon _ _ _ _ hx hy h) hc
      rw [hb] at this;cases this
    ·have:k=m:=by simp only at hk;omega
     subst this;rw [hx] at hy;cases hy;exact hb⟩⟩ (by simp only;omega) (aI rfl rfl rfl (by simp [aH,aL,aC,aG,aF]))
 ·have h1:decide ((i:Int)<(j:Int))=false:=decide_eq_false (by omega)
  have:i=j:=by omega
  subst this
  by_cases hil:i<t.length
  ·have hx:t[i]? = some t[i]:=List.getElem?_eq_getElem hil
   have hg:=cB hx
   have h2:decide ((i:Int)<(t.length:Int))=true:=decide_eq_true (by omega)
   generalize t[i]=x at hx hg
   repeat' (first|simp only [*,go_sem,Nat.reduceLT,Nat.reduceLeDiff,Nat.reduceEqDiff,↓reduceIte,Nat.reduceAdd]|((with_reducible refine aQ (zCY) ?_ ?_ ?_);exact rfl;exact rfl)|((with_reducible refine And.intro ?_ ?_);(focus (omega))))
   refine ⟨i,⟨hj,hl⟩,?_⟩
   simp only [lQ,fL,hx,RZ]
  ·have h2:decide ((i:Int)<(t.length:Int))=false:=decide_eq_false (by omega)
   repeat' (simp only [*,go_sem,Nat.reduceLT,Nat.reduceEqDiff,↓reduceIte])
   refine ⟨i,⟨hj,hl⟩,?_⟩
   simp only [lQ,fL,List.getElem?_eq_none (Nat.le_of_not_lt hil)]
theorem ME {t:List It} {p:List UInt8} (ht:t.length≤1000000) (hs:Srt t):
  aA Tryz.prog 205 [.c (.p (.sl 5 (aT t))),.c (.p (.s p))] [] fun r h=>∃ i:Nat,EZ t p i∧r=lQ t p i∧h=[]:=by
 refine ent aB aK Tryz.func205 rfl rfl fun X0 hX=>?_
 simp only [Tryz.f205,go_sem]
 repeat' (simp only [*,go_sem,Nat.reduceLT,Nat.reduceEqDiff,↓reduceIte])
 refine zDB (zB3 ht hs) rfl (fun _ _=>rfl) fun i hi=>?_
 unfold lQ
 repeat' (simp only [*,go_sem,Nat.reduceLT,Nat.reduceEqDiff,↓reduceIte])
 exact ⟨i,hi,rfl⟩
theorem iY {t:List It} {p:List UInt8} (ht:t.length≤1000000) (hs:Srt t) (hne:∀ x∈t,x.p≠[]) (hdl:∀ x∈t,x.n.d.length≤140737488355328):
  aA Tryz.prog 128 [.c (.p (.sl 5 (aT t))),.c (.p (.s p))] [] fun r h=>r=.tup [.agg ((aR t p).getD nd0).cv,.c (.p (.b (aR t p).isSome))]∧h=[]:=by
 refine bJ ?_
 refine ent aB aK Tryz.func128 rfl rfl fun X0 hX=>?_
 simp only [Tryz.f128,go_sem]
 repeat' (simp only [*,go_sem,Nat.reduceLT,Nat.reduceEqDiff,↓reduceIte])
 refine zDB (ME ht hs) rfl (fun _ _=>rfl) fun i hi=>?_
 unfold lQ
 cases hf:fL t p i
 ·have hg:=RE hs hi hf
  rw [hg]
  repeat' (simp only [*,go_sem,Nat.reduceLT,Nat.reduceLeDiff,Nat.reduceEqDiff,↓reduceIte,Nat.reduceAdd])
  all_goals simp [nd0,oA]
 ·unfold fL at hf
  cases hx:t[i]? with
  | none=>rw [hx] at hf;cases hf
  | some x =>
   rw [hx] at hf
   simp only at hf
   have hg:=GD hs hx hf
   have hxm:=List.mem_of_getElem? hx
   have hpe:(p == [])=false:=by
    rw [← eq_of_beq hf]
    have:=hne x hxm
    simpa using this
   have he:=cB hx
   have hil:i<t.length:=(List.getElem?_eq_some_iff.1 hx).1
   have hxd:=hdl x hxm
   rw [hg]
   clear hg
   repeat' (first|simp only [*,go_sem,Nat.reduceLT,Nat.reduceLeDiff,Nat.reduceEqDiff,↓reduceIte,Nat.reduceAdd]|((with_reducible refine bK (zK hxd) ?_ ?_ ?_);exact rfl;exact fun _=>rfl)|((with_reducible refine And.intro ?_ ?_);(focus (omega))))
   all_goals simp
theorem zLg {k m k' m':Int} {t t':Nat} {d d':List UInt8} (p q:Bool):aA Tryz.prog 135 [.agg (ndc k m t d),.agg (ndc k' m' t' d'),.c (.p (.b p)),.c (.p (.b q))] [] fun r h=>r=.c (.p (.i .i64 (iQ p q ⟨k,m,t,d⟩ ⟨k',m',t',d'⟩)))∧h=[]:=by
 cases p <;> cases q
 all_goals
  refine ent aB aK Tryz.func135 rfl rfl fun X0 hX=>?_
  simp only [Tryz.f135,go_sem]
 all_goals repeat' (first|simp only [*,go_sem,Nat.reduceLT,Nat.reduceLeDiff,Nat.reduceEqDiff,↓reduceIte,Nat.reduceAdd]|((with_reducible refine aQ (vH) ?_ ?_ ?_);exact rfl;exact rfl)|((with_reducible refine aQ (uB) ?_ ?_ ?_);exact rfl;exact rfl)|with_reducible refine aM (fun _=>?_) (fun _=>?_))
 all_goals simp only [iQ, *,↓reduceIte,Bool.false_eq_true]
end
end Go.Proofs.YtbpblnmhlhpebaaGreatDoor
namespace Go.Proofs.YtbpblnmhlhpebaaGreatDoor
open Go Go.Dm
section
theorem mU {a:List UInt8} {c:Int} (ha:a.length<4611686018427387904):aA Tryz.prog 246 [.c (.p (.s a)),.c (.p (.i .u8 c))] [] fun r h=>r=.c (.p (.i .i64 (Lib.lastIndexByte ⟨a.toArray⟩ c)))∧h=[] :=
 oU (N:=4611686018427387904) (g:=fun a c=>Lib.lastIndexByte ⟨a.toArray⟩ c) (enters Tryz.func246 rfl rfl) (fun a c w h=>Tryz.strings_LastIndexByte ⟨a.toArray⟩ c (by simpa [ByteArray.size] using h) w) ha
theorem PH {a b:List UInt8}:aA Tryz.prog 323 [.c (.p (.s a)),.c (.p (.s b))] [] fun r h=>r=.c (.p (.b (b.isPrefixOf a)))∧h=[] :=
 AW (g:=fun a b=>b.isPrefixOf a) (enters Tryz.func323 rfl rfl) (fun a b w=>Tryz.strings_HasPrefix a b w)
theorem dO {p:List UInt8} (hp:p.length≤1000000000):aA Tryz.prog 172 [.c (.p (.s p))] [] fun r h=>r=.c (.p (.s (aS p)))∧h=[]:=by
 have hl:=mU (a:=p) (c:=47) (by omega)
 rw [mE] at hl
 unfold aS
 cases hs:cZ p p.length with
 | none =>
  rw [hs] at hl
  simp only at hl ⊢
  clear hs
  refine ent aB aK Tryz.func172 rfl rfl fun X0 hX=>?_
  simp only [Tryz.f172,go_sem]
  repeat' (first|simp only [*,go_sem,Nat.reduceLT,Nat.reduceEqDiff,↓reduceIte,Int.reduceLT,Int.reduceLE,Int.reduceNeg,Int.reduceToNat]|((with_reducible refine aQ (hl) ?_ ?_ ?_);exact rfl;exact rfl))
  all_goals simp
 | some j =>
  rw [hs] at hl
  have hj:=uG hs
  have hm:max (0:Int) (j:Int)=j:=by omega
  simp only at hl ⊢
  clear hs
  have hj2:(j:Int)≤p.length:=by omega
  have hj3:(0:Int)≤j:=by omega
  have hj4:(if (0:Int)<(j:Int) then (j:Int) else 0)=j:=by split <;> omega
  refine ent aB aK Tryz.func172 rfl rfl fun X0 hX=>?_
  simp only [Tryz.f172,go_sem]
  repeat' (first|simp only [*,go_sem,Nat.reduceLT,Nat.reduceEqDiff,↓reduceIte,Int.reduceLE,Int.reduceToNat]|((with_reducible refine aQ (hl) ?_ ?_ ?_);exact rfl;exact rfl))
  all_goals first|(rw [hj4];done)|(rw [hj4];omega)|(rw [hj4];rfl)|skip
theorem XV {p:List UInt8} (hp:p.length≤1000000000):aA Tryz.prog 252 [.c (.p (.s p))] [] fun r h=>r=.c (.p (.s (uW p)))∧h=[]:=by
 have hl:=mU (a:=p) (c:=47) (by omega)
 rw [mE] at hl
 unfold uW
 cases hs:cZ p p.length with
 | none =>
  rw [hs] at hl
  simp only at hl ⊢
  clear hs
  have w1:IntKind.i64.wrap (-1+1)=0:=by decide +kernel
  refine ent aB aK Tryz.func252 rfl rfl fun X0 hX=>?_
  simp only [Tryz.f252,go_sem]
  repeat' (first|simp only [*,go_sem,Nat.reduceLT,Nat.reduceEqDiff,↓reduceIte,Int.reduceLE,Int.reduceAdd,Int.reduceNeg,Int.reduceToNat]|((with_reducible refine aQ (hl) ?_ ?_ ?_);exact rfl;exact rfl)|((with_reducible refine And.intro ?_ ?_);(focus (omega))))
  all_goals simp
 | some j =>
  rw [hs] at hl
  have hj:=uG hs
  have w1:IntKind.i64.wrap ((j:Int)+1)=(j+1:Nat):=wrap_i64 (by omega) (by omega)
  simp only at hl ⊢
  clear hs
  have hj2:((j+1:Nat):Int)≤p.length:=by omega
  refine ent aB aK Tryz.func252 rfl rfl fun X0 hX=>?_
  simp only [Tryz.f252,go_sem]
  repeat' (first|simp only [*,go_sem,Nat.reduceLT,Nat.reduceEqDiff,↓reduceIte]|((with_reducible refine aQ (hl) ?_ ?_ ?_);exact rfl;exact rfl)|((with_reducible refine And.intro ?_ ?_);(focus (omega))))
  all_goals simp
theorem cI {p q:List UInt8} (hpl:p.length≤1000000000):aA Tryz.prog 257 [.c (.p (.s p)),.c (.p (.s q))] [] fun r h=>r=.c (.p (.b (aO p q)))∧h=[]:=by
 by_cases hp:p=[]
 ·subst hp
  refine ent aB aK Tryz.func257 rfl rfl fun X0 hX=>?_
  simp only [Tryz.f257,go_sem]
  repeat' (simp only [*,go_sem,Nat.reduceLT,Nat.reduceEqDiff,↓reduceIte,beq_self_eq_true])
  all_goals simp [aO]
 ·have q0:(p == [])=false:=by simpa using hp
  have hb:=MD (q:=q) hp
  refine ent aB aK Tryz.func257 rfl rfl fun X0 hX=>?_
  simp only [Tryz.f257,go_sem]
  repeat' (first|simp only [*,go_sem,Nat.reduceLT,Nat.reduceLeDiff,Nat.reduceEqDiff,↓reduceIte]|((with_reducible refine aQ (PH) ?_ ?_ ?_);exact rfl;exact rfl)|((with_reducible refine And.intro ?_ ?_);(focus (omega))))
theorem eF {t:List It} {p:List UInt8} (ht:t.length≤1000000) (hs:Srt t):
  aA Tryz.prog 171 [.c (.p (.sl 5 (aT t))),.c (.p (.s p))] [] fun r h=>r=.c (.p (.b (aW t p)))∧h=[]:=by
 refine ent aB aK Tryz.func171 rfl rfl fun X0 hX=>?_
 simp only [Tryz.f171,go_sem]
 repeat' (simp only [*,go_sem,Nat.reduceLT,Nat.reduceEqDiff,↓reduceIte])
 refine zDB (ME ht hs) rfl (fun _ _=>rfl) fun i hi=>?_
 unfold lQ aW
 cases hf:fL t p i
 ·have hg:=RE hs hi hf
  rw [hg]
  cases q:(p == [])
  ·repeat' (simp only [*,go_sem,Nat.reduceLT,Nat.reduceEqDiff,↓reduceIte])
  ·repeat' (simp only [*,go_sem,Nat.reduceLT,Nat.reduceEqDiff,↓reduceIte])
 ·unfold fL at hf
  cases hx:t[i]? with
  | none=>rw [hx] at hf;cases hf
  | some x =>
   rw [hx] at hf
   simp only at hf
   have hg:=GD hs hx hf
   have he:=cB hx
   have hil:(i:Int)<t.length:=by have:=(List.getElem?_eq_some_iff.1 hx).1;omega
   have hi0:(0:Int)≤i:=by omega
   rw [hg]
   clear hg hf hi
   cases q:(p == [])
   ·repeat' (simp only [*,go_sem,Nat.reduceLT,Nat.reduceEqDiff,↓reduceIte])
   ·repeat' (simp only [*,go_sem,Nat.reduceLT,Nat.reduceEqDiff,↓reduceIte])
end
end Go.Proofs.YtbpblnmhlhpebaaGreatDoor
namespace Go.Dm
open Go
section
def zKg (x:List It × Int):Prop:=(x.2=0→OkT x.1)∧(x.2≠0→x.1=[])
theorem zKg.len {x:List It × Int} (h:zKg x):x.1.length≤1000000:=by
 by_cases h0:x.2=0
 ·exact Nat.le_trans (h.1 h0).len (by decide)
 ·rw [h.2 h0];simp
end
end Go.Dm
