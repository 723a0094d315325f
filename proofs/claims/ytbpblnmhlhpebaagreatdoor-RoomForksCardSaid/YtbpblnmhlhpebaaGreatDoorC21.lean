/- Part 22 of the proof of roomForks_card, set without needless blanks. No condition. -/
import Derived.Test.YtbpblnmhlhpebaaGreatDoorC20
import Derived.Test.YtbpblnmhlhpebaaGreatDoorC07
set_option linter.unusedSimpArgs false
set_option linter.unusedVariables false
set_option maxRecDepth 100000
set_option maxHeartbeats 4000000
namespace Go.Proofs.YtbpblnmhlhpebaaGreatDoor
open Go Go.Dm
section
theorem vJ {p q:List UInt8} (hp:p.length≤4611686018427387904) (hq:q.length≤9223372036854775807):aA Tryz.prog 117 [.c (.p (.s p)),.c (.p (.s q))] [] fun r h=>r=.c (.p (.b (aO p q)))∧h=[]:=by
 have w1:IntKind.i64.wrap ((p.length:Int)+1)=p.length+1:=wrap_i64 (by omega) (by omega)
 refine ent aB aK Tryz.func117 rfl rfl fun X0 hX=>?_
 simp only [Tryz.f117,go_sem]
 repeat' (first|simp only [*,go_sem,Nat.reduceLT,Nat.reduceLeDiff,Nat.reduceEqDiff,↓reduceIte,Int.reduceLE,Int.reduceToNat]|with_reducible refine aM (fun _=>?_) (fun _=>?_)|with_reducible refine bF (fun _=>?_) (fun _=>?_)|((with_reducible refine And.intro ?_ ?_);(focus (first|omega|(simp only [decide_eq_true_eq] at *;omega)))))
 all_goals (simp_all [aO];try (intro _;omega))
theorem wE {t:List It} {p:List UInt8} (ht:t.length≤1000000) (hp:p.length≤4611686018427387904) (hq:∀ x∈t,x.p.length≤9223372036854775807):
  aA Tryz.prog 93 [.c (.p (.sl 5 (aT t))),.c (.p (.s p))] [] fun r h=>r=.c (.p (.sl 5 (aT (bD t p))))∧h=[]:=by
 refine ent aB aK Tryz.func93 rfl rfl fun X0 hX=>?_
 simp only [Tryz.f93,go_sem]
 repeat' (simp only [*,go_sem,Nat.reduceLT])
 refine jW aB aK 5 5 rfl ?_
 refine aY aB aK (α:=Nat × List It) (fun x=>⟨29,[(0,.c (.p (.sl 5 (aT t)))),(1,.c (.p (.s p))),(5,.c (.own 0 0 x.2.length)),(6,.c (.p (.i .i64 x.1)))],[.arr 5 (aT x.2) false]⟩)
  (fun x=>x.1≤t.length∧x.2.length≤x.1∧x.2++bD (t.drop x.1) p=bD t p) (fun x=>t.length-x.1) (0,[]) ?_ ?_ ?_
 ·exact ⟨Nat.zero_le _,Nat.le_refl _,by simp⟩
 ·refine .inl (aI (by rw [hX];rfl) rfl rfl ?_)
  simp [aH,aL,aC,aG,aF]
 ·rintro ⟨k,out⟩ ⟨hk,hol,hout⟩
  simp only at hk hol hout
  by_cases hlt:k<t.length
  ·have hx:t[k]? = some t[k]:=List.getElem?_eq_getElem hlt
   have hg:=cB hx
   have hd:=drop_at hx
   have h1:decide ((k:Int)<(t.length:Int))=true:=decide_eq_true (by omega)
   have w1:IntKind.i64.wrap ((k:Int)+1)=k+1:=wrap_i64 (by omega) (by omega)
   generalize t[k]=x at hx hg hd
   have hxp:=hq x (List.mem_of_getElem? hx)
   repeat' (first|simp only [*,go_sem,Nat.reduceLT,Nat.reduceLeDiff,Nat.reduceEqDiff,↓reduceIte,Nat.reduceAdd,Nat.reduceMul,Nat.reduceBEq]|((with_reducible refine aQ (vJ hp hxp) ?_ ?_ ?_);exact rfl;exact rfl)|with_reducible refine aM (fun _=>?_) (fun _=>?_)|((with_reducible refine And.intro ?_ ?_);(focus (first|omega|decide))))
   ·refine fW (k+1,out++[x]) 0 2 ⟨by omega,by simp;omega,?_⟩ (by simp;omega) rfl rfl (aI rfl rfl rfl ?_)
    ·rw [← hout,hd]
     have hb:aO p x.p=false:=by simpa using ‹(!aO p x.p)=true›
     simp [bD,hb]
    ·simp [aH,aL,aC,aG,aF,tG,sF,sU]
   ·refine eM (k+1,out) ⟨by omega,by simp;omega,?_⟩ (by simp;omega) (aI rfl rfl rfl ?_)
    ·rw [← hout,hd]
     have hb:aO p x.p=true:=by simpa using ‹(!aO p x.p)=false›
     simp [bD,hb]
    ·simp [aH,aL,aC,aG,aF]
  ·have h1:decide ((k:Int)<(t.length:Int))=false:=decide_eq_false (by omega)
   repeat' (simp only [*,go_sem,Nat.reduceLT,Nat.reduceEqDiff,↓reduceIte])
   have:k=t.length:=by omega
   subst this
   rw [List.drop_length] at hout
   rw [← hout]
   simp [bD]
theorem VB {p:List UInt8} (hp:p.length≤4611686018427387904):aA Tryz.prog 92 [.c (.p (.s p))] [] fun r h=>r=.c (.p (.s (aS p)))∧h=[]:=by
 have w0:IntKind.i64.wrap ((p.length:Int)-1)=p.length-1:=wrap_i64 (by omega) (by omega)
 refine ent aB aK Tryz.func92 rfl rfl fun X0 hX=>?_
 simp only [Tryz.f92,go_sem]
 repeat' (simp only [*,go_sem,Nat.reduceLT,Nat.reduceEqDiff,↓reduceIte])
 refine aY aB aK (α:=Nat) (fun j=>⟨18,[(0,.c (.p (.s p))),(3,.c (.p (.i .i64 ((j:Int)-1))))],[]⟩) (fun j=>j≤p.length∧cZ p j=cZ p p.length) (fun j=>j) p.length ⟨Nat.le_refl _,rfl⟩ (.inl (aI (by rw [hX];rfl) rfl rfl (by simp [aH,aL,aC,aG,aF]))) ?_
 rintro (_|j) ⟨hj,hl⟩
 ·repeat' (simp only [*,go_sem,Nat.reduceLT,Nat.reduceEqDiff,↓reduceIte,Int.reduceLE,Int.reduceSub,Int.reduceNeg])
  simp only [aS,← hl,cZ]
 ·have e1:((j+1:Nat):Int)-1=j:=by omega
  have w1:IntKind.i64.wrap ((j:Int)-1)=j-1:=wrap_i64 (by omega) (by omega)
  have d1:decide ((0:Int)≤j)=true:=decide_eq_true (by omega)
  simp only [cZ] at hl
  repeat' (first|simp only [*,go_sem,Nat.reduceLT,Nat.reduceEqDiff,↓reduceIte,Int.reduceLE,Int.reduceToNat]|with_reducible refine aM (fun _=>?_) (fun _=>?_)|((with_reducible refine And.intro ?_ ?_);(focus (omega))))
  ·rename_i hb
   rw [if_pos hb] at hl
   simp only [aS,← hl]
  ·rename_i hb
   rw [if_neg (by rw [hb];decide)] at hl
   exact eM j ⟨by omega,hl⟩ (by omega) (aI rfl rfl rfl (by simp [aH,aL,aC,aG,aF]))
theorem JJ {s:List UInt8} (hs:s.length≤4611686018427387904):aA Tryz.prog 160 [.c (.p (.s s))] [] fun r h=>r=.c (.p (.b (aX s)))∧h=[]:=by
 refine ent aB aK Tryz.func160 rfl rfl fun X0 hX=>?_
 simp only [Tryz.f160,go_sem]
 repeat' (simp only [*,go_sem,Nat.reduceLT])
 refine aY aB aK (α:=Nat) (fun k=>⟨36,[(0,.c (.p (.s s))),(3,.c (.p (.i .i64 k)))],[]⟩) (fun k=>k≤s.length∧(s.drop k).all nJ=s.all nJ) (fun k=>s.length-k) 0 ⟨Nat.zero_le _,rfl⟩ (.inl (aI (by rw [hX];rfl) rfl rfl (by simp [aH,aL,aC,aG,aF]))) ?_
 rintro k ⟨hk,hl⟩
 by_cases hlt:k<s.length
 ·have hx:s[k]? = some s[k]:=List.getElem?_eq_getElem hlt
  have hg:=NZ hx
  have hd:=drop_at hx
  have h1:decide ((k:Int)<(s.length:Int))=true:=decide_eq_true (by omega)
  have w1:IntKind.i64.wrap ((k:Int)+1)=k+1:=wrap_i64 (by omega) (by omega)
  generalize s[k]=x at hx hg hd
  rw [hd,List.all_cons] at hl
  repeat' (first|simp only [*,go_sem,Nat.reduceLT,Nat.reduceEqDiff,↓reduceIte]|with_reducible refine aM (fun _=>?_) (fun _=>?_)|with_reducible refine bF (fun _=>?_) (fun _=>?_)|((with_reducible refine And.intro ?_ ?_);(focus (omega))))
  ·have:nJ x=false:=by simp_all [nJ]
   simp only [aX,← hl,this,Bool.false_and]
  ·have:nJ x=false:=by simp_all [nJ]
   simp only [aX,← hl,this,Bool.false_and]
  ·have:nJ x=true:=by simp_all [nJ]
   rw [this,Bool.true_and] at hl
   exact eM (k+1) ⟨by omega,hl⟩ (by omega) (aI rfl rfl rfl (by simp [aH,aL,aC,aG,aF]))
 ·have h1:decide ((k:Int)<(s.length:Int))=false:=decide_eq_false (by omega)
  rw [List.drop_of_length_le (by omega),List.all_nil] at hl
  unfold aX
  rw [← hl]
  clear hl
  repeat' (first|simp only [*,go_sem,Nat.reduceLT,Nat.reduceEqDiff,↓reduceIte]|with_reducible refine bF (fun _=>?_) (fun _=>?_))
  all_goals simp only [*,Bool.true_and,Bool.and_true,Bool.and_false,Bool.false_and,Bool.not_false,Bool.not_true]
theorem zKn {s:List UInt8} (hs:s.length≤1000000000):aA Tryz.prog 159 [.c (.p (.s s))] [] fun r h=>r=.c (.p (.sl 1 (encS (oL s))))∧h=[]:=by
 refine ent aB aK Tryz.func159 rfl rfl fun X0 hX=>?_
 simp only [Tryz.f159,go_sem]
 repeat' (simp only [*,go_sem,Nat.reduceLT])
 refine jW aB aK 3 1 rfl ?_
 refine aY aB aK (α:=Nat × List (List UInt8) × List UInt8) (fun x=>⟨31,[(0,.c (.p (.s s))),(3,.c (.own 0 0 x.2.1.length)),(4,.c (.p (.s x.2.2))),(5,.c (.p (.i .i64 x.1)))],[.arr 1 (encS x.2.1) false]⟩)
  (fun x=>x.1≤s.length∧x.2.1.length≤x.1∧x.2.2.length≤x.1∧x.2.1++vS x.2.2 (s.drop x.1)=oL s) (fun x=>s.length-x.1) (0,[],[]) ⟨Nat.zero_le _,Nat.le_refl _,Nat.le_refl _,by simp [oL]⟩ (.inl (aI (by rw [hX];rfl) rfl rfl (by simp [aH,aL,aC,aG,aF,lS]))) ?_
 rintro ⟨k,out,w⟩ ⟨hk,hol,hwl,hl⟩
 simp only at hk hol hwl hl
 by_cases hlt:k<s.length
 ·have hx:s[k]? = some s[k]:=List.getElem?_eq_getElem hlt
  have hg:=NZ hx
  have hd:=drop_at hx
  have h1:decide ((k:Int)<(s.length:Int))=true:=decide_eq_true (by omega)
  have w1:IntKind.i64.wrap ((k:Int)+1)=k+1:=wrap_i64 (by omega) (by omega)
  have ho:=zK0 hx
  generalize s[k]=x at hx hg hd ho
  rw [hd] at hl
  simp only [vS] at hl
  repeat' (first|simp only [*,go_sem,Nat.reduceLT,Nat.reduceLeDiff,Nat.reduceEqDiff,↓reduceIte,Nat.reduceAdd,Nat.reduceBEq]|with_reducible refine aM (fun _=>?_) (fun _=>?_)|((with_reducible refine And.intro ?_ ?_);(focus (first|omega|decide))))
  ·rename_i hb
   rw [if_pos hb] at hl
   exact fW (k+1,out++[w],[]) 0 2 ⟨by omega,by simp;omega,by simp,by simpa using hl⟩ (by simp;omega) rfl rfl (aI rfl rfl rfl (by simp [aH,aL,aC,aG,aF,tG,sF,sU]))
  ·rename_i hb
   rw [if_neg (by rw [hb];decide)] at hl
   exact eM (k+1,out,w++[x]) ⟨by omega,by simp;omega,by simp;omega,hl⟩ (by simp;omega) (aI rfl rfl rfl (by simp [aH,aL,aC,aG,aF]))
 ·have h1:decide ((k:Int)<(s.length:Int))=false:=decide_eq_false (by omega)
  rw [List.drop_of_length_le (by omega)] at hl
  simp only [vS] at hl
  have hl2:(oL s).length=out.length+1:=by rw [← hl];simp
  repeat' (first|simp only [*,go_sem,Nat.reduceLT,Nat.reduceLeDiff,Nat.reduceEqDiff,↓reduceIte,Nat.reduceAdd,Nat.reduceBEq]|((with_reducible refine And.intro ?_ ?_);(focus (first|omega|decide))))
  all_goals rw [List.take_of_length_le (by omega)]
theorem yN {p:List UInt8} (hp:p.length≤1000000000):aA Tryz.prog 90 [.c (.p (.s p))] [] fun r h=>r=.c (.p (.b (bV p)))∧h=[]:=by
 have hcl:(oL p).length≤p.length+1:=nY p []
 refine ent aB aK Tryz.func90 rfl rfl fun X0 hX=>?_
 simp only [Tryz.f90,go_sem]
 repeat' (first|simp only [*,go_sem,Nat.reduceLT,Nat.reduceEqDiff,↓reduceIte]|((with_reducible refine bK (zKn hp) ?_ ?_ ?_);exact rfl;exact fun _=>rfl)|with_reducible refine aM (fun _=>?_) (fun _=>?_))
 ·rename_i h0
  simp only [bV,h0,Bool.true_or]
 rename_i h0
 refine aY aB aK (α:=Nat) (fun k=>⟨24,[(0,.c (.p (.s p))),(3,.c (.p (.sl 1 (encS (oL p))))),(4,.c (.p (.i .i64 k)))],[]⟩)
  (fun k=>k≤(oL p).length∧((oL p).drop k).all aX=(oL p).all aX) (fun k=>(oL p).length-k) 0 ⟨Nat.zero_le _,rfl⟩ (.inl (aI (by rw [hX];rfl) rfl rfl (by simp [aH,aL,aC,aG,aF]))) ?_
 rintro k ⟨hk,hl⟩
 by_cases hlt:k<(oL p).length
 ·have hx:(oL p)[k]? = some (oL p)[k]:=List.getElem?_eq_getElem hlt
  have hg:=encS_at hx
  have hd:=drop_at hx
  have h1:decide ((k:Int)<((oL p).length:Int))=true:=decide_eq_true (by omega)
  have w1:IntKind.i64.wrap ((k:Int)+1)=k+1:=wrap_i64 (by omega) (by omega)
  generalize (oL p)[k]=x at hx hg hd
  have hxl:x.length≤p.length:=by have:=rV p [] x (List.mem_of_getElem? hx);simpa using this
  rw [hd,List.all_cons] at hl
  repeat' (first|simp only [*,go_sem,Nat.reduceLT,Nat.reduceEqDiff,↓reduceIte]|((with_reducible refine aQ (JJ (s:=x) (by omega)) ?_ ?_ ?_);exact rfl;exact rfl)|with_reducible refine aM (fun _=>?_) (fun _=>?_)|((with_reducible refine And.intro ?_ ?_);(focus (omega))))
  ·rename_i hb
   have hb:aX x=false:=by simpa using hb
   simp only [bV,h0,← hl,hb,Bool.false_and,Bool.false_or]
  ·rename_i hb
   have hb:aX x=true:=by simpa using hb
   rw [hb,Bool.true_and] at hl
   exact eM (k+1) ⟨by omega,hl⟩ (by omega) (aI rfl rfl rfl (by simp [aH,aL,aC,aG,aF]))
 ·have h1:decide ((k:Int)<((oL p).length:Int))=false:=decide_eq_false (by omega)
  rw [List.drop_of_length_le (by omega),List.all_nil] at hl
  unfold bV
  repeat' (simp only [*,go_sem,Nat.reduceLT,Nat.reduceEqDiff,↓reduceIte])
  all_goals rw [← hl,Bool.true_and]
theorem oT {t:List It} {p:List UInt8} (ht:t.length≤1000000):
  aA Tryz.prog 36 [.c (.p (.sl 5 (aT t))),.c (.p (.s p))] [] fun r h=>r=.tup [.agg ((aR t p).getD nd0).cv,.c (.p (.b (aR t p).isSome))]∧h=[]:=by
 refine bJ ?_
 refine ent aB aK Tryz.func36 rfl rfl fun X0 hX=>?_
 simp only [Tryz.f36,go_sem]
 repeat' (simp only [*,go_sem,Nat.reduceLT])
 refine aY aB aK (α:=Nat) (fun k=>⟨26,[(0,.c (.p (.sl 5 (aT t)))),(1,.c (.p (.s p))),(4,.c (.ptr 0 0)),(6,.c (.p (.i .i64 k)))],[.box [.p (.i .i64 0),.p (.i .i64 0),.p (.f 0),.p .nil]]⟩)
  (fun k=>k≤t.length∧aR (t.drop k) p=aR t p) (fun k=>t.length-k) 0 ⟨Nat.zero_le _,rfl⟩ (.inl (aI (by rw [hX];rfl) rfl rfl (by simp [aH,aL,aC,aG,aF]))) ?_
 rintro k ⟨hk,hl⟩
 by_cases hlt:k<t.length
 ·have hx:t[k]? = some t[k]:=List.getElem?_eq_getElem hlt
  have hg:=cB hx
  have hd:=drop_at hx
  have h1:decide ((k:Int)<(t.length:Int))=true:=decide_eq_true (by omega)
  have w1:IntKind.i64.wrap ((k:Int)+1)=k+1:=wrap_i64 (by omega) (by omega)
  generalize t[k]=x at hx hg hd
  rw [hd] at hl
  simp only [aR] at hl
  repeat' (first|simp only [*,go_sem,Nat.reduceLT,Nat.reduceLeDiff,Nat.reduceEqDiff,↓reduceIte,Nat.reduceAdd]|with_reducible refine aM (fun _=>?_) (fun _=>?_)|((with_reducible refine And.intro ?_ ?_);(focus (omega))))
  ·rename_i hb
   rw [if_pos hb] at hl
   rw [← hl]
   simp only [Option.getD_some,Option.isSome_some]
   simp
  ·rename_i hb
   rw [if_neg (by rw [hb];decide)] at hl
   exact eM (k+1) ⟨by omega,hl⟩ (by omega) (aI rfl rfl rfl (by simp [aH,aL,aC,aG,aF]))
 ·have h1:decide ((k:Int)<(t.length:Int))=false:=decide_eq_false (by omega)
  rw [List.drop_of_length_le (by omega)] at hl
  simp only [aR] at hl
  repeat' (simp only [*,go_sem,Nat.reduceLT,Nat.reduceLeDiff,Nat.reduceEqDiff,↓reduceIte,Nat.reduceAdd])
  all_goals rw [← hl]
  all_goals simp [nd0,oA]
theorem oE {t:List It} {p:List UInt8} (ht:t.length≤1000000):
  aA Tryz.prog 35 [.c (.p (.sl 5 (aT t))),.c (.p (.s p))] [] fun r h=>r=.c (.p (.b (aW t p)))∧h=[]:=by
 have hd:aW t p=(p == [] || ((aR t p).isSome && ((aR t p).getD nd0).k == 2)):=by
  unfold aW;cases aR t p <;> rfl
 rw [hd]
 refine ent aB aK Tryz.func35 rfl rfl fun X0 hX=>?_
 simp only [Tryz.f35,go_sem]
 repeat' (first|simp only [*,go_sem,Nat.reduceLT,Nat.reduceLeDiff,Nat.reduceEqDiff,↓reduceIte,Nat.reduceAdd]|((with_reducible refine bK (oT ht) ?_ ?_ ?_);exact rfl;exact fun _=>rfl)|with_reducible refine bF (fun _=>?_) (fun _=>?_))
 all_goals simp only [*,Bool.true_and,Bool.and_true,Bool.and_false,Bool.false_and,Bool.false_or,Bool.true_or]
theorem wI {t:List It} {p:List UInt8} (ht:t.length≤1000000) (hp:p.length≤4611686018427387904) (hq:∀ x∈t,x.p.length≤9223372036854775807):
  aA Tryz.prog 53 [.c (.p (.sl 5 (aT t))),.c (.p (.s p))] [] fun r h=>r=.c (.p (.sl 5 (aT (bN t p))))∧h=[]:=by
 have hnl:(bD t p).length≤t.length:=List.length_filter_le ..
 refine ent aB aK Tryz.func53 rfl rfl fun X0 hX=>?_
 simp only [Tryz.f53,go_sem]
 repeat' (first|simp only [*,go_sem,Nat.reduceLT,Nat.reduceEqDiff,↓reduceIte]|((with_reducible refine bK (wE ht hp hq) ?_ ?_ ?_);exact rfl;exact fun _=>rfl))
 unfold bN
 generalize bD t p=u at *
 refine jW aB aK 5 5 rfl ?_
 refine aY aB aK (α:=Nat × List It) (fun x=>⟨32,[(0,.c (.p (.sl 5 (aT t)))),(1,.c (.p (.s p))),(6,.c (.p (.sl 5 (aT u)))),(5,.c (.own 0 0 x.2.length)),(7,.c (.p (.i .i64 x.1)))],[.arr 5 (aT x.2) false]⟩)
  (fun x=>x.1≤u.length∧x.2.length≤x.1∧x.2++lB (u.drop x.1) p=lB u p) (fun x=>u.length-x.1) (0,[]) ⟨Nat.zero_le _,Nat.le_refl _,by simp⟩ (.inl (aI (by rw [hX];rfl) rfl rfl (by simp [aH,aL,aC,aG,aF,dR]))) ?_
 rintro ⟨k,out⟩ ⟨hk,hol,hout⟩
 simp only at hk hol hout
 by_cases hlt:k<u.length
 ·have hx:u[k]? = some u[k]:=List.getElem?_eq_getElem hlt
  have hg:=cB hx
  have hd:=drop_at hx
  have h1:decide ((k:Int)<(u.length:Int))=true:=decide_eq_true (by omega)
  have w1:IntKind.i64.wrap ((k:Int)+1)=k+1:=wrap_i64 (by omega) (by omega)
  generalize u[k]=x at hx hg hd
  rw [hd,lB,List.filter_cons] at hout
  repeat' (first|simp only [*,go_sem,Nat.reduceLT,Nat.reduceLeDiff,Nat.reduceEqDiff,↓reduceIte,Nat.reduceAdd,Nat.reduceMul,Nat.reduceBEq]|with_reducible refine aM (fun _=>?_) (fun _=>?_)|((with_reducible refine And.intro ?_ ?_);(focus (first|omega|decide))))
  ·rename_i hb
   rw [if_pos (by simpa using hb)] at hout
   exact fW (k+1,out++[x]) 0 2 ⟨by omega,by simp;omega,by simpa [lB] using hout⟩ (by simp;omega) rfl rfl (aI rfl rfl rfl (by simp [aH,aL,aC,aG,aF,tG,sF,sU]))
  ·rename_i hb
   rw [if_neg (by simpa using hb)] at hout
   exact eM (k+1,out) ⟨by omega,by simp;omega,hout⟩ (by simp;omega) (aI rfl rfl rfl (by simp [aH,aL,aC,aG,aF]))
 ·have h1:decide ((k:Int)<(u.length:Int))=false:=decide_eq_false (by omega)
  rw [List.drop_of_length_le (by omega)] at hout
  simp only [lB,List.filter_nil,List.append_nil] at hout
  repeat' (simp only [*,go_sem,Nat.reduceLT,Nat.reduceEqDiff,↓reduceIte])
  all_goals rfl
theorem zEf {d:List UInt8} (hd:d.length≤1000000000):aA Tryz.prog 162 [.c (.p (.sl 1 (bT d)))] [] fun r h=>r=.c (.p (.b (iZ d)))∧h=[]:=by
 refine ent aB aK Tryz.func162 rfl rfl fun X0 hX=>?_
 simp only [Tryz.f162,go_sem]
 repeat' (simp only [*,go_sem,Nat.reduceLT])
 refine aY aB aK (α:=Nat) (fun k=>⟨23,[(0,.c (.p (.sl 1 (bT d)))),(3,.c (.p (.i .i64 k)))],[]⟩) (fun k=>k≤d.length∧(d.drop k).all (fun b=>!((b.toNat:Int) == 0))=d.all (fun b=>!((b.toNat:Int) == 0))) (fun k=>d.length-k) 0 ⟨Nat.zero_le _,rfl⟩ (.inl (aI (by rw [hX];rfl) rfl rfl (by simp [aH,aL,aC,aG,aF]))) ?_
 rintro k ⟨hk,hl⟩
 by_cases hlt:k<d.length
 ·have hx:d[k]? = some d[k]:=List.getElem?_eq_getElem hlt
  have hg:=zJn hx
  have hd:=drop_at hx
  have h1:decide ((k:Int)<(d.length:Int))=true:=decide_eq_true (by omega)
  have w1:IntKind.i64.wrap ((k:Int)+1)=k+1:=wrap_i64 (by omega) (by omega)
  generalize d[k]=x at hx hg hd
  rw [hd,List.all_cons] at hl
  repeat' (first|simp only [*,go_sem,Nat.reduceLT,Nat.reduceEqDiff,↓reduceIte]|with_reducible refine aM (fun _=>?_) (fun _=>?_)|((with_reducible refine And.intro ?_ ?_);(focus (omega))))
  ·rename_i hb
   rw [hb,Bool.not_true,Bool.false_and] at hl
   simp only [iZ,← hl,Bool.false_and]
  ·rename_i hb
   rw [hb,Bool.not_false,Bool.true_and] at hl
   exact eM (k+1) ⟨by omega,hl⟩ (by omega) (aI rfl rfl rfl (by simp [aH,aL,aC,aG,aF]))
 ·have h1:decide ((k:Int)<(d.length:Int))=false:=decide_eq_false (by omega)
  rw [List.drop_of_length_le (by omega),List.all_nil] at hl
  unfold iZ
  rw [← hl]
  clear hl
  repeat' (first|simp only [*,go_sem,Nat.reduceLT,Nat.reduceEqDiff,↓reduceIte]|with_reducible refine bF (fun _=>?_) (fun _=>?_))
  all_goals simp only [*,Bool.true_and,Bool.and_true,Bool.and_false,Bool.false_and,Bool.not_false,Bool.not_true]
theorem TN {t:List It} {p:List UInt8} {k m:Int} {tt:Nat} {d:List UInt8} (ht:t.length≤1000000):
  aA Tryz.prog 94 [.c (.p (.sl 5 (aT t))),.c (.p (.s p)),.agg (ndc k m tt d)] [] fun r h=>r=.c (.p (.sl 5 (aT (qE t p ⟨k,m,tt,d⟩))))∧h=[]:=by
 refine ent aB aK Tryz.func94 rfl rfl fun X0 hX=>?_
 simp only [Tryz.f94,go_sem]
 repeat' (simp only [*,go_sem,Nat.reduceLT,Nat.reduceEqDiff,↓reduceIte,Nat.reduceAdd])
 refine jW aB aK 7 5 rfl ?_
 refine aY aB aK (α:=Nat × List It × Bool) (fun x=>⟨56,[(0,.c (.p (.sl 5 (aT t)))),(1,.c (.p (.s p))),(5,.c (.ptr 0 0)),(7,.c (.own 1 0 x.2.1.length)),(8,.c (.p (.b x.2.2))),(9,.c (.p (.i .i64 x.1)))],[.box (ndc k m tt d),.arr 5 (aT x.2.1) false]⟩)
  (fun x=>x.1≤t.length∧x.2.1.length≤2*x.1∧x.2.1++uC p ⟨k,m,tt,d⟩ x.2.2 (t.drop x.1)=qE t p ⟨k,m,tt,d⟩) (fun x=>t.length-x.1) (0,[],false) ⟨Nat.zero_le _,Nat.le_refl _,by simp [qE]⟩ (.inl (aI (by rw [hX];rfl) rfl rfl (by simp [aH,aL,aC,aG,aF,dR]))) ?_
 rintro ⟨j,out,done⟩ ⟨hk,hol,hout⟩
 simp only at hk hol hout
 by_cases hlt:j<t.length
 ·have hx:t[j]? = some t[j]:=List.getElem?_eq_getElem hlt
  have hg:=cB hx
  have hd:=drop_at hx
  have h1:decide ((j:Int)<(t.length:Int))=true:=decide_eq_true (by omega)
  have w1:IntKind.i64.wrap ((j:Int)+1)=j+1:=wrap_i64 (by omega) (by omega)
  generalize t[j]=x at hx hg hd
  rw [hd,uC] at hout
  cases done
  ·repeat' (first|simp only [*,go_sem,Nat.reduceLT,Nat.reduceLeDiff,Nat.reduceEqDiff,↓reduceIte,Nat.reduceAdd,Nat.reduceMul,Nat.reduceBEq]|with_reducible refine aM (fun _=>?_) (fun _=>?_)|((with_reducible refine And.intro ?_ ?_);(focus (first|omega|decide))))
   ·rename_i ha hb
    simp only [ha,hb,Bool.not_false,Bool.true_and,if_true,Bool.false_or] at hout
    exact fW (j+1,out++[⟨p,⟨k,m,tt,d⟩⟩]++[x],true) 1 5 ⟨by omega,by simp;omega,by simpa using hout⟩ (by simp;omega) rfl rfl (aI rfl rfl rfl (by simp [aH,aL,aC,aG,aF,tG,sF,sU]))
   ·rename_i ha hb
    simp only [ha,hb,Bool.not_false,Bool.true_and,if_true,Bool.false_or,Bool.false_eq_true,if_false] at hout
    exact fW (j+1,out++[⟨p,⟨k,m,tt,d⟩⟩],true) 1 3 ⟨by omega,by simp;omega,by simpa using hout⟩ (by simp;omega) rfl rfl (aI rfl rfl rfl (by simp [aH,aL,aC,aG,aF,tG,sF,sU]))
   ·rename_i ha hb
    simp only [ha,hb,Bool.not_false,Bool.true_and,if_true,Bool.false_or,Bool.false_eq_true,if_false] at hout
    exact fW (j+1,out++[x],false) 1 3 ⟨by omega,by simp;omega,by simpa using hout⟩ (by simp;omega) rfl rfl (aI rfl rfl rfl (by simp [aH,aL,aC,aG,aF,tG,sF,sU]))
   ·rename_i ha hb
    simp only [ha,hb,Bool.not_false,Bool.true_and,Bool.false_or,Bool.false_eq_true,if_false] at hout
    exact eM (j+1,out,false) ⟨by omega,by simp;omega,by simpa using hout⟩ (by simp;omega) (aI rfl rfl rfl (by simp [aH,aL,aC,aG,aF]))
  ·repeat' (first|simp only [*,go_sem,Nat.reduceLT,Nat.reduceLeDiff,Nat.reduceEqDiff,↓reduceIte,Nat.reduceAdd,Nat.reduceMul,Nat.reduceBEq]|with_reducible refine aM (fun _=>?_) (fun _=>?_)|((with_reducible refine And.intro ?_ ?_);(focus (first|omega|decide))))
   ·rename_i hb
    simp only [hb,Bool.not_true,Bool.false_and,if_true,Bool.true_or,Bool.false_eq_true,if_false] at hout
    exact fW (j+1,out++[x],true) 1 3 ⟨by omega,by simp;omega,by simpa using hout⟩ (by simp;omega) rfl rfl (aI rfl rfl rfl (by simp [aH,aL,aC,aG,aF,tG,sF,sU]))
   ·rename_i hb
    simp only [hb,Bool.not_true,Bool.false_and,Bool.true_or,Bool.false_eq_true,if_false] at hout
    exact eM (j+1,out,true) ⟨by omega,by simp;omega,by simpa using hout⟩ (by simp;omega) (aI rfl rfl rfl (by simp [aH,aL,aC,aG,aF]))
 ·have h1:decide ((j:Int)<(t.length:Int))=false:=decide_eq_false (by omega)
  rw [List.drop_of_length_le (by omega)] at hout
  cases done
  ·simp only [uC,Bool.false_eq_true,if_false] at hout
   repeat' (first|simp only [*,go_sem,Nat.reduceLT,Nat.reduceLeDiff,Nat.reduceEqDiff,↓reduceIte,Nat.reduceAdd,Nat.reduceMul,Nat.reduceBEq]|((with_reducible refine And.intro ?_ ?_);(focus (first|omega|decide))))
   all_goals rw [List.take_of_length_le (by rw [← hout];simp)]
  ·simp only [uC,if_true,List.append_nil] at hout
   repeat' (simp only [*,go_sem,Nat.reduceLT,Nat.reduceEqDiff,↓reduceIte])
   all_goals rw [hout]
end
end Go.Proofs.YtbpblnmhlhpebaaGreatDoor
