/- Part 31 of the proof of roomKnown_card. No condition. -/
import Derived.Test.YtbpblnmhlhpebaaGreatDoorB29
set_option linter.all false
set_option maxRecDepth 100000
set_option maxHeartbeats 8000000
namespace Go.Proofs.YtbpblnmhlhpebaaGreatDoor
open Go Go.Dm
section
theorem zAV (x y:List UInt8):(bL x y || x == y) = !bL y x:=by
 cases h:bL y x
 ·cases h2:bL x y
  ·rw [dX h2 h];simp
  ·rfl
 ·rw [eI h,Bool.false_or]
  cases he:(x == y)
  ·rfl
  ·rw [eq_of_beq he,bY] at h;cases h
theorem JO {t:List It} (hl:t.length≤1000000) (hp:∀ x∈t,x.p.length≤1000000000) (ht:∀ x∈t,x.n.t<18446744073709551616):
  aA Tryz.prog 103 [.c (.p (.sl 5 (aV t)))] [] fun r h=>r=.c (.p (.b (mO t)))∧h=[]:=by
 refine ent aB aK Tryz.func103 rfl rfl fun X0 hX=>?_
 simp only [Tryz.f103,go_sem]
 repeat' (simp only [*,go_sem,Nat.reduceLT,Nat.reduceEqDiff,↓reduceIte])
 refine bC aB aK (α:=Nat) (fun k=>⟨56,[(0,.c (.p (.sl 5 (aV t)))),(5,.c (.p (.sl 5 (aV t)))),(6,.c (.p (.i .i64 t.length))),(7,.c (.p (.i .i64 k)))],[]⟩)
  (fun k=>k≤t.length∧Srt (t.take k)∧eW (t.take k) (t.drop k)=eW [] t) (fun k=>t.length-k) 0 ⟨Nat.zero_le _,by simp,rfl⟩ (.inl (aJ (by rw [hX];rfl) rfl rfl (by simp [aI,aM,aD,aH,aG]))) ?_
 rintro k ⟨hk,hst,hgo⟩
 by_cases hlt:k<t.length
 ·have hx:t[k]? = some t[k]:=List.getElem?_eq_getElem hlt
  have hg:=cZ hx
  have h1:decide ((k:Int)<(t.length:Int))=true:=decide_eq_true (by omega)
  have hki:(k:Int)≤(t.length:Int):=by omega
  have hk0:(0:Int)≤k:=by omega
  have w1:IntKind.i64.wrap ((k:Int)+1)=k+1:=wrap_i64 (by omega) (by omega)
  have prev:(decide ((0:Int)<k)=false∧pC (t.take k) t[k].p=true)∨∃ m:Nat,∃ y:It,decide ((0:Int)<k)=true∧IntKind.i64.wrap ((k:Int)-1)=(m:Int)∧(m:Int)<t.length∧t[m]? = some y∧(bL t[k].p y.p || t[k].p == y.p) = !pC (t.take k) t[k].p:=by
   by_cases h0:0<k
   ·have hmk:k-1<t.length:=by omega
    refine .inr ⟨k-1,t[k-1],decide_eq_true (by omega),?_,by omega,List.getElem?_eq_getElem hmk,?_⟩
    ·rw [wrap_i64 (by omega) (by omega)];omega
    ·rw [zAV]
     unfold pC
     rw [getLast_take h0 (by omega),List.getElem?_eq_getElem hmk]
   ·refine .inl ⟨decide_eq_false (by omega),?_⟩
    have:k=0:=by omega
    subst this;rfl
  have hpl:=hp _ (List.getElem_mem hlt)
  have i4:=ht _ (List.getElem_mem hlt)
  have hisd:=eC (t:=t.take k) (p:=aR t[k].p) (by rw [List.length_take];omega) hst
  have htk:(aV t).take k=aV (t.take k):=yK t k
  have hdr:t.drop k=t[k]::t.drop (k+1):=List.drop_eq_getElem_cons hlt
  have hnx:t.take (k+1)=t.take k++[t[k]]:=by rw [List.take_add_one,hx];rfl
  rw [hdr,eW] at hgo
  have hsn:pC (t.take k) t[k].p=true→Srt (t.take k++[t[k]]):=fun h=>RR hst h
  rw [← hnx] at hgo hsn
  have hbad:lG (t.take k) t[k]=false→mO t=false:=fun h=>by
   rw [h,Bool.false_and] at hgo
   rw [mO,← hgo];rfl
  have hgood:lG (t.take k) t[k]=true→eW (t.take (k+1)) (t.drop (k+1))=eW [] t:=fun h=>by
   rw [h,Bool.true_and] at hgo;exact hgo
  clear hgo hdr hnx
  unfold lG at hbad hgood
  generalize t[k]=x at hx hg prev hpl i4 hisd hsn hbad hgood
  generalize pC (t.take k) x.p=a3 at prev hsn hbad hgood
  generalize aY (t.take k) (aR x.p)=a5 at hisd hbad hgood
  cases c1:(x.p == [])
  ·cases c2:cG x.p
   ·have hf:=hbad (by rw [c1,c2];rfl)
    rw [hf]
    clear hf hbad hgood hsn hst hisd prev hp ht hx
    repeat' (first|simp only [*,go_sem,Nat.reduceLT,Nat.reduceLeDiff,Nat.reduceEqDiff,↓reduceIte,Nat.reduceAdd]|((refine aN (id:=4) aB aK [] [0,1,2,3,4,5,6,7,8,9,10,11,12,13,14,15,16,17,18,19,20,21,22,23,24,25,26,27,28,29,30,31,32,33,34,35,36,37,38,39] (by decide +kernel) ?_);(repeat' (first|(refine aW ?_)|((refine cD ?_ rfl rfl ?_ ?_);(rotate_left 1);(focus ((repeat' (first|simp only [*,go_sem,Nat.reduceLT,Nat.reduceEqDiff,↓reduceIte,Bool.not_false]|((with_reducible refine aS (fE (by omega)) ?_ ?_ ?_);exact rfl;exact rfl)));exact rfl));(simp only [aF])))))|((with_reducible refine And.intro ?_ ?_);omega))
   ·rcases prev with ⟨b1,rfl⟩|⟨m,y,b1,b2,b3,b4,b5⟩
    ·cases c4:aT x.n
     ·have hf:=hbad (by rw [c1,c2,c4];rfl)
      rw [hf]
      clear hf hbad hgood hsn hst hisd hp ht hx
      repeat' (first|simp only [*,go_sem,Nat.reduceLT,Nat.reduceLeDiff,Nat.reduceEqDiff,↓reduceIte,Nat.reduceAdd]|((refine aN (id:=4) aB aK [] [0,1,2,3,4,5,6,7,8,9,10,11,12,13,14,15,16,17,18,19,20,21,22,23,24,25,26,27,28,29,30,31,32,33,34,35,36,37,38,39] (by decide +kernel) ?_);(repeat' (first|(refine aW ?_)|((refine cD ?_ rfl rfl ?_ ?_);(rotate_left 1);(focus ((repeat' (first|simp only [*,go_sem,Nat.reduceLT,Nat.reduceLeDiff,Nat.reduceEqDiff,↓reduceIte,Nat.reduceAdd,Bool.not_true,Bool.not_false]|((with_reducible refine aS (fE (by omega)) ?_ ?_ ?_);exact rfl;exact rfl)|((with_reducible refine aS (dQ i4) ?_ ?_ ?_);exact rfl;exact rfl)));exact rfl));(simp only [aF])))))|((with_reducible refine And.intro ?_ ?_);omega))
     ·cases a5
      ·have hf:=hbad (by rw [c1,c2,c4];rfl)
       rw [hf]
       clear hf hbad hgood hsn hst hp ht hx
       repeat' (first|simp only [*,go_sem,Nat.reduceLT,Nat.reduceLeDiff,Nat.reduceEqDiff,↓reduceIte,Nat.reduceAdd]|((refine aN (id:=4) aB aK [] [0,1,2,3,4,5,6,7,8,9,10,11,12,13,14,15,16,17,18,19,20,21,22,23,24,25,26,27,28,29,30,31,32,33,34,35,36,37,38,39] (by decide +kernel) ?_);(repeat' (first|(refine aW ?_)|((refine cD ?_ rfl rfl ?_ ?_);(rotate_left 1);(focus ((repeat' (first|simp only [*,go_sem,Nat.reduceLT,Nat.reduceLeDiff,Nat.reduceEqDiff,↓reduceIte,Nat.reduceAdd,Int.reduceLE,Int.reduceToNat,Bool.not_true,Bool.not_false]|((with_reducible refine aS (fE (by omega)) ?_ ?_ ?_);exact rfl;exact rfl)|((with_reducible refine aS (dQ i4) ?_ ?_ ?_);exact rfl;exact rfl)|((with_reducible refine aS (dJ (by omega)) ?_ ?_ ?_);exact rfl;exact rfl)|((with_reducible refine aS (hisd) ?_ ?_ ?_);exact rfl;exact rfl)));exact rfl));(simp only [aF])))))|((with_reducible refine And.intro ?_ ?_);omega))
      ·have hJ:k+1≤t.length∧Srt (t.take (k+1))∧eW (t.take (k+1)) (t.drop (k+1))=eW [] t:=⟨by omega,hsn rfl,hgood (by rw [c1,c2,c4];rfl)⟩
       clear hbad hgood hsn hst hp ht hx
       repeat' (first|simp only [*,go_sem,Nat.reduceLT,Nat.reduceLeDiff,Nat.reduceEqDiff,↓reduceIte,Nat.reduceAdd]|((refine aN (id:=4) aB aK [] [0,1,2,3,4,5,6,7,8,9,10,11,12,13,14,15,16,17,18,19,20,21,22,23,24,25,26,27,28,29,30,31,32,33,34,35,36,37,38,39] (by decide +kernel) ?_);(repeat' (first|(refine aW ?_)|((refine cD ?_ rfl rfl ?_ ?_);(rotate_left 1);(focus ((repeat' (first|simp only [*,go_sem,Nat.reduceLT,Nat.reduceLeDiff,Nat.reduceEqDiff,↓reduceIte,Nat.reduceAdd,Int.reduceLE,Int.reduceToNat,Bool.not_true]|((with_reducible refine aS (fE (by omega)) ?_ ?_ ?_);exact rfl;exact rfl)|((with_reducible refine aS (dQ i4) ?_ ?_ ?_);exact rfl;exact rfl)|((with_reducible refine aS (dJ (by omega)) ?_ ?_ ?_);exact rfl;exact rfl)|((with_reducible refine aS (hisd) ?_ ?_ ?_);exact rfl;exact rfl)));exact rfl));(simp only [aF])))))|((with_reducible refine And.intro ?_ ?_);omega))
       exact gL (k+1) hJ (by omega) (aJ rfl rfl rfl (by simp [aI,aM,aD,aH,aG]))
    ·have hgy:=cZ b4
     cases a3
     ·have hf:=hbad (by rw [c1,c2];rfl)
      rw [hf]
      rw [Bool.not_false] at b5
      clear hf hbad hgood hsn hst hisd hp ht hx b4
      repeat' (first|simp only [*,go_sem,Nat.reduceLT,Nat.reduceLeDiff,Nat.reduceEqDiff,↓reduceIte,Nat.reduceAdd]|((refine aN (id:=4) aB aK [] [0,1,2,3,4,5,6,7,8,9,10,11,12,13,14,15,16,17,18,19,20,21,22,23,24,25,26,27,28,29,30,31,32,33,34,35,36,37,38,39] (by decide +kernel) ?_);(repeat' (first|(refine aW ?_)|((refine cD ?_ rfl rfl ?_ ?_);(rotate_left 1);(focus ((repeat' (first|simp only [*,go_sem,Nat.reduceLT,Nat.reduceEqDiff,↓reduceIte,Bool.not_true]|((with_reducible refine aS (fE (by omega)) ?_ ?_ ?_);exact rfl;exact rfl)|((with_reducible refine And.intro ?_ ?_);omega)));exact rfl));(simp only [aF])))))|((with_reducible refine And.intro ?_ ?_);omega))
     ·rw [Bool.not_true] at b5
      cases c4:aT x.n
      ·have hf:=hbad (by rw [c1,c2,c4];rfl)
       rw [hf]
       clear hf hbad hgood hsn hst hisd hp ht hx b4
       repeat' (first|simp only [*,go_sem,Nat.reduceLT,Nat.reduceLeDiff,Nat.reduceEqDiff,↓reduceIte,Nat.reduceAdd]|((refine aN (id:=4) aB aK [] [0,1,2,3,4,5,6,7,8,9,10,11,12,13,14,15,16,17,18,19,20,21,22,23,24,25,26,27,28,29,30,31,32,33,34,35,36,37,38,39] (by decide +kernel) ?_);(repeat' (first|(refine aW ?_)|((refine cD ?_ rfl rfl ?_ ?_);(rotate_left 1);(focus ((repeat' (first|simp only [*,go_sem,Nat.reduceLT,Nat.reduceLeDiff,Nat.reduceEqDiff,↓reduceIte,Nat.reduceAdd,Bool.not_true,Bool.not_false]|((with_reducible refine aS (fE (by omega)) ?_ ?_ ?_);exact rfl;exact rfl)|((with_reducible refine aS (dQ i4) ?_ ?_ ?_);exact rfl;exact rfl)|((with_reducible refine And.intro ?_ ?_);omega)));exact rfl));(simp only [aF])))))|((with_reducible refine And.intro ?_ ?_);omega))
      ·cases a5
       ·have hf:=hbad (by rw [c1,c2,c4];rfl)
        rw [hf]
        clear hf hbad hgood hsn hst hp ht hx b4
        repeat' (first|simp only [*,go_sem,Nat.reduceLT,Nat.reduceLeDiff,Nat.reduceEqDiff,↓reduceIte,Nat.reduceAdd]|((refine aN (id:=4) aB aK [] [0,1,2,3,4,5,6,7,8,9,10,11,12,13,14,15,16,17,18,19,20,21,22,23,24,25,26,27,28,29,30,31,32,33,34,35,36,37,38,39] (by decide +kernel) ?_);(repeat' (first|(refine aW ?_)|((refine cD ?_ rfl rfl ?_ ?_);(rotate_left 1);(focus ((repeat' (first|simp only [*,go_sem,Nat.reduceLT,Nat.reduceLeDiff,Nat.reduceEqDiff,↓reduceIte,Nat.reduceAdd,Int.reduceLE,Int.reduceToNat,Bool.not_true,Bool.not_false]|((with_reducible refine aS (fE (by omega)) ?_ ?_ ?_);exact rfl;exact rfl)|((with_reducible refine aS (dQ i4) ?_ ?_ ?_);exact rfl;exact rfl)|((with_reducible refine aS (dJ (by omega)) ?_ ?_ ?_);exact rfl;exact rfl)|((with_reducible refine aS (hisd) ?_ ?_ ?_);exact rfl;exact rfl)|((with_reducible refine And.intro ?_ ?_);omega)));exact rfl));(simp only [aF])))))|((with_reducible refine And.intro ?_ ?_);omega))
       ·have hJ:k+1≤t.length∧Srt (t.take (k+1))∧eW (t.take (k+1)) (t.drop (k+1))=eW [] t:=⟨by omega,hsn rfl,hgood (by rw [c1,c2,c4];rfl)⟩
        clear hbad hgood hsn hst hp ht hx b4
        repeat' (first|simp only [*,go_sem,Nat.reduceLT,Nat.reduceLeDiff,Nat.reduceEqDiff,↓reduceIte,Nat.reduceAdd]|((refine aN (id:=4) aB aK [] [0,1,2,3,4,5,6,7,8,9,10,11,12,13,14,15,16,17,18,19,20,21,22,23,24,25,26,27,28,29,30,31,32,33,34,35,36,37,38,39] (by decide +kernel) ?_);(repeat' (first|(refine aW ?_)|((refine cD ?_ rfl rfl ?_ ?_);(rotate_left 1);(focus ((repeat' (first|simp only [*,go_sem,Nat.reduceLT,Nat.reduceLeDiff,Nat.reduceEqDiff,↓reduceIte,Nat.reduceAdd,Int.reduceLE,Int.reduceToNat,Bool.not_true]|((with_reducible refine aS (fE (by omega)) ?_ ?_ ?_);exact rfl;exact rfl)|((with_reducible refine aS (dQ i4) ?_ ?_ ?_);exact rfl;exact rfl)|((with_reducible refine aS (dJ (by omega)) ?_ ?_ ?_);exact rfl;exact rfl)|((with_reducible refine aS (hisd) ?_ ?_ ?_);exact rfl;exact rfl)|((with_reducible refine And.intro ?_ ?_);omega)));exact rfl));(simp only [aF])))))|((with_reducible refine And.intro ?_ ?_);omega))
        exact gL (k+1) hJ (by omega) (aJ rfl rfl rfl (by simp [aI,aM,aD,aH,aG]))
  ·have hf:=hbad (by rw [c1];rfl)
   rw [hf]
   clear hf hbad hgood hsn hst hisd prev hp ht hx
   repeat' (first|simp only [*,go_sem,Nat.reduceLT,Nat.reduceLeDiff,Nat.reduceEqDiff,↓reduceIte,Nat.reduceAdd]|((refine aN (id:=4) aB aK [] [0,1,2,3,4,5,6,7,8,9,10,11,12,13,14,15,16,17,18,19,20,21,22,23,24,25,26,27,28,29,30,31,32,33,34,35,36,37,38,39] (by decide +kernel) ?_);(repeat' (first|(refine aW ?_)|((refine cD ?_ rfl rfl ?_ ?_);(rotate_left 1);(focus ((repeat' (simp only [*,go_sem,Nat.reduceLT,Nat.reduceEqDiff,↓reduceIte]));exact rfl));(simp only [aF])))))|((with_reducible refine And.intro ?_ ?_);omega))
 ·have h1:decide ((k:Int)<(t.length:Int))=false:=decide_eq_false (by omega)
  rw [List.drop_of_length_le (by omega),eW] at hgo
  rw [mO,← hgo,Bool.true_and]
  clear hgo hst
  repeat' (simp only [*,go_sem,Nat.reduceLT,Nat.reduceEqDiff,↓reduceIte])
end
end Go.Proofs.YtbpblnmhlhpebaaGreatDoor
namespace Go.Proofs.YtbpblnmhlhpebaaGreatDoor
open Go Go.Dm Go.Proofs
section
theorem xU (t:List It) (i:Nat) (p:List UInt8) (k m:Int) (tt:Nat) (d:List UInt8):fI i [.s p,.i .i64 k,.i .i64 m,.f tt,.sl 1 (cB d)] (aV t)=aV (t.take i++⟨p,⟨k,m,tt,d⟩⟩::t.drop i):=by
 simp [fI,aV,It.cs,List.map_take,List.map_drop]
theorem zMh {t:List It} {p:List UInt8} {k m:Int} {tt:Nat} {d:List UInt8} (h:OkT t) (hp:p.length≤1000000000) (hd:d.length≤140737488355328) (htt:tt<18446744073709551616):
  aA Tryz.prog 322 [.c (.p (.sl 5 (aV t))),.c (.p (.s p)),.agg (ndc k m tt d)] [] fun r h =>
   r=.tup [.c (.p (.sl 5 (aV (uK t p ⟨k,m,tt,d⟩).1))),.c (.p (.i .i64 (uK t p ⟨k,m,tt,d⟩).2))]∧h=[]:=by
 have htl:=h.len
 have hdl:∀ x∈t,x.n.d.length≤140737488355328:=fun x hx=>Nat.le_trans (h.dlen x hx) (by decide)
 have hdir:=eC (t:=t) (p:=aR p) (by omega) h.srt
 have hpath:=fE hp
 have hnode:=dQ (k:=k) (m:=m) (d:=d) htt
 refine aX ?_
 unfold uK
 cases q0:(p == [])
 case true =>
  refine ent aB aK Tryz.func322 rfl rfl fun X0 hX=>?_
  simp only [Tryz.f322,go_sem]
  repeat' (simp only [*,go_sem,Nat.reduceLT,Nat.reduceEqDiff,↓reduceIte,Nat.reduceAdd])
  all_goals simp
 cases q1:cG p
 case false =>
  rw [q1] at hpath
  refine ent aB aK Tryz.func322 rfl rfl fun X0 hX=>?_
  simp only [Tryz.f322,go_sem]
  repeat' (first|simp only [*,go_sem,Nat.reduceLT,Nat.reduceEqDiff,↓reduceIte,Nat.reduceAdd,Bool.not_false]|((with_reducible refine aS (hpath) ?_ ?_ ?_);exact rfl;exact rfl))
  all_goals simp
 cases q2:aT ⟨k,m,tt,d⟩
 case false =>
  rw [q1] at hpath
  rw [q2] at hnode
  refine ent aB aK Tryz.func322 rfl rfl fun X0 hX=>?_
  simp only [Tryz.f322,go_sem]
  repeat' (first|simp only [*,go_sem,Nat.reduceLT,Nat.reduceLeDiff,Nat.reduceEqDiff,↓reduceIte,Nat.reduceAdd,Bool.not_true,Bool.not_false]|((with_reducible refine aS (hpath) ?_ ?_ ?_);exact rfl;exact rfl)|((with_reducible refine aS (hnode) ?_ ?_ ?_);exact rfl;exact rfl))
  all_goals simp
 cases q3:aY t (aR p)
 case false =>
  rw [q1] at hpath
  rw [q2] at hnode
  rw [q3] at hdir
  refine ent aB aK Tryz.func322 rfl rfl fun X0 hX=>?_
  simp only [Tryz.f322,go_sem]
  repeat' (first|simp only [*,go_sem,Nat.reduceLT,Nat.reduceLeDiff,Nat.reduceEqDiff,↓reduceIte,Nat.reduceAdd,Bool.not_true,Bool.not_false]|((with_reducible refine aS (hpath) ?_ ?_ ?_);exact rfl;exact rfl)|((with_reducible refine aS (hnode) ?_ ?_ ?_);exact rfl;exact rfl)|((with_reducible refine aS (dJ hp) ?_ ?_ ?_);exact rfl;exact rfl)|((with_reducible refine aS (hdir) ?_ ?_ ?_);exact rfl;exact rfl))
  all_goals simp
 rw [q1] at hpath
 rw [q2] at hnode
 rw [q3] at hdir
 have e0:(false || !true || !true)=false:=rfl
 rw [e0,if_neg (by decide),if_neg (by decide)]
 clear e0 q1 q2 q3
 have hcp:=uS (k:=k) (m:=m) (t:=tt) (d:=d) hd
 have hgo:(t.filter fun x=>!goF p false x)=cA t p:=by
  unfold cA
  congr 1
  funext x
  simp [goF]
 have hub:=h.toOkT0.filter (fun x=>!aP p x.p)
 change OkT0 (cA t p) at hub
 cases q4:(k != 2)
 ·simp only [Bool.false_eq_true,if_false]
  have hs:=h.srt
  have hle0:t.length≤(aV t).length:=Nat.le_of_eq (cU t).symm
  have hes0:(aV t).take t.length=aV t:=List.take_of_length_le (Nat.le_of_eq (cU t))
  have hsl:=vS t p ⟨k,m,tt,d⟩
  refine ent aB aK Tryz.func322 rfl rfl fun X0 hX=>?_
  simp only [Tryz.f322,go_sem]
  repeat' (first|simp only [*,go_sem,Nat.reduceLT,Nat.reduceLeDiff,Nat.reduceEqDiff,↓reduceIte,Nat.reduceAdd,Bool.not_true]|((with_reducible refine aS (hpath) ?_ ?_ ?_);exact rfl;exact rfl)|((with_reducible refine aS (hnode) ?_ ?_ ?_);exact rfl;exact rfl)|((with_reducible refine aS (dJ hp) ?_ ?_ ?_);exact rfl;exact rfl)|((with_reducible refine aS (hdir) ?_ ?_ ?_);exact rfl;exact rfl)|refine yO (by omega) hdl ?_|refine zBn (i:=1) (t:=t) rfl hes0 (by omega) hs ?_)
  intro j hj
  unfold lU
  have hj1:=hj.1
  have hat:At t p j:=hj
  cases hf:fZ t p j
  ·have hnew:=GJ (n:=⟨k,m,tt,d⟩) hs hat (fun x hx=>by unfold fZ at hf;rw [hx] at hf;exact hf)
   rw [hnew]
   have hln:(t.take j++(⟨p,⟨k,m,tt,d⟩⟩:It)::t.drop j).length=t.length+1:=by
    rw [List.length_append,List.length_cons,List.length_take,List.length_drop];omega
   rw [hln]
   repeat' (first|simp only [*,go_sem,Nat.reduceLT,Nat.reduceLeDiff,Nat.reduceEqDiff,↓reduceIte,Nat.reduceAdd,Nat.reduceMul]|((with_reducible refine bP (hcp) ?_ ?_ ?_);exact rfl;exact fun _=>rfl)|refine insert_k (x:=[.s p,.i .i64 k,.i .i64 m,.f tt,.sl 1 (cB d)]) rfl rfl (by decide) hle0 hj1 (by omega) ?_|with_reducible refine aU (fun _=>?_) (fun _=>?_)|((with_reducible refine And.intro ?_ ?_);decide))
   all_goals first|exact .inr ⟨_,rfl⟩|(rw [xU,List.take_of_length_le (by rw [cU,hln];exact Nat.le_refl _)])
  ·unfold fZ at hf
   have hlt:j<t.length:=by
    rcases Nat.lt_or_ge j t.length with h|h
    ·exact h
    ·rw [List.getElem?_eq_none h] at hf;cases hf
   have hx:t[j]? = some t[j]:=List.getElem?_eq_getElem hlt
   rw [hx] at hf
   have hset:=BP (n:=⟨k,m,tt,d⟩) hs hat hx hf
   rw [hset]
   have hln:(t.set j ⟨p,⟨k,m,tt,d⟩⟩).length=t.length:=List.length_set
   rw [hln]
   have hjl:(j:Int)<(t.length:Int):=by omega
   have hgj:=cZ (t:=t) (k:=j) hx
   have hse:=qS t j ⟨p,⟨k,m,tt,d⟩⟩
   clear hx hf hset hat hj
   generalize t[j]=y at hgj
   repeat' (first|simp only [*,go_sem,Nat.reduceLT,Nat.reduceLeDiff,Nat.reduceEqDiff,↓reduceIte,Nat.reduceAdd]|((with_reducible refine bP (hcp) ?_ ?_ ?_);exact rfl;exact fun _=>rfl)|with_reducible refine aU (fun _=>?_) (fun _=>?_)|((with_reducible refine And.intro ?_ ?_);omega))
   all_goals first|exact .inr ⟨_,rfl⟩|(rw [List.take_of_length_le (by rw [hln];exact Nat.le_refl _)])
 ·simp only [if_true]
  have hs:=hub.srt
  have hul:=ED t p
  have hsl:=vS (cA t p) p ⟨k,m,tt,d⟩
  have hw:∀ (h:aC) (K:DV→aC→Prop),(∀ es:List (List PV),es.take (cA t p).length=aV (cA t p)→K (.c (.own (2+h.length) 0 (cA t p).length)) (h++[.box [.p (.s p)],.box [.p (.b false)],.arr 5 es false])) →
    aA Tryz.prog 261 [.c (.p (.sl 5 (aV t))),.c (.p (.s p)),.c (.p (.b false))] h K:=fun h K hk=>by
   refine zDw hp (by omega) hdl ?_
   rw [hgo];exact hk
  refine ent aB aK Tryz.func322 rfl rfl fun X0 hX=>?_
  simp only [Tryz.f322,go_sem]
  repeat' (first|simp only [*,go_sem,Nat.reduceLT,Nat.reduceLeDiff,Nat.reduceEqDiff,↓reduceIte,Nat.reduceAdd,Bool.not_true]|((with_reducible refine aS (hpath) ?_ ?_ ?_);exact rfl;exact rfl)|((with_reducible refine aS (hnode) ?_ ?_ ?_);exact rfl;exact rfl)|((with_reducible refine aS (dJ hp) ?_ ?_ ?_);exact rfl;exact rfl)|((with_reducible refine aS (hdir) ?_ ?_ ?_);exact rfl;exact rfl)|refine yO (by omega) hdl ?_|refine hw _ _ ?_)
  intro es hes
  clear hw hgo
  generalize cA t p=u at hub hs hul hsl hes ⊢
  have hle0:u.length≤es.length:=by
   have:=congrArg List.length hes
   rw [List.length_take,cU] at this;omega
  repeat' (first|simp only [*,go_sem,Nat.reduceLT,Nat.reduceLeDiff,Nat.reduceEqDiff,↓reduceIte,Nat.reduceAdd]|refine zBn (i:=4) (t:=u) rfl hes (by omega) hs ?_)
  intro j hj
  unfold lU
  have hj1:=hj.1
  have hat:At u p j:=hj
  cases hf:fZ u p j
  ·have hnew:=GJ (n:=⟨k,m,tt,d⟩) hs hat (fun x hx=>by unfold fZ at hf;rw [hx] at hf;exact hf)
   rw [hnew]
   have hln:(u.take j++(⟨p,⟨k,m,tt,d⟩⟩:It)::u.drop j).length=u.length+1:=by
    rw [List.length_append,List.length_cons,List.length_take,List.length_drop];omega
   rw [hln]
   repeat' (first|simp only [*,go_sem,Nat.reduceLT,Nat.reduceLeDiff,Nat.reduceEqDiff,↓reduceIte,Nat.reduceAdd,Nat.reduceMul]|((with_reducible refine bP (hcp) ?_ ?_ ?_);exact rfl;exact fun _=>rfl)|refine insert_k (x:=[.s p,.i .i64 k,.i .i64 m,.f tt,.sl 1 (cB d)]) rfl rfl (by decide) hle0 hj1 (by omega) ?_|with_reducible refine aU (fun _=>?_) (fun _=>?_)|((with_reducible refine And.intro ?_ ?_);decide))
   all_goals first|exact .inr ⟨_,rfl⟩|(rw [xU,List.take_of_length_le (by rw [cU,hln];exact Nat.le_refl _)])
  ·unfold fZ at hf
   have hlt:j<u.length:=by
    rcases Nat.lt_or_ge j u.length with h|h
    ·exact h
    ·rw [List.getElem?_eq_none h] at hf;cases hf
   have hx:u[j]? = some u[j]:=List.getElem?_eq_getElem hlt
   rw [hx] at hf
   have hset:=BP (n:=⟨k,m,tt,d⟩) hs hat hx hf
   rw [hset]
   have hln:(u.set j ⟨p,⟨k,m,tt,d⟩⟩).length=u.length:=List.length_set
   rw [hln]
   have hjl:(j:Int)<(u.length:Int):=by omega
   have hgj:es.getD j []=u[j].cs:=by
    have h1:=cZ (t:=u) (k:=j) hx
    rw [← hes,List.getD_eq_getElem?_getD,List.getElem?_take,if_pos hlt,← List.getD_eq_getElem?_getD] at h1
    exact h1
   have hse:(es.set j [.s p,.i .i64 k,.i .i64 m,.f tt,.sl 1 (cB d)]).take u.length=aV (u.set j ⟨p,⟨k,m,tt,d⟩⟩):=by
    rw [List.take_set,hes]
    exact qS u j ⟨p,⟨k,m,tt,d⟩⟩
   have hje:(j:Int)<(es.length:Int):=by omega
   clear hx hf hset hat hj
   generalize u[j]=y at hgj
   unfold It.cs at hgj
   repeat' (first|simp only [*,go_sem,Nat.reduceLT,Nat.reduceLeDiff,Nat.reduceEqDiff,↓reduceIte,Nat.reduceAdd]|((with_reducible refine bP (hcp) ?_ ?_ ?_);exact rfl;exact fun _=>rfl)|with_reducible refine aU (fun _=>?_) (fun _=>?_)|((with_reducible refine And.intro ?_ ?_);omega))
   all_goals first|exact .inr ⟨_,rfl⟩|rw [hse]
end
end Go.Proofs.YtbpblnmhlhpebaaGreatDoor
