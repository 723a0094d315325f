/- Part 43 of the proof of roomForks_card, set without needless blanks. No condition. -/
import Derived.Test.YtbpblnmhlhpebaaGreatDoorC41
set_option linter.unusedSimpArgs false
set_option linter.unusedVariables false
set_option maxRecDepth 100000
set_option maxHeartbeats 8000000
namespace Go.Proofs.YtbpblnmhlhpebaaGreatDoor
open Go Go.Dm
section
theorem zFk {p q:List UInt8} {k m k' m':Int} {t t':Nat} {d d':List UInt8}:
  aA Tryz.prog 105 [.agg [.p (.s p),.p (.i .i64 k),.p (.i .i64 m),.p (.f t),.p (.sl 1 (bT d))],.agg [.p (.s q),.p (.i .i64 k'),.p (.i .i64 m'),.p (.f t'),.p (.sl 1 (bT d'))]] []
   fun r h=>r=.c (.p (.b (CU ⟨p,⟨k,m,t,d⟩⟩ ⟨q,⟨k',m',t',d'⟩⟩)))∧h=[]:=by
 refine ent aB aK Tryz.func105 rfl rfl fun X0 hX=>?_
 simp only [Tryz.f105,go_sem]
 repeat' (first|simp only [*,go_sem,Nat.reduceLT,Nat.reduceLeDiff,Nat.reduceEqDiff,↓reduceIte,Nat.reduceAdd]|((with_reducible refine aQ (vH) ?_ ?_ ?_);exact rfl;exact rfl)|with_reducible refine bF (fun _=>?_) (fun _=>?_))
 all_goals ((simp_all [CU];done))
theorem zMs {a b:List It} (ha:a.length≤1000000) (hb:b.length≤1000000):
  aA Tryz.prog 104 [.c (.p (.sl 5 (aT a))),.c (.p (.sl 5 (aT b))),.c (.clo 105 [])] [] fun r h=>r=.c (.p (.b (fJ a b)))∧h=[]:=by
 by_cases hl:b.length=a.length
 ·have q1:((a.length:Int) != a.length)=false:=by simp
  refine ent aB aK Tryz.func104 rfl rfl fun X0 hX=>?_
  simp only [Tryz.f104,go_sem]
  repeat' (simp only [*,go_sem,Nat.reduceLT,Nat.reduceEqDiff,↓reduceIte,Nat.reduceAdd,bne_self_eq_false])
  refine aY aB aK (α:=Nat) (fun k=>⟨32,[(1,.c (.p (.sl 5 (aT b)))),(2,.c (.clo 105 [])),(15,.c (.p (.sl 5 (aT a)))),(16,.c (.p (.i .i64 a.length))),(17,.c (.p (.i .i64 k)))],[]⟩)
   (fun k=>k≤a.length∧fJ (a.drop k) (b.drop k)=fJ a b) (fun k=>a.length-k) 0 ⟨Nat.zero_le _,rfl⟩ (.inl (aI (by rw [hX];rfl) rfl rfl (by simp [aH,aL,aC,aG,aF]))) ?_
  rintro k ⟨hk,hs⟩
  by_cases hlt:k<a.length
  ·have hx:a[k]? = some a[k]:=List.getElem?_eq_getElem hlt
   have hy:b[k]? = some (b[k]'(by omega)):=List.getElem?_eq_getElem (by omega)
   have hg:=cB hx
   have hg2:=cB hy
   have h1:decide ((k:Int)<(a.length:Int))=true:=decide_eq_true (by omega)
   have hd:=RY hx hy
   generalize a[k]=x at hx hg hd
   generalize (b[k]'(by omega))=y at hy hg2 hd
   have w1:IntKind.i64.wrap ((k:Int)+1)=k+1:=wrap_i64 (by omega) (by omega)
   rw [hd] at hs
   clear hd
   repeat' (first|simp only [*,go_sem,Nat.reduceLT,Nat.reduceLeDiff,Nat.reduceEqDiff,↓reduceIte,Nat.reduceAdd]|((with_reducible refine aQ (zFk) ?_ ?_ ?_);exact rfl;exact rfl)|with_reducible refine aM (fun _=>?_) (fun _=>?_)|((with_reducible refine And.intro ?_ ?_);(focus (omega))))
   ·rename_i hb
    rw [Bool.not_eq_true'] at hb
    rw [hb,Bool.false_and] at hs
    rw [← hs]
   ·rename_i hb
    rw [Bool.not_eq_false'] at hb
    rw [hb,Bool.true_and] at hs
    exact eM (k+1) ⟨by omega,hs⟩ (by omega) (aI rfl rfl rfl (by simp [aH,aL,aC,aG,aF]))
  ·have h1:decide ((k:Int)<(a.length:Int))=false:=decide_eq_false (by omega)
   rw [List.drop_of_length_le (by omega),List.drop_of_length_le (by omega)] at hs
   have hs2:fJ a b=true:=hs.symm
   clear hs
   repeat' (simp only [*,go_sem,Nat.reduceLT,Nat.reduceEqDiff,↓reduceIte])
 ·have q1:((a.length:Int) != b.length)=true:=by simpa [bne] using fun h=>hl (by omega)
  rw [DM fun h=>hl h.symm]
  refine ent aB aK Tryz.func104 rfl rfl fun X0 hX=>?_
  simp only [Tryz.f104,go_sem]
  repeat' (simp only [*,go_sem,Nat.reduceLT,Nat.reduceEqDiff,↓reduceIte,Nat.reduceAdd])
theorem AY {a b:List It} (ha:a.length≤1000000) (hb:b.length≤1000000):aA Tryz.prog 43 [.c (.p (.sl 5 (aT a))),.c (.p (.sl 5 (aT b)))] [] fun r h=>r=.c (.p (.b (fJ a b)))∧h=[]:=by
 refine ent aB aK Tryz.func43 rfl rfl fun X0 hX=>?_
 simp only [Tryz.f43,go_sem]
 repeat' (first|simp only [*,go_sem,Nat.reduceLT,Nat.reduceEqDiff,↓reduceIte]|((with_reducible refine aQ (zMs ha hb) ?_ ?_ ?_);exact rfl;exact rfl))
end
end Go.Proofs.YtbpblnmhlhpebaaGreatDoor
namespace Go.Proofs.YtbpblnmhlhpebaaGreatDoor
open Go Go.Dm Go.Proofs
section
theorem zEU {r:Rm} {s:List UInt8} {ck:Int} {cp cq:List UInt8} {cm:Int} {ct:Nat} {ca cn:Int} {cd:List UInt8} (hr:OkR r) (hct:ct<18446744073709551616) (hcp:cp.length≤9223372036854775807)
  (hcd:cd.length≤140737488355328) (hcq:cq.length≤9223372036854775807) (hca:-9223372036854775808≤ca∧ca≤9223372036854775807)
  (h3:((cP r s).2 == 0)=true→OkT (treeR r (cP r s).1.i)∧OkT (treeR r (cP r s).1.p)∧OkT (doP (treeR r (cP r s).1.i) ⟨ck,cp,cq,cm,ct,ca,cn,cd⟩).1):
  aA Tryz.prog 17 [.c (.ptr 0 0),.c (.p (.s s)),.agg (clc ck cp cq cm ct ca cn cd)] (bX r) fun d h=>d=.agg (anv (zBQ r s ⟨ck,cp,cq,cm,ct,ca,cn,cd⟩).2)∧h=bX (zBQ r s ⟨ck,cp,cq,cm,ct,ca,cn,cd⟩).1:=by
 have hly:=lZ (s:=s) hr
 have htr:=jM (a:=(cP r s).1.i) hr
 have htn:=zDC (k:=ck)
 unfold zBQ
 generalize hy:cP r s=y at *
 obtain ⟨⟨yi,yp,yq,yf⟩,e⟩:=y
 simp only [Ly.cv] at *
 cases he:(e == 0)
 ·have hb:(e != 0)=true:=by rw [bne,he];rfl
  simp only [Bool.not_false,if_true]
  clear h3 htr htn hr
  refine bJ ?_
  refine ent aB aK Tryz.func17 rfl rfl fun X0 hX=>?_
  simp only [Tryz.f17,go_sem]
  repeat' (first|simp only [*,go_sem,Nat.reduceLT,Nat.reduceLeDiff,Nat.reduceEqDiff,↓reduceIte,Nat.reduceAdd]|((with_reducible refine aV [0,1,2,3] (hly) ?_ ?_ ?_ ?_);exact rfl;exact rfl;(focus ((simp only [go_sem];done)))))
  exact ⟨rfl,rfl,rfl,rfl,.inr ⟨1,rfl⟩,.inr ⟨1,rfl⟩,.inr ⟨1,rfl⟩⟩
 ·have hb:(e != 0)=false:=by rw [bne,he];rfl
  simp only [Bool.not_true,Bool.false_eq_true,if_false]
  obtain ⟨k1,k2,k3⟩:=h3 he
  cases hft:(yf && lF ck)
  ·simp only [Bool.false_eq_true,if_false]
   have hdo:=do_c (cn:=cn) (cm:=cm) (ck:=ck) k1 hct hcp hcd hcq hca
   have hsm:=AY (a:=treeR r yi) (b:=(doP (treeR r yi) ⟨ck,cp,cq,cm,ct,ca,cn,cd⟩).1) (by have:=k1.len;omega) (by have:=k3.len;omega)
   have hst:=MH (i:=yi) (p:=yp) (q:=yq) (f:=yf) hr k3 k2
   unfold YT
   simp only
   generalize fM (treeR r yp) (doP (treeR r yi) ⟨ck,cp,cq,cm,ct,ca,cn,cd⟩).1=E1 at hst ⊢
   generalize doP (treeR r yi) ⟨ck,cp,cq,cm,ct,ca,cn,cd⟩=T at *
   obtain ⟨T1,a⟩:=T
   obtain ⟨ae,⟨ak,am,at_,ad⟩,ab,al⟩:=a
   simp only at *
   generalize treeR r yi=T0 at *
   clear h3 k1 k2 k3 hr
   cases hs:fJ T0 T1
   ·simp only [Bool.false_eq_true,if_false]
    cases yf
    ·
     refine ent aB aK Tryz.func17 rfl rfl fun X0 hX=>?_
     simp only [Tryz.f17,go_sem]
     repeat' (first|simp only [*,go_sem,Nat.reduceLT,Nat.reduceLeDiff,Nat.reduceEqDiff,↓reduceIte,Nat.reduceAdd,Bool.not_false]|((with_reducible refine aV [0,1,2,3] (hly) ?_ ?_ ?_ ?_);exact rfl;exact rfl;(focus ((simp only [go_sem];done))))|((with_reducible refine aV [0,1,2,3] (htr) ?_ ?_ ?_ ?_);exact rfl;exact rfl;(focus ((simp only [go_sem];done))))|((with_reducible refine bK (hdo) ?_ ?_ ?_);exact rfl;exact fun _=>rfl)|((with_reducible refine bK (hsm) ?_ ?_ ?_);exact rfl;exact fun _=>rfl)|((with_reducible refine aV [0,1,2,3] (hst) ?_ ?_ ?_ ?_);exact rfl;exact rfl;(focus ((simp only [go_sem];done)))))
    ·rw [Bool.true_and] at hft
     rw [hft] at htn
     refine ent aB aK Tryz.func17 rfl rfl fun X0 hX=>?_
     simp only [Tryz.f17,go_sem]
     repeat' (first|simp only [*,go_sem,Nat.reduceLT,Nat.reduceLeDiff,Nat.reduceEqDiff,↓reduceIte,Nat.reduceAdd,Bool.not_false]|((with_reducible refine aV [0,1,2,3] (hly) ?_ ?_ ?_ ?_);exact rfl;exact rfl;(focus ((simp only [go_sem];done))))|((with_reducible refine aV [0,1,2,3] (htr) ?_ ?_ ?_ ?_);exact rfl;exact rfl;(focus ((simp only [go_sem];done))))|((with_reducible refine aQ (htn) ?_ ?_ ?_);exact rfl;exact rfl)|((with_reducible refine bK (hdo) ?_ ?_ ?_);exact rfl;exact fun _=>rfl)|((with_reducible refine bK (hsm) ?_ ?_ ?_);exact rfl;exact fun _=>rfl)|((with_reducible refine aV [0,1,2,3] (hst) ?_ ?_ ?_ ?_);exact rfl;exact rfl;(focus ((simp only [go_sem];done)))))
   ·simp only [if_true]
    cases yf
    ·
     refine ent aB aK Tryz.func17 rfl rfl fun X0 hX=>?_
     simp only [Tryz.f17,go_sem]
     repeat' (first|simp only [*,go_sem,Nat.reduceLT,Nat.reduceLeDiff,Nat.reduceEqDiff,↓reduceIte,Nat.reduceAdd,Bool.not_true]|((with_reducible refine aV [0,1,2,3] (hly) ?_ ?_ ?_ ?_);exact rfl;exact rfl;(focus ((simp only [go_sem];done))))|((with_reducible refine aV [0,1,2,3] (htr) ?_ ?_ ?_ ?_);exact rfl;exact rfl;(focus ((simp only [go_sem];done))))|((with_reducible refine bK (hdo) ?_ ?_ ?_);exact rfl;exact fun _=>rfl)|((with_reducible refine bK (hsm) ?_ ?_ ?_);exact rfl;exact fun _=>rfl))
    ·rw [Bool.true_and] at hft
     rw [hft] at htn
     refine ent aB aK Tryz.func17 rfl rfl fun X0 hX=>?_
     simp only [Tryz.f17,go_sem]
     repeat' (first|simp only [*,go_sem,Nat.reduceLT,Nat.reduceLeDiff,Nat.reduceEqDiff,↓reduceIte,Nat.reduceAdd,Bool.not_true]|((with_reducible refine aV [0,1,2,3] (hly) ?_ ?_ ?_ ?_);exact rfl;exact rfl;(focus ((simp only [go_sem];done))))|((with_reducible refine aV [0,1,2,3] (htr) ?_ ?_ ?_ ?_);exact rfl;exact rfl;(focus ((simp only [go_sem];done))))|((with_reducible refine aQ (htn) ?_ ?_ ?_);exact rfl;exact rfl)|((with_reducible refine bK (hdo) ?_ ?_ ?_);exact rfl;exact fun _=>rfl)|((with_reducible refine bK (hsm) ?_ ?_ ?_);exact rfl;exact fun _=>rfl))
  ·simp only [if_true]
   rw [Bool.and_eq_true] at hft
   obtain ⟨rfl,hft⟩:=hft
   rw [hft] at htn
   clear h3 k1 k2 k3 hr htr
   refine bJ ?_
   refine ent aB aK Tryz.func17 rfl rfl fun X0 hX=>?_
   simp only [Tryz.f17,go_sem]
   repeat' (first|simp only [*,go_sem,Nat.reduceLT,Nat.reduceLeDiff,Nat.reduceEqDiff,↓reduceIte,Nat.reduceAdd]|((with_reducible refine aV [0,1,2,3] (hly) ?_ ?_ ?_ ?_);exact rfl;exact rfl;(focus ((simp only [go_sem];done))))|((with_reducible refine aQ (htn) ?_ ?_ ?_);exact rfl;exact rfl))
   exact ⟨rfl,rfl,rfl,rfl,.inr ⟨1,rfl⟩,.inr ⟨1,rfl⟩,.inr ⟨1,rfl⟩⟩
end
section
theorem YZ {r:Rm} {sn s:List UInt8} (hr:OkR r) (hs:s.length≤1000000000)
  (h3:((snP r sn).2 == 0)=true→(jH r s == 0)=true→(mL r (snP r sn).1.i == 0)=true→OkR ⟨cA r.N s r.x,r.L++[⟨r.x,(snP r sn).1.i,0,false⟩],oQ r.E r.x [],r.x+1⟩∧OkG (r.L++[⟨r.x,(snP r sn).1.i,0,false⟩])):
  aA Tryz.prog 13 [.c (.ptr 0 0),.c (.p (.s sn)),.c (.p (.s s))] (bX r) fun d h=>d=.c (.p (.i .i64 (GW r sn s).2))∧h=pW (GW r sn s).1:=by
 have hsn:=zF1 (s:=sn) hr
 have hfr:=wQ (s:=s) hr hs
 have hdp:=CZ (a:=(snP r sn).1.i) hr
 have had:=fun h1 h2=>MV (s:=s) (i0:=0) (p:=(snP r sn).1.i) (q:=0) (es:=[]) hr h1 h2
 unfold GW
 generalize snP r sn=y at *
 obtain ⟨⟨yi,yp,yq,yf⟩,e⟩:=y
 simp only [Ly.cv] at *
 generalize jH r s=e2 at *
 generalize mL r yi=e3 at *
 have bad:∀ {c:List CV} {e:Int},aA Tryz.prog 13 [.c (.ptr 0 0),.c (.p (.s sn)),.c (.p (.s s))] (bX r) (fun d h=>d=.c (.p (.i .i64 e))∧h=bX r++[.box c])→aA Tryz.prog 13 [.c (.ptr 0 0),.c (.p (.s sn)),.c (.p (.s s))] (bX r) (fun d h=>d=.c (.p (.i .i64 e))∧h=pW r):=fun {c e} hc =>
  aA.perm [0,5,6,7,1,2,3] hc rfl rfl (by unfold pW bX;exact (by simp only [gU,nR,kO,gS,qT];(repeat' (first|exact rfl|exact True.intro|refine And.intro ?_ ?_))))
 cases he:(e == 0)
 ·have hb:(e != 0)=true:=by rw [bne,he];rfl
  simp only [Bool.not_false,if_true]
  refine bad (c:=[.p (.i .i64 yi),.p (.i .i64 yp),.p (.i .i64 yq),.p (.b yf)]) ?_
  clear had h3 hfr hdp
  refine WC aB aK Tryz.func13 rfl rfl fun X0 hX=>?_
  simp only [Tryz.f13,go_sem]
  repeat' (first|simp only [*,go_sem,Nat.reduceLT,Nat.reduceLeDiff,Nat.reduceEqDiff,↓reduceIte,Nat.reduceAdd]|((with_reducible refine aV [0,1,2,3] (hsn) ?_ ?_ ?_ ?_);exact rfl;exact rfl;(focus ((simp only [go_sem];done)))))
 ·have hb:(e != 0)=false:=by rw [bne,he];rfl
  simp only [Bool.not_true,Bool.false_eq_true,if_false]
  cases he2:(e2 == 0)
  ·have hb2:(e2 != 0)=true:=by rw [bne,he2];rfl
   simp only [Bool.not_false,if_true]
   refine bad (c:=[.p (.i .i64 yi),.p (.i .i64 yp),.p (.i .i64 yq),.p (.b yf)]) ?_
   clear had h3 hdp
   refine WC aB aK Tryz.func13 rfl rfl fun X0 hX=>?_
   simp only [Tryz.f13,go_sem]
   repeat' (first|simp only [*,go_sem,Nat.reduceLT,Nat.reduceLeDiff,Nat.reduceEqDiff,↓reduceIte,Nat.reduceAdd]|((with_reducible refine aV [0,1,2,3] (hsn) ?_ ?_ ?_ ?_);exact rfl;exact rfl;(focus ((simp only [go_sem];done))))|((with_reducible refine aV [0,1,2,3] (hfr) ?_ ?_ ?_ ?_);exact rfl;exact rfl;(focus ((simp only [go_sem];done)))))
  ·have hb2:(e2 != 0)=false:=by rw [bne,he2];rfl
   simp only [Bool.not_true,Bool.false_eq_true,if_false]
   cases he3:(e3 == 0)
   ·have hb3:(e3 != 0)=true:=by rw [bne,he3];rfl
    simp only [Bool.not_false,if_true]
    refine bad (c:=[.p (.i .i64 yi),.p (.i .i64 yp),.p (.i .i64 yq),.p (.b yf)]) ?_
    clear had h3
    refine WC aB aK Tryz.func13 rfl rfl fun X0 hX=>?_
    simp only [Tryz.f13,go_sem]
    repeat' (first|simp only [*,go_sem,Nat.reduceLT,Nat.reduceLeDiff,Nat.reduceEqDiff,↓reduceIte,Nat.reduceAdd]|((with_reducible refine aV [0,1,2,3] (hsn) ?_ ?_ ?_ ?_);exact rfl;exact rfl;(focus ((simp only [go_sem];done))))|((with_reducible refine aV [0,1,2,3] (hfr) ?_ ?_ ?_ ?_);exact rfl;exact rfl;(focus ((simp only [go_sem];done))))|((with_reducible refine aV [0,1,2,3] (hdp) ?_ ?_ ?_ ?_);exact rfl;exact rfl;(focus ((simp only [go_sem];done)))))
   ·have hb3:(e3 != 0)=false:=by rw [bne,he3];rfl
    simp only [Bool.not_true,Bool.false_eq_true,if_false]
    obtain ⟨k1,k2⟩:=h3 he he2 he3
    have hadd:=aA.wkA (args:=[.c (.ptr 0 0),.c (.p (.s s)),.agg [.p (.i .i64 0),.p (.i .i64 yi),.p (.i .i64 0),.p (.b false)],.c (.p .nil)]) (args':=[.c (.ptr 0 0),.c (.p (.s s)),.agg [.p (.i .i64 0),.p (.i .i64 yi),.p (.i .i64 0),.p (.b false)],.c (.p (.sl 7 (fV [])))]) ⟨rfl,zBd,⟨wkP.rfl,wkP.rfl,wkP.rfl,wkP.rfl,True.intro⟩,zDZ,True.intro⟩ (had k1 k2)
    clear had h3 k1 k2
    generalize zJC r s yi 0 []=c at hadd ⊢
    refine aA.perm [0,1,2,3,5,6,7] (d1:=.c (.p (.i .i64 0))) (h1:=[.box [.own 5 0 c.N.length,.own 6 0 c.L.length,.mp 7,.p (.i .i64 c.x)],.dead,.dead,.dead,.box [.p (.i .i64 yi),.p (.i .i64 yp),.p (.i .i64 yq),.p (.b yf)],.arr 2 (cR c.N) false,.arr 4 (dZ c.L) false,.mp (BT c.E)]) ?_ rfl rfl (by unfold pW;exact (by simp only [gU,nR,kO,gS,qT];(repeat' (first|exact rfl|exact True.intro|refine And.intro ?_ ?_))))
    refine WC aB aK Tryz.func13 rfl rfl fun X0 hX=>?_
    simp only [Tryz.f13,go_sem]
    repeat' (first|simp only [*,go_sem,Nat.reduceLT,Nat.reduceLeDiff,Nat.reduceEqDiff,↓reduceIte,Nat.reduceAdd,Nat.reduceSub]|((with_reducible refine aV [0,1,2,3] (hsn) ?_ ?_ ?_ ?_);exact rfl;exact rfl;(focus ((simp only [go_sem];done))))|((with_reducible refine aV [0,1,2,3] (hfr) ?_ ?_ ?_ ?_);exact rfl;exact rfl;(focus ((simp only [go_sem];done))))|((with_reducible refine aV [0,1,2,3] (hdp) ?_ ?_ ?_ ?_);exact rfl;exact rfl;(focus ((simp only [go_sem];done))))|((with_reducible refine aV [0,1,2,3] (hadd) ?_ ?_ ?_ ?_);exact rfl;exact rfl;(focus ((simp only [go_sem];done)))))
end
section
theorem ZM {r:Rm}:aA Tryz.prog 39 [.c (.ptr 0 0)] (bX r) fun d h=>d=.c (.p (.i .i64 r.x))∧h=bX r:=by
 refine ent aB aK Tryz.func39 rfl rfl fun X0 hX=>?_
 simp only [Tryz.f39,go_sem]
 repeat' (simp only [*,go_sem,Nat.reduceLT,Nat.reduceEqDiff,↓reduceIte,Nat.reduceAdd])
theorem zCg {h:aD} {i n:Nat} {l:List Nm} {K:DV→aD→Prop} (hl:l.length≤1000000) (hn:n=l.length) (h0:h[i]? = some (.arr 2 (cR l) false)) (hk:K (.c (.own h.length 0 l.length)) (h++[.arr 2 (cR l) false])):
  aA Tryz.prog 68 [.c (.own i 0 n)] h K:=by
 refine zKw (by rw [hn,← gL,List.take_length]) (zAT hl) h0 (by simp [wP,oW,jD,cR,tU]) ?_
 simpa [DV.sh,CV.sh,DB.sh,gL] using hk
theorem PR {r:Rm} (hr:OkR r):aA Tryz.prog 25 [.c (.ptr 0 0)] (bX r) fun d h=>d=.c (.own 4 0 r.N.length)∧h=bX r++[.arr 2 (cR r.N) false]:=by
 have hnl:=hr.nl
 have hk:∀ {h:aD} {K:DV→aD→Prop},h[1]? = some (.arr 2 (cR r.N) false)→K (.c (.own h.length 0 r.N.length)) (h++[.arr 2 (cR r.N) false])→aA Tryz.prog 68 [.c (.own 1 0 r.N.length)] h K:=fun h0 hk=>zCg (by omega) rfl h0 hk
 refine WC aB aK Tryz.func25 rfl rfl fun X0 hX=>?_
 simp only [Tryz.f25,go_sem]
 repeat' (simp only [*,go_sem,Nat.reduceLT,Nat.reduceEqDiff,↓reduceIte,Nat.reduceAdd])
theorem ZZ {r:Rm} {s:List UInt8} (hr:OkR r):aA Tryz.prog 15 [.c (.ptr 0 0),.c (.p (.s s))] (bX r) fun d h=>d=.tup [.c (.p (.sl 5 (aT (lT r s).1))),.c (.p (.i .i64 (lT r s).2))]∧h=bX r:=by
 have hly:=lZ (s:=s) hr
 have htr:=jM (a:=(cP r s).1.i) hr
 unfold lT
 generalize cP r s=y at *
 obtain ⟨⟨yi,yp,yq,yf⟩,e⟩:=y
 simp only [Ly.cv] at *
 generalize treeR r yi=T at *
 clear hr
 refine bJ ?_
 cases he:(e == 0)
 ·have hb:(e != 0)=true:=by rw [bne,he];rfl
  simp only [Bool.not_false,if_true]
  refine ent aB aK Tryz.func15 rfl rfl fun X0 hX=>?_
  simp only [Tryz.f15,go_sem]
  repeat' (first|simp only [*,go_sem,Nat.reduceLT,Nat.reduceLeDiff,Nat.reduceEqDiff,↓reduceIte,Nat.reduceAdd]|((with_reducible refine aV [0,1,2,3] (hly) ?_ ?_ ?_ ?_);exact rfl;exact rfl;(focus ((simp only [go_sem];done)))))
  all_goals exact .inr ⟨5,rfl⟩
 ·have hb:(e != 0)=false:=by rw [bne,he];rfl
  simp only [Bool.not_true,Bool.false_eq_true,if_false]
  refine ent aB aK Tryz.func15 rfl rfl fun X0 hX=>?_
  simp only [Tryz.f15,go_sem]
  repeat' (first|simp only [*,go_sem,Nat.reduceLT,Nat.reduceLeDiff,Nat.reduceEqDiff,↓reduceIte,Nat.reduceAdd]|((with_reducible refine aV [0,1,2,3] (hly) ?_ ?_ ?_ ?_);exact rfl;exact rfl;(focus ((simp only [go_sem];done))))|((with_reducible refine aV [0,1,2,3] (htr) ?_ ?_ ?_ ?_);exact rfl;exact rfl;(focus ((simp only [go_sem];done)))))
end
end Go.Proofs.YtbpblnmhlhpebaaGreatDoor
namespace Go.Proofs.YtbpblnmhlhpebaaGreatDoor
open Go Go.Dm
section
theorem zHL {k m:Int} {t:Nat} {d:List UInt8}:aA Tryz.prog 231 [.agg (ndc k m t d)] [] fun r h=>r=.c (.p (.b (rB ⟨k,m,t,d⟩)))∧h=[]:=by
 refine ent aB aK Tryz.func231 rfl rfl fun X0 hX=>?_
 simp only [Tryz.f231,go_sem]
 repeat' (first|simp only [*,go_sem,Nat.reduceLT,Nat.reduceEqDiff,↓reduceIte]|((with_reducible refine aQ (xB _) ?_ ?_ ?_);exact rfl;exact rfl)|with_reducible refine bF (fun _=>?_) (fun _=>?_))
 all_goals first|(simp_all [rB];done)|(simp_all [rB];rw [Bool.eq_iff_iff];simp)
end
end Go.Proofs.YtbpblnmhlhpebaaGreatDoor
