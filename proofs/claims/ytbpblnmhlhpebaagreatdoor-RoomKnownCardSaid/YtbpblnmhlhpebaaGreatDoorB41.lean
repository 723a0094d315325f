/- Part 42 of the proof of roomKnown_card. No condition. -/
import Derived.StringKeys
import Derived.Test.YtbpblnmhlhpebaaGreatDoorB40
set_option linter.all false
set_option maxRecDepth 100000
set_option maxHeartbeats 8000000
namespace Go.Proofs.YtbpblnmhlhpebaaGreatDoor
open Go Go.Dm Go.Proofs
section
theorem YV {r:Rm} {sn s:List UInt8} (hr:OkR r) (hs:s.length≤1000000000)
  (h3:((snP r sn).2 == 0)=true→(gG r s == 0)=true→(gO r (snP r sn).1.i == 0)=true→OkR ⟨bX r.N s r.x,r.L++[⟨r.x,(snP r sn).1.i,0,false⟩],mW r.E r.x [],r.x+1⟩∧OkG (r.L++[⟨r.x,(snP r sn).1.i,0,false⟩])):
  aA Tryz.prog 13 [.c (.ptr 0 0),.c (.p (.s sn)),.c (.p (.s s))] (bH r) fun d h=>d=.c (.p (.i .i64 (LP r sn s).2))∧h=fO (LP r sn s).1:=by
 have hsn:=SL (s:=sn) hr
 have hfr:=qB (s:=s) hr hs
 have hdp:=oR (a:=(snP r sn).1.i) hr
 have had:=fun h1 h2=>rH (s:=s) (i0:=0) (p:=(snP r sn).1.i) (q:=0) (es:=[]) hr h1 h2
 unfold LP
 generalize snP r sn=y at *
 obtain ⟨⟨yi,yp,yq,yf⟩,e⟩:=y
 simp only [Ly.cv] at *
 generalize gG r s=e2 at *
 generalize gO r yi=e3 at *
 have bad:∀ {c:List CV} {e:Int},aA Tryz.prog 13 [.c (.ptr 0 0),.c (.p (.s sn)),.c (.p (.s s))] (bH r) (fun d h=>d=.c (.p (.i .i64 e))∧h=bH r++[.box c])→aA Tryz.prog 13 [.c (.ptr 0 0),.c (.p (.s sn)),.c (.p (.s s))] (bH r) (fun d h=>d=.c (.p (.i .i64 e))∧h=fO r):=fun {c e} hc =>
  aA.perm [0,5,6,7,1,2,3] hc rfl rfl (by unfold fO bH;exact (by simp only [eO,fJ,fL,eP,jS];(repeat' (first|exact rfl|exact True.intro|refine And.intro ?_ ?_))))
 cases he:(e == 0)
 ·have hb:(e != 0)=true:=by rw [bne,he];rfl
  simp only [Bool.not_false,if_true]
  refine bad (c:=[.p (.i .i64 yi),.p (.i .i64 yp),.p (.i .i64 yq),.p (.b yf)]) ?_
  clear had h3 hfr hdp
  refine sK aB aK Tryz.func13 rfl rfl fun X0 hX=>?_
  simp only [Tryz.f13,go_sem]
  repeat' (first|simp only [*,go_sem,Nat.reduceLT,Nat.reduceLeDiff,Nat.reduceEqDiff,↓reduceIte,Nat.reduceAdd]|((with_reducible refine aL [0,1,2,3] (hsn) ?_ ?_ ?_ ?_);exact rfl;exact rfl;(focus ((simp only [go_sem];done)))))
 ·have hb:(e != 0)=false:=by rw [bne,he];rfl
  simp only [Bool.not_true,Bool.false_eq_true,if_false]
  cases he2:(e2 == 0)
  ·have hb2:(e2 != 0)=true:=by rw [bne,he2];rfl
   simp only [Bool.not_false,if_true]
   refine bad (c:=[.p (.i .i64 yi),.p (.i .i64 yp),.p (.i .i64 yq),.p (.b yf)]) ?_
   clear had h3 hdp
   refine sK aB aK Tryz.func13 rfl rfl fun X0 hX=>?_
   simp only [Tryz.f13,go_sem]
   repeat' (first|simp only [*,go_sem,Nat.reduceLT,Nat.reduceLeDiff,Nat.reduceEqDiff,↓reduceIte,Nat.reduceAdd]|((with_reducible refine aL [0,1,2,3] (hsn) ?_ ?_ ?_ ?_);exact rfl;exact rfl;(focus ((simp only [go_sem];done))))|((with_reducible refine aL [0,1,2,3] (hfr) ?_ ?_ ?_ ?_);exact rfl;exact rfl;(focus ((simp only [go_sem];done)))))
  ·have hb2:(e2 != 0)=false:=by rw [bne,he2];rfl
   simp only [Bool.not_true,Bool.false_eq_true,if_false]
   cases he3:(e3 == 0)
   ·have hb3:(e3 != 0)=true:=by rw [bne,he3];rfl
    simp only [Bool.not_false,if_true]
    refine bad (c:=[.p (.i .i64 yi),.p (.i .i64 yp),.p (.i .i64 yq),.p (.b yf)]) ?_
    clear had h3
    refine sK aB aK Tryz.func13 rfl rfl fun X0 hX=>?_
    simp only [Tryz.f13,go_sem]
    repeat' (first|simp only [*,go_sem,Nat.reduceLT,Nat.reduceLeDiff,Nat.reduceEqDiff,↓reduceIte,Nat.reduceAdd]|((with_reducible refine aL [0,1,2,3] (hsn) ?_ ?_ ?_ ?_);exact rfl;exact rfl;(focus ((simp only [go_sem];done))))|((with_reducible refine aL [0,1,2,3] (hfr) ?_ ?_ ?_ ?_);exact rfl;exact rfl;(focus ((simp only [go_sem];done))))|((with_reducible refine aL [0,1,2,3] (hdp) ?_ ?_ ?_ ?_);exact rfl;exact rfl;(focus ((simp only [go_sem];done)))))
   ·have hb3:(e3 != 0)=false:=by rw [bne,he3];rfl
    simp only [Bool.not_true,Bool.false_eq_true,if_false]
    obtain ⟨k1,k2⟩:=h3 he he2 he3
    have hadd:=aA.wkA (args:=[.c (.ptr 0 0),.c (.p (.s s)),.agg [.p (.i .i64 0),.p (.i .i64 yi),.p (.i .i64 0),.p (.b false)],.c (.p .nil)]) (args':=[.c (.ptr 0 0),.c (.p (.s s)),.agg [.p (.i .i64 0),.p (.i .i64 yi),.p (.i .i64 0),.p (.b false)],.c (.p (.sl 7 (gN [])))]) ⟨rfl,zAc,⟨wkP.rfl,wkP.rfl,wkP.rfl,wkP.rfl,True.intro⟩,zDR,True.intro⟩ (had k1 k2)
    clear had h3 k1 k2
    generalize ZJ r s yi 0 []=c at hadd ⊢
    refine aA.perm [0,1,2,3,5,6,7] (d1:=.c (.p (.i .i64 0))) (h1:=[.box [.own 5 0 c.N.length,.own 6 0 c.L.length,.mp 7,.p (.i .i64 c.x)],.dead,.dead,.dead,.box [.p (.i .i64 yi),.p (.i .i64 yp),.p (.i .i64 yq),.p (.b yf)],.arr 2 (bW c.N) false,.arr 4 (dS c.L) false,.mp (wC c.E)]) ?_ rfl rfl (by unfold fO;exact (by simp only [eO,fJ,fL,eP,jS];(repeat' (first|exact rfl|exact True.intro|refine And.intro ?_ ?_))))
    refine sK aB aK Tryz.func13 rfl rfl fun X0 hX=>?_
    simp only [Tryz.f13,go_sem]
    repeat' (first|simp only [*,go_sem,Nat.reduceLT,Nat.reduceLeDiff,Nat.reduceEqDiff,↓reduceIte,Nat.reduceAdd,Nat.reduceSub]|((with_reducible refine aL [0,1,2,3] (hsn) ?_ ?_ ?_ ?_);exact rfl;exact rfl;(focus ((simp only [go_sem];done))))|((with_reducible refine aL [0,1,2,3] (hfr) ?_ ?_ ?_ ?_);exact rfl;exact rfl;(focus ((simp only [go_sem];done))))|((with_reducible refine aL [0,1,2,3] (hdp) ?_ ?_ ?_ ?_);exact rfl;exact rfl;(focus ((simp only [go_sem];done))))|((with_reducible refine aL [0,1,2,3] (hadd) ?_ ?_ ?_ ?_);exact rfl;exact rfl;(focus ((simp only [go_sem];done)))))
end
section
theorem XR {r:Rm}:aA Tryz.prog 39 [.c (.ptr 0 0)] (bH r) fun d h=>d=.c (.p (.i .i64 r.x))∧h=bH r:=by
 refine ent aB aK Tryz.func39 rfl rfl fun X0 hX=>?_
 simp only [Tryz.f39,go_sem]
 repeat' (simp only [*,go_sem,Nat.reduceLT,Nat.reduceEqDiff,↓reduceIte,Nat.reduceAdd])
theorem MM {h:aC} {i n:Nat} {l:List Nm} {K:DV→aC→Prop} (hl:l.length≤1000000) (hn:n=l.length) (h0:h[i]? = some (.arr 2 (bW l) false)) (hk:K (.c (.own h.length 0 l.length)) (h++[.arr 2 (bW l) false])):
  aA Tryz.prog 68 [.c (.own i 0 n)] h K:=by
 refine zKs (by rw [hn,← gE,List.take_length]) (zAT hl) h0 (by simp [tZ,pA,jD,bW,sR]) ?_
 simpa [DV.sh,CV.sh,DB.sh,gE] using hk
theorem QX {r:Rm} (hr:OkR r):aA Tryz.prog 25 [.c (.ptr 0 0)] (bH r) fun d h=>d=.c (.own 4 0 r.N.length)∧h=bH r++[.arr 2 (bW r.N) false]:=by
 have hnl:=hr.nl
 have hk:∀ {h:aC} {K:DV→aC→Prop},h[1]? = some (.arr 2 (bW r.N) false)→K (.c (.own h.length 0 r.N.length)) (h++[.arr 2 (bW r.N) false])→aA Tryz.prog 68 [.c (.own 1 0 r.N.length)] h K:=fun h0 hk=>MM (by omega) rfl h0 hk
 refine sK aB aK Tryz.func25 rfl rfl fun X0 hX=>?_
 simp only [Tryz.f25,go_sem]
 repeat' (simp only [*,go_sem,Nat.reduceLT,Nat.reduceEqDiff,↓reduceIte,Nat.reduceAdd])
theorem tU {r:Rm} {s:List UInt8} (hr:OkR r):aA Tryz.prog 15 [.c (.ptr 0 0),.c (.p (.s s))] (bH r) fun d h=>d=.tup [.c (.p (.sl 5 (aV (eD r s).1))),.c (.p (.i .i64 (eD r s).2))]∧h=bH r:=by
 have hly:=gS (s:=s) hr
 have htr:=dL (a:=(bQ r s).1.i) hr
 unfold eD
 generalize bQ r s=y at *
 obtain ⟨⟨yi,yp,yq,yf⟩,e⟩:=y
 simp only [Ly.cv] at *
 generalize treeR r yi=T at *
 clear hr
 refine aX ?_
 cases he:(e == 0)
 ·have hb:(e != 0)=true:=by rw [bne,he];rfl
  simp only [Bool.not_false,if_true]
  refine ent aB aK Tryz.func15 rfl rfl fun X0 hX=>?_
  simp only [Tryz.f15,go_sem]
  repeat' (first|simp only [*,go_sem,Nat.reduceLT,Nat.reduceLeDiff,Nat.reduceEqDiff,↓reduceIte,Nat.reduceAdd]|((with_reducible refine aL [0,1,2,3] (hly) ?_ ?_ ?_ ?_);exact rfl;exact rfl;(focus ((simp only [go_sem];done)))))
  all_goals exact .inr ⟨5,rfl⟩
 ·have hb:(e != 0)=false:=by rw [bne,he];rfl
  simp only [Bool.not_true,Bool.false_eq_true,if_false]
  refine ent aB aK Tryz.func15 rfl rfl fun X0 hX=>?_
  simp only [Tryz.f15,go_sem]
  repeat' (first|simp only [*,go_sem,Nat.reduceLT,Nat.reduceLeDiff,Nat.reduceEqDiff,↓reduceIte,Nat.reduceAdd]|((with_reducible refine aL [0,1,2,3] (hly) ?_ ?_ ?_ ?_);exact rfl;exact rfl;(focus ((simp only [go_sem];done))))|((with_reducible refine aL [0,1,2,3] (htr) ?_ ?_ ?_ ?_);exact rfl;exact rfl;(focus ((simp only [go_sem];done)))))
end
end Go.Proofs.YtbpblnmhlhpebaaGreatDoor
namespace Go.Proofs.YtbpblnmhlhpebaaGreatDoor
open Go Go.Dm
section
theorem zG8 {k m:Int} {t:Nat} {d:List UInt8}:aA Tryz.prog 231 [.agg (ndc k m t d)] [] fun r h=>r=.c (.p (.b (sC ⟨k,m,t,d⟩)))∧h=[]:=by
 refine ent aB aK Tryz.func231 rfl rfl fun X0 hX=>?_
 simp only [Tryz.f231,go_sem]
 repeat' (first|simp only [*,go_sem,Nat.reduceLT,Nat.reduceEqDiff,↓reduceIte]|((with_reducible refine aS (TY _) ?_ ?_ ?_);exact rfl;exact rfl)|with_reducible refine bR (fun _=>?_) (fun _=>?_))
 all_goals first|(simp_all [sC];done)|(simp_all [sC];rw [Bool.eq_iff_iff];simp)
end
section
theorem zKX {p:List UInt8} {ck k m k2 m2:Int} {t t2:Nat} {d d2:List UInt8} (hp:p.length≤1000000000) (ht:t<18446744073709551616) (ht2:t2<18446744073709551616):
  aA Tryz.prog 164 [.agg [.p (.s p),.p (.i .i64 ck),.p (.i .i64 k),.p (.i .i64 m),.p (.f t),.p (.sl 1 (cB d)),.p (.i .i64 k2),.p (.i .i64 m2),.p (.f t2),.p (.sl 1 (cB d2))]] [] fun r h=>r=.c (.p (.b (zHw ⟨p,ck,⟨k,m,t,d⟩,⟨k2,m2,t2,d2⟩⟩)))∧h=[]:=by
 have c1:=zG8 (k:=k) (m:=m) (t:=t) (d:=d)
 have c2:=zG8 (k:=k2) (m:=m2) (t:=t2) (d:=d2)
 have c3:=dQ (k:=k) (m:=m) (d:=d) ht
 have c4:=dQ (k:=k2) (m:=m2) (d:=d2) ht2
 have c5:=fE hp
 have c6:=zGS (k:=k) (m:=m) (t:=t) (d:=d) (k':=k2) (m':=m2) (t':=t2) (d':=d2) (!(ck == 1)) (!(ck == 2))
 unfold zHw
 simp only
 generalize sC ⟨k,m,t,d⟩=z1 at c1 ⊢
 generalize sC ⟨k2,m2,t2,d2⟩=z2 at c2 ⊢
 generalize aT ⟨k,m,t,d⟩=r1 at c3 ⊢
 generalize aT ⟨k2,m2,t2,d2⟩=r2 at c4 ⊢
 generalize cG p=ip at c5 ⊢
 generalize oY (!(ck == 1)) (!(ck == 2)) ⟨k,m,t,d⟩ ⟨k2,m2,t2,d2⟩=kf at c6 ⊢
 have n1:(ck != 1) = !(ck == 1):=rfl
 have n2:(ck != 2) = !(ck == 2):=rfl
 have n0:(ck != 0) = !(ck == 0):=rfl
 have n3:(p != []) = !(p == []):=rfl
 have hqq:((ck == 1) && (ck == 2))=false:=by
  cases e1:(ck == 1)
  ·rfl
  ·rw [eq_of_beq e1];rfl
 generalize (ck == 1)=q1 at n1 c6 hqq ⊢
 generalize (ck == 2)=q2 at n2 c6 hqq ⊢
 generalize (ck == 0)=q0 at n0 ⊢
 generalize hq8:(kf == ck)=q8
 generalize hp0:(p == [])=p0 at n3 ⊢
 cases q1 <;> cases q2
 ·simp only [Bool.not_false,Bool.false_or,Bool.or_true,Bool.and_true] at n1 n2 c6 ⊢
  clear hqq
  refine ent aB aK Tryz.func164 rfl rfl fun X0 hX=>?_
  simp only [Tryz.f164,go_sem]
  repeat' (first|simp only [*,go_sem,Nat.reduceLT,↓reduceIte,Bool.not_true,Bool.not_false]|((refine aN (id:=1) aB aK [] [0,1,2,3,4,5,6,7] (by decide +kernel) ?_);(repeat' (first|(refine aW ?_)|((refine cD ?_ rfl rfl ?_ ?_);(rotate_left 1);(focus ((repeat' (simp only [*,go_sem,Nat.reduceLT,Nat.reduceEqDiff,↓reduceIte]));exact rfl));(simp only [aF])))))|((refine aN (id:=2) aB aK [] [0,1,2,3,4,5,6,7,8,9,10,11,12,13,14,15,16,17,18,19,20,21,22,23,24,25,26,27,28,29,30,31,32,33,34,35,36,37,38,39,40,41,42,43,44,45,46,47,48,49,50,51,52,53,54,55,56,57,58,59] (by decide +kernel) ?_);(repeat' (first|(refine aW ?_)|((refine cD ?_ rfl rfl ?_ ?_);(rotate_left 1);(focus ((repeat' (first|simp only [*,go_sem,Nat.reduceLT,Nat.reduceLeDiff,Nat.reduceEqDiff,↓reduceIte,Nat.reduceAdd,Bool.not_true,Bool.not_false]|((with_reducible refine aS (c1) ?_ ?_ ?_);exact rfl;exact rfl)|((with_reducible refine aS (c2) ?_ ?_ ?_);exact rfl;exact rfl)|((with_reducible refine aS (c3) ?_ ?_ ?_);exact rfl;exact rfl)|((with_reducible refine aS (c4) ?_ ?_ ?_);exact rfl;exact rfl)|((with_reducible refine aS (c5) ?_ ?_ ?_);exact rfl;exact rfl)|((with_reducible refine aS (c6) ?_ ?_ ?_);exact rfl;exact rfl)|with_reducible refine bR (fun _=>?_) (fun _=>?_)));exact rfl));(simp only [aF]))|(cases p0)|(cases ip)|(cases z1)|(cases z2)|(cases r1)|(cases r2)|(cases q0)))))
  all_goals first|(simp;done)|trace_state
 ·simp only [Bool.not_true,Bool.not_false,Bool.false_or,Bool.or_true,Bool.true_or,Bool.or_false,Bool.and_true] at n1 n2 c6 ⊢
  clear hqq c4 r2
  refine ent aB aK Tryz.func164 rfl rfl fun X0 hX=>?_
  simp only [Tryz.f164,go_sem]
  repeat' (first|simp only [*,go_sem,Nat.reduceLT,↓reduceIte,Bool.not_true,Bool.not_false]|((refine aN (id:=1) aB aK [] [0,1,2,3,4,5,6,7] (by decide +kernel) ?_);(repeat' (first|(refine aW ?_)|((refine cD ?_ rfl rfl ?_ ?_);(rotate_left 1);(focus ((repeat' (simp only [*,go_sem,Nat.reduceLT,Nat.reduceEqDiff,↓reduceIte]));exact rfl));(simp only [aF])))))|((refine aN (id:=2) aB aK [] [0,1,2,3,4,5,6,7,8,9,10,11,12,13,14,15,16,17,18,19,20,21,22,23,24,25,26,27,28,29,30,31,32,33,34,35,36,37,38,39,40,41,42,43,44,45,46,47,48,49,50,51,52,53,54,55,56,57,58,59] (by decide +kernel) ?_);(repeat' (first|(refine aW ?_)|((refine cD ?_ rfl rfl ?_ ?_);(rotate_left 1);(focus ((repeat' (first|simp only [*,go_sem,Nat.reduceLT,Nat.reduceLeDiff,Nat.reduceEqDiff,↓reduceIte,Nat.reduceAdd,Bool.not_true,Bool.not_false]|((with_reducible refine aS (c1) ?_ ?_ ?_);exact rfl;exact rfl)|((with_reducible refine aS (c2) ?_ ?_ ?_);exact rfl;exact rfl)|((with_reducible refine aS (c3) ?_ ?_ ?_);exact rfl;exact rfl)|((with_reducible refine aS (c5) ?_ ?_ ?_);exact rfl;exact rfl)|((with_reducible refine aS (c6) ?_ ?_ ?_);exact rfl;exact rfl)|with_reducible refine bR (fun _=>?_) (fun _=>?_)));exact rfl));(simp only [aF]))|(cases p0)|(cases ip)|(cases z1)|(cases z2)|(cases r1)|(cases q0)))))
  all_goals first|(simp;done)|trace_state
 ·simp only [Bool.not_true,Bool.not_false,Bool.false_or,Bool.or_true,Bool.true_or,Bool.or_false,Bool.and_true] at n1 n2 c6 ⊢
  clear hqq c3 r1
  refine ent aB aK Tryz.func164 rfl rfl fun X0 hX=>?_
  simp only [Tryz.f164,go_sem]
  repeat' (first|simp only [*,go_sem,Nat.reduceLT,↓reduceIte,Bool.not_true,Bool.not_false]|((refine aN (id:=1) aB aK [] [0,1,2,3,4,5,6,7] (by decide +kernel) ?_);(repeat' (first|(refine aW ?_)|((refine cD ?_ rfl rfl ?_ ?_);(rotate_left 1);(focus ((repeat' (simp only [*,go_sem,Nat.reduceLT,Nat.reduceEqDiff,↓reduceIte]));exact rfl));(simp only [aF])))))|((refine aN (id:=2) aB aK [] [0,1,2,3,4,5,6,7,8,9,10,11,12,13,14,15,16,17,18,19,20,21,22,23,24,25,26,27,28,29,30,31,32,33,34,35,36,37,38,39,40,41,42,43,44,45,46,47,48,49,50,51,52,53,54,55,56,57,58,59] (by decide +kernel) ?_);(repeat' (first|(refine aW ?_)|((refine cD ?_ rfl rfl ?_ ?_);(rotate_left 1);(focus ((repeat' (first|simp only [*,go_sem,Nat.reduceLT,Nat.reduceLeDiff,Nat.reduceEqDiff,↓reduceIte,Nat.reduceAdd,Bool.not_true,Bool.not_false]|((with_reducible refine aS (c1) ?_ ?_ ?_);exact rfl;exact rfl)|((with_reducible refine aS (c2) ?_ ?_ ?_);exact rfl;exact rfl)|((with_reducible refine aS (c4) ?_ ?_ ?_);exact rfl;exact rfl)|((with_reducible refine aS (c5) ?_ ?_ ?_);exact rfl;exact rfl)|((with_reducible refine aS (c6) ?_ ?_ ?_);exact rfl;exact rfl)|with_reducible refine bR (fun _=>?_) (fun _=>?_)));exact rfl));(simp only [aF]))|(cases p0)|(cases ip)|(cases z1)|(cases z2)|(cases r2)|(cases q0)))))
  all_goals first|(simp;done)|trace_state
 ·cases hqq
theorem JH {l:List Ch} (hl:l.length≤1000000) (hp:∀ x∈l,x.p.length≤1000000000∧x.o.t<18446744073709551616∧x.n.t<18446744073709551616):
  aA Tryz.prog 96 [.c (.p (.sl 10 (oJ l)))] [] fun r h=>r=.c (.p (.b (mH l)))∧h=[]:=by
 refine ent aB aK Tryz.func96 rfl rfl fun X0 hX=>?_
 simp only [Tryz.f96,go_sem]
 repeat' (simp only [*,go_sem,Nat.reduceLT,Nat.reduceEqDiff,↓reduceIte])
 refine bC aB aK (α:=Nat) (fun k=>⟨32,[(0,.c (.p (.sl 10 (oJ l)))),(5,.c (.p (.sl 10 (oJ l)))),(6,.c (.p (.i .i64 l.length))),(7,.c (.p (.i .i64 k)))],[]⟩)
  (fun k=>k≤l.length∧fM (rU l k) (l.drop k)=mH l) (fun k=>l.length-k) 0 ⟨Nat.zero_le _,rfl⟩ (.inl (aJ (by rw [hX];rfl) rfl rfl (by simp [aI,aM,aD,aH,aG]))) ?_
 rintro k ⟨hk,hgo⟩
 by_cases hlt:k<l.length
 ·have hx:l[k]? = some l[k]:=List.getElem?_eq_getElem hlt
  have hg:=zC hx
  have h1:decide ((k:Int)<(l.length:Int))=true:=decide_eq_true (by omega)
  have w1:IntKind.i64.wrap ((k:Int)+1)=k+1:=wrap_i64 (by omega) (by omega)
  have hki:(k:Int)<(l.length:Int):=by omega
  have hk0:(0:Int)≤k:=by omega
  have prev:(decide ((0:Int)<k)=false∧yU (rU l k) l[k].p=true)∨∃ m:Nat,∃ y:Ch,decide ((0:Int)<k)=true∧IntKind.i64.wrap ((k:Int)-1)=(m:Int)∧(m:Int)<l.length∧l[m]? = some y∧decide (AP l[k].p y.p≤0) = !yU (rU l k) l[k].p:=by
   by_cases h0:0<k
   ·have hmk:k-1<l.length:=by omega
    refine .inr ⟨k-1,l[k-1],decide_eq_true (by omega),?_,by omega,List.getElem?_eq_getElem hmk,?_⟩
    ·rw [wrap_i64 (by omega) (by omega)];omega
    ·rw [zIH]
     have e:rU l k=some l[k-1].p:=by
      have:=yH (List.getElem?_eq_getElem hmk)
      rw [show k-1+1=k by omega] at this
      exact this
     rw [e];rfl
   ·refine .inl ⟨decide_eq_false (by omega),?_⟩
    have:k=0:=by omega
    subst this;rfl
  have hdr:l.drop k=l[k]::l.drop (k+1):=List.drop_eq_getElem_cons hlt
  have hnx:=yH hx
  rw [hdr,fM,← hnx] at hgo
  obtain ⟨p1,p2,p3⟩:=hp _ (List.getElem_mem hlt)
  have hc:=zKX (p:=l[k].p) (ck:=l[k].k) (k:=l[k].o.k) (m:=l[k].o.m) (t:=l[k].o.t) (d:=l[k].o.d) (k2:=l[k].n.k) (m2:=l[k].n.m) (t2:=l[k].n.t) (d2:=l[k].n.d) p1 p2 p3
  have e5:Ch.mk l[k].p l[k].k ⟨l[k].o.k,l[k].o.m,l[k].o.t,l[k].o.d⟩ ⟨l[k].n.k,l[k].n.m,l[k].n.t,l[k].n.d⟩=l[k]:=rfl
  rw [e5] at hc
  clear hnx hdr hp e5
  generalize yU (rU l k) l[k].p=a3 at prev hgo
  generalize l[k]=x at hx hg prev hc hgo p1
  generalize zHw x=mc at hc hgo
  cases mc
  ·have hf:mH l=false:=by rw [← hgo];rfl
   rw [hf]
   clear hf hgo
   rcases prev with ⟨b1,rfl⟩|⟨m,y,b1,b2,b3,b4,b5⟩
   ·repeat' (first|simp only [*,go_sem,Nat.reduceLT,Nat.reduceLeDiff,Nat.reduceEqDiff,↓reduceIte,Nat.reduceAdd]|((refine aN (id:=4) aB aK [] [0,1,2,3,4,5,6,7,8,9,10,11,12,13,14,15,16,17,18] (by decide +kernel) ?_);(repeat' (first|(refine aW ?_)|((refine cD ?_ rfl rfl ?_ ?_);(rotate_left 1);(focus ((repeat' (first|simp only [*,go_sem,Nat.reduceLT,Nat.reduceLeDiff,Nat.reduceEqDiff,↓reduceIte,Nat.reduceAdd,Bool.not_false]|((with_reducible refine aS (hc) ?_ ?_ ?_);exact rfl;exact rfl)));exact rfl));(simp only [aF]))))))
   ·have hgy:=zC b4
    repeat' (first|simp only [*,go_sem,Nat.reduceLT,Nat.reduceLeDiff,Nat.reduceEqDiff,↓reduceIte,Nat.reduceAdd]|((refine aN (id:=4) aB aK [] [0,1,2,3,4,5,6,7,8,9,10,11,12,13,14,15,16,17,18] (by decide +kernel) ?_);(repeat' (first|(refine aW ?_)|((refine cD ?_ rfl rfl ?_ ?_);(rotate_left 1);(focus ((repeat' (first|simp only [*,go_sem,Nat.reduceLT,Nat.reduceLeDiff,Nat.reduceEqDiff,↓reduceIte,Nat.reduceAdd,Bool.not_false]|((with_reducible refine aS (hc) ?_ ?_ ?_);exact rfl;exact rfl)));exact rfl));(simp only [aF]))))))
  ·rcases prev with ⟨b1,rfl⟩|⟨m,y,b1,b2,b3,b4,b5⟩
   ·have hJ:k+1≤l.length∧fM (rU l (k+1)) (l.drop (k+1))=mH l:=⟨by omega,by rw [← hgo];simp⟩
    clear hgo
    repeat' (first|simp only [*,go_sem,Nat.reduceLT,Nat.reduceLeDiff,Nat.reduceEqDiff,↓reduceIte,Nat.reduceAdd]|((refine aN (id:=4) aB aK [] [0,1,2,3,4,5,6,7,8,9,10,11,12,13,14,15,16,17,18] (by decide +kernel) ?_);(repeat' (first|(refine aW ?_)|((refine cD ?_ rfl rfl ?_ ?_);(rotate_left 1);(focus ((repeat' (first|simp only [*,go_sem,Nat.reduceLT,Nat.reduceLeDiff,Nat.reduceEqDiff,↓reduceIte,Nat.reduceAdd,Bool.not_true]|((with_reducible refine aS (hc) ?_ ?_ ?_);exact rfl;exact rfl)));exact rfl));(simp only [aF]))))))
    exact gL (k+1) hJ (by omega) (aJ rfl rfl rfl (by simp [aI,aM,aD,aH,aG]))
   ·have hgy:=zC b4
    have hm0:(0:Int)≤m:=by omega
    cases a3
    ·have hf:mH l=false:=by rw [← hgo];rfl
     rw [hf]
     rw [Bool.not_false] at b5
     clear hf hgo b4
     repeat' (first|simp only [*,go_sem,Nat.reduceLT,Nat.reduceLeDiff,Nat.reduceEqDiff,↓reduceIte,Nat.reduceAdd]|((refine aN (id:=4) aB aK [] [0,1,2,3,4,5,6,7,8,9,10,11,12,13,14,15,16,17,18] (by decide +kernel) ?_);(repeat' (first|(refine aW ?_)|((refine cD ?_ rfl rfl ?_ ?_);(rotate_left 1);(focus ((repeat' (first|simp only [*,go_sem,Nat.reduceLT,Nat.reduceLeDiff,Nat.reduceEqDiff,↓reduceIte,Nat.reduceAdd,Bool.not_true]|((with_reducible refine aS (hc) ?_ ?_ ?_);exact rfl;exact rfl)|((with_reducible refine aS (mF) ?_ ?_ ?_);exact rfl;exact rfl)));exact rfl));(simp only [aF]))))))
    ·have hJ:k+1≤l.length∧fM (rU l (k+1)) (l.drop (k+1))=mH l:=⟨by omega,by rw [← hgo];simp⟩
     rw [Bool.not_true] at b5
     clear hgo b4
     repeat' (first|simp only [*,go_sem,Nat.reduceLT,Nat.reduceLeDiff,Nat.reduceEqDiff,↓reduceIte,Nat.reduceAdd]|((refine aN (id:=4) aB aK [] [0,1,2,3,4,5,6,7,8,9,10,11,12,13,14,15,16,17,18] (by decide +kernel) ?_);(repeat' (first|(refine aW ?_)|((refine cD ?_ rfl rfl ?_ ?_);(rotate_left 1);(focus ((repeat' (first|simp only [*,go_sem,Nat.reduceLT,Nat.reduceLeDiff,Nat.reduceEqDiff,↓reduceIte,Nat.reduceAdd,Bool.not_true]|((with_reducible refine aS (hc) ?_ ?_ ?_);exact rfl;exact rfl)|((with_reducible refine aS (mF) ?_ ?_ ?_);exact rfl;exact rfl)));exact rfl));(simp only [aF]))))))
     exact gL (k+1) hJ (by omega) (aJ rfl rfl rfl (by simp [aI,aM,aD,aH,aG]))
 ·have h1:decide ((k:Int)<(l.length:Int))=false:=decide_eq_false (by omega)
  rw [List.drop_of_length_le (by omega),fM] at hgo
  rw [← hgo]
  clear hgo
  repeat' (simp only [*,go_sem,Nat.reduceLT,Nat.reduceEqDiff,↓reduceIte])
end
end Go.Proofs.YtbpblnmhlhpebaaGreatDoor
namespace Go.Dm
open Go Go.WideMaps Go.MapKept Go.WideShapes
section
def zLe (k:List UInt8):Value:=.string ⟨k.toArray⟩
def YO (w:World) (b:Nat) (ks:List (List UInt8)):Prop:=∃ es clock,w.heap[b]? = some (.map es clock) ∧
 (∀ e∈es.toList,∃ k∈ks,e.key=zLe k∧e.val=.bool true)∧∀ k∈ks,k.length≤maxLen∧∃ e∈es.toList,e.key=zLe k
theorem YO.keys {P:Program} {kt:TypeId} (hk:P.underlying kt=some .string) {es:Array MapEntry} {ks:List (List UInt8)} (h1:∀ e∈es.toList,∃ k∈ks,e.key=zLe k∧e.val=.bool true) (h2:∀ k∈ks,k.length≤maxLen∧∃ e∈es.toList,e.key=zLe k):
  ∀ e∈es.toList,∃ l,keyOf P kt e.key=some l:=fun e he=>by
 obtain ⟨k,hk',he1,_⟩:=h1 e he
 rw [he1]
 exact ⟨_,keyOf_string_mk hk (by show k.toArray.size≤maxLen;simpa using (h2 k hk').1)⟩
def zBo (X:Ctx) (b:Nat):Prop:=b<X.w.heap.size∧¬ X.S b∧∀ id db g,X.h[id]? = some db→db.live=true→X.G id=some g→g.1≠b
theorem zBo.step {X X':Ctx} {b:Nat} (ha:zBo X b) (hi':HInv X') (hs:Step X X'):zBo X' b∧X'.w.heap[b]? = X.w.heap[b]? := by
 obtain ⟨h1,h2,h3⟩:=ha
 have hS:¬ X'.S b:=fun h=>by
  rcases hs.upper b h with h|h|⟨id,db,g,hd,hl,hg,e⟩
  ·exact h2 h
  ·omega
  ·exact h3 id db g hd hl hg e
 refine ⟨⟨Nat.lt_of_lt_of_le h1 hs.size,hS,fun id db g hd hl hg e=>?_⟩,hs.frame b h1 fun id db g hd hl _ hg=>h3 id db g hd hl hg⟩
 cases hf:db.fix
 ·rcases hs.mine id db g hd hl hf hg with h|⟨id0,db0,g0,hd0,hl0,_,hg0,e0⟩
  ·omega
  ·exact h3 id0 db0 g0 hd0 hl0 hg0 (e0.trans e)
 ·exact hS (e▸(hi'.own id db g hd hl hg).2 hf)
theorem YO.same {w w':World} {b:Nat} {ks:List (List UInt8)} (h:YO w b ks) (e:w'.heap[b]? = w.heap[b]?):YO w' b ks:=by
 obtain ⟨es,c,h1,h2⟩:=h
 exact ⟨es,c,e.trans h1,h2⟩
section put
variable {X:Ctx} {b:Nat} {o:Obj}
end put
end
end Go.Dm
namespace Go.Dm
open Go
section
section rules
variable {P:Program} {T:Tab} {X0:Ctx} {b:Nat}
def zL0 (b:Nat) (X0:Ctx) (Q:List (List UInt8)→Exit→DS→Prop):Exit→Act→World→Prop:=fun e a w =>
 ∃ s X ks,Q ks e s∧X.w=w∧X.h=s.h∧HInv X∧Step X0 X∧TInv X s a∧zBo X b∧YO X.w b ks
def zMq (P:Program) (b:Nat) (X0:Ctx) (c:Code) (s:DS) (ks:List (List UInt8)) (Q:List (List UInt8)→Exit→DS→Prop):Prop :=
 Gnd P X0→X0.w.heap.size≤b→∀ (X:Ctx) (a:Act),X.h=s.h→HInv X→Step X0 X→TInv X s a→zBo X b→YO X.w b ks→c.wp P (zL0 b X0 Q) a X.w
def zLp (P:Program) (b:Nat) (X0:Ctx) (y:Code) (ks:List (List UInt8)) (Q:List (List UInt8)→Exit→DS→Prop):Exit→DS→Prop:=fun e s'=>match e with
 | .normal=>zMq P b X0 y s' ks Q
 | e=>Q ks e s'
variable {s:DS} {ks:List (List UInt8)} {Q:List (List UInt8)→Exit→DS→Prop}
theorem qm_n {y:Code} {s:DS}:zLp P b X0 y ks Q .normal s=zMq P b X0 y s ks Q:=nr rfl
theorem qm_r {y:Code} {s:DS}:zLp P b X0 y ks Q .ret s=Q ks .ret s:=nr rfl
theorem qm_e {y:Code} {id:Nat} {s:DS}:zLp P b X0 y ks Q (.exit id) s=Q ks (.exit id) s:=nr rfl
theorem zBo.cut {X:Ctx} (ha:zBo X b) (n:Nat):zBo (X.cut n) b:=⟨ha.1,ha.2.1,fun id db g hd hl hg=>ha.2.2 id db g (fA hd).1 hl hg⟩
theorem zBo.ren {X:Ctx} (ha:zBo X b) {p q:Nat} (hpq:p≠q) {k:Nat} {es:List (List PV)} (hq:X.h[q]? = some (.arr k es false)):zBo (X.ren p q) b:=⟨ha.1,ha.2.1,fun id db g hd hl hg=>by
 rcases gK hpq hd hl with ⟨rfl,h1,_⟩|⟨h1,h2,x,h3,rfl⟩
 ·simp only [Ctx.ren,if_true] at hg
  exact ha.2.2 q _ g h1 hl hg
 ·simp only [Ctx.ren,if_neg h1] at hg
  refine ha.2.2 id x g h3 ?_ hg
  cases x <;> simp_all [DB.live,renB]⟩
def zGU {α:Type} (n0:Nat) (I:α→DS) (Kf:α→List (List UInt8)) (J:α→Prop) (μ:α→Nat) (x:α) (Q:List (List UInt8)→Exit→DS→Prop) (ks:List (List UInt8)):Exit→DS→Prop:=fun e s'=>match e with
 | .normal=>∃ y,J y∧μ y < μ x∧ks=Kf y∧MJ n0 s' (I y)
 | e=>Q ks e s'
theorem zLS {α:Type} {n0:Nat} {I:α→DS} {Kf:α→List (List UInt8)} {J:α→Prop} {μ:α→Nat} {x:α} {s:DS}:zGU n0 I Kf J μ x Q ks .ret s=Q ks .ret s:=nr rfl
theorem zLU {α:Type} {n0:Nat} {I:α→DS} {Kf:α→List (List UInt8)} {J:α→Prop} {μ:α→Nat} {x:α} {id:Nat} {s:DS}:zGU n0 I Kf J μ x Q ks (.exit id) s=Q ks (.exit id) s:=nr rfl
end rules
attribute [go_sem] qm_n qm_r qm_e zLS zLU
end
end Go.Dm
namespace Go.Proofs.YtbpblnmhlhpebaaGreatDoor
open Go Go.Dm Go.Proofs
section
theorem XF {r:Rm} {o t:List UInt8} (hr:OkR r):aA Tryz.prog 61 [.c (.ptr 0 0),.c (.p (.s o)),.c (.p (.s t))] (bH r) fun d h=>d=.tup [.agg (eA r o t).1.cv,.agg (eA r o t).2.1.cv,.c (.p (.i .i64 (eA r o t).2.2))]∧h=bH r:=by
 have h1:=gS (s:=o) hr
 have h2:=gS (s:=t) hr
 unfold eA
 generalize bQ r o=y1 at *
 generalize bQ r t=y2 at *
 obtain ⟨⟨ai,ap,aq,af⟩,e1⟩:=y1
 obtain ⟨⟨bi,bp,bq,bf⟩,e2⟩:=y2
 simp only [Ly.cv] at *
 clear hr
 cases he:(e1 == 0)
 ·have hb:(e1 != 0)=true:=by rw [bne,he];rfl
  simp only [Bool.not_false,if_true]
  clear h2
  refine ent aB aK Tryz.func61 rfl rfl fun X0 hX=>?_
  simp only [Tryz.f61,go_sem]
  repeat' (first|simp only [*,go_sem,Nat.reduceLT,Nat.reduceLeDiff,Nat.reduceEqDiff,↓reduceIte,Nat.reduceAdd]|((with_reducible refine aL [0,1,2,3] (h1) ?_ ?_ ?_ ?_);exact rfl;exact rfl;(focus ((simp only [go_sem];done))))|((refine aN (id:=3) aB aK [3,4] [0,3,1,4,2,5] (by decide +kernel) ?_);(repeat' (first|(refine aW ?_)|((refine cX ?_ ?_ rfl rfl rfl ?_ ?_);(rotate_left 2);(focus ((repeat' (simp only [*,go_sem,Nat.reduceLeDiff,Nat.reduceEqDiff,↓reduceIte,Nat.reduceAdd]));((refine And.intro ?_ ?_ <;> exact rfl))));(simp only [bK]))|((refine cY ?_ rfl rfl rfl ?_ ?_);(rotate_left 1);(focus ((repeat' (first|exact bJ|refine aZ ?_ ?_));(all_goals ((repeat' (simp only [*,go_sem,Nat.reduceLT,Nat.reduceLeDiff,Nat.reduceEqDiff,↓reduceIte,Nat.reduceAdd]));(try (exact rfl))))));(simp only [aF]))))))
 ·have hb:(e1 != 0)=false:=by rw [bne,he];rfl
  simp only [Bool.not_true,Bool.false_eq_true,if_false]
  cases he2:(e2 == 0) <;> cases af <;> cases bf
  all_goals simp only [Bool.not_true,Bool.not_false,Bool.or_true,Bool.or_false,Bool.and_true,Bool.and_false,Bool.false_eq_true,if_false,if_true]
  all_goals
   refine ent aB aK Tryz.func61 rfl rfl fun X0 hX=>?_
   simp only [Tryz.f61,go_sem]
   repeat' (first|simp only [*,go_sem,Nat.reduceLT,Nat.reduceLeDiff,Nat.reduceEqDiff,↓reduceIte,Nat.reduceAdd,Bool.not_true,Bool.not_false]|((with_reducible refine aL [0,1,2,3] (h1) ?_ ?_ ?_ ?_);exact rfl;exact rfl;(focus ((simp only [go_sem];done))))|((with_reducible refine aL [0,1,2,3] (h2) ?_ ?_ ?_ ?_);exact rfl;exact rfl;(focus ((simp only [go_sem];done))))|((refine aN (id:=7) aB aK [3,4] [0,3,1,4,2,5] (by decide +kernel) ?_);(repeat' (first|(refine aW ?_)|((refine cX ?_ ?_ rfl rfl rfl ?_ ?_);(rotate_left 2);(focus ((repeat' (simp only [*,go_sem,Nat.reduceLeDiff,Nat.reduceEqDiff,↓reduceIte,Nat.reduceAdd]));((refine And.intro ?_ ?_ <;> exact rfl))));(simp only [bK]))|((refine cY ?_ rfl rfl rfl ?_ ?_);(rotate_left 1);(focus ((repeat' (first|exact bJ|refine aZ ?_ ?_));(all_goals ((repeat' (simp only [*,go_sem,Nat.reduceLT,Nat.reduceLeDiff,Nat.reduceEqDiff,↓reduceIte,Nat.reduceAdd]));(try (exact rfl))))));(simp only [aF]))))))
end
end Go.Proofs.YtbpblnmhlhpebaaGreatDoor
