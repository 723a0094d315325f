/- Part 45 of the proof of roomKnown_card. No condition. -/
import Derived.Test.YtbpblnmhlhpebaaGreatDoorB43
set_option linter.all false
set_option maxRecDepth 100000
set_option maxHeartbeats 8000000
namespace Go.Proofs.YtbpblnmhlhpebaaGreatDoor
open Go Go.Dm Go.Proofs
section
theorem zJ0 {h:aC} {i n:Nat} {l:List Ly} {a b:Int} {K:DV→aC→Prop} (hl:l.length≤100000) (hgr:OkG l) (hn:n=l.length) (h0:h[i]? = some (.arr 4 (dS l) false)) (hk:K (.c (.p (.i .i64 (AO l a b)))) h):
  aA Tryz.prog 63 [.c (.own i 0 n),.c (.p (.i .i64 a)),.c (.p (.i .i64 b))] h K:=by
 refine zKp rfl rfl (by rw [hn,← kJ,List.take_length]) (zJE hl hgr) h0 rfl ?_
 simpa [DV.sh,CV.sh] using hk
theorem PK {r:Rm} {o t s:List UInt8} (hr:OkR r) (hgr:OkG r.L) (hs:s.length≤1000000000) (hT:∀ i,OkT (treeR r i))
  (h3:((eA r o t).2.2 == 0)=true→(gG r s == 0)=true→(gO r (eA r o t).1.i == 0)=true→∀ w,OkT w→∀ q,q=(if (eA r o t).1.i == (eA r o t).2.1.i then 0 else (eA r o t).2.1.i) →
   OkR ⟨bX r.N s r.x,r.L++[⟨r.x,(eA r o t).1.i,q,false⟩],mW r.E r.x (dY (treeR r (eA r o t).1.i) w),r.x+1⟩∧OkG (r.L++[⟨r.x,(eA r o t).1.i,q,false⟩]))
  (hM:∀ a b c,(eZ (treeR r a) (treeR r b) (treeR r c)).2.2=0→OkT (eZ (treeR r a) (treeR r b) (treeR r c)).1):
  aA Tryz.prog 19 [.c (.ptr 0 0),.c (.p (.s o)),.c (.p (.s t)),.c (.p (.s s))] (bH r) fun d h=>d=.tup [.c (.p (.sl 2 (fS (mK r o t s).2.1))),.c (.p (.i .i64 (mK r o t s).2.2))]∧h=fO (mK r o t s).1:=by
 have hbo:=XF (o:=o) (t:=t) hr
 have hfr:=qB (s:=s) hr hs
 have hdp:=oR (a:=(eA r o t).1.i) hr
 unfold mK
 generalize eA r o t=y at *
 obtain ⟨⟨ai,ap,aq,af⟩,⟨ci,cp,cq,cf⟩,e⟩:=y
 simp only [Ly.cv] at *
 generalize gG r s=e2 at *
 have bad:∀ {c1 c2:List CV} {F:List Cf} {e:Int},aA Tryz.prog 19 [.c (.ptr 0 0),.c (.p (.s o)),.c (.p (.s t)),.c (.p (.s s))] (bH r) (fun d h=>d=.tup [.c (.p (.sl 2 (fS F))),.c (.p (.i .i64 e))]∧h=bH r++[.box c1,.box c2])→aA Tryz.prog 19 [.c (.ptr 0 0),.c (.p (.s o)),.c (.p (.s t)),.c (.p (.s s))] (bH r) (fun d h=>d=.tup [.c (.p (.sl 2 (fS F))),.c (.p (.i .i64 e))]∧h=fO r):=fun {c1 c2 F e} hc =>
  aA.perm [0,6,7,8,1,2,3] hc rfl rfl (by unfold fO bH;exact (by simp only [eO,fJ,fL,eP,jS];(repeat' (first|exact rfl|exact True.intro|refine And.intro ?_ ?_))))
 cases he:(e == 0)
 ·have hb:(e != 0)=true:=by rw [bne,he];rfl
  simp only [Bool.not_false,if_true]
  refine bad (c1:=[.p (.i .i64 ai),.p (.i .i64 ap),.p (.i .i64 aq),.p (.b af)]) (c2:=[.p (.i .i64 ci),.p (.i .i64 cp),.p (.i .i64 cq),.p (.b cf)]) (aX ?_)
  clear h3 hM hfr hdp bad hT hr
  refine sK aB aK Tryz.func19 rfl rfl fun X0 hX=>?_
  simp only [Tryz.f19,go_sem]
  repeat' (first|simp only [*,go_sem,Nat.reduceLT,Nat.reduceLeDiff,Nat.reduceEqDiff,↓reduceIte,Nat.reduceAdd]|((with_reducible refine aL [0,1,2,3] (hbo) ?_ ?_ ?_ ?_);exact rfl;exact rfl;(focus ((simp only [go_sem];done)))))
  all_goals exact .inr ⟨2,rfl⟩
 ·have hb:(e != 0)=false:=by rw [bne,he];rfl
  simp only [Bool.not_true,Bool.false_eq_true,if_false]
  cases he2:(e2 == 0)
  ·have hb2:(e2 != 0)=true:=by rw [bne,he2];rfl
   simp only [Bool.not_false,if_true]
   refine bad (c1:=[.p (.i .i64 ai),.p (.i .i64 ap),.p (.i .i64 aq),.p (.b af)]) (c2:=[.p (.i .i64 ci),.p (.i .i64 cp),.p (.i .i64 cq),.p (.b cf)]) (aX ?_)
   clear h3 hM hdp bad hT hr
   refine sK aB aK Tryz.func19 rfl rfl fun X0 hX=>?_
   simp only [Tryz.f19,go_sem]
   repeat' (first|simp only [*,go_sem,Nat.reduceLT,Nat.reduceLeDiff,Nat.reduceEqDiff,↓reduceIte,Nat.reduceAdd]|((with_reducible refine aL [0,1,2,3] (hbo) ?_ ?_ ?_ ?_);exact rfl;exact rfl;(focus ((simp only [go_sem];done))))|((with_reducible refine aL [0,1,2,3] (hfr) ?_ ?_ ?_ ?_);exact rfl;exact rfl;(focus ((simp only [go_sem];done)))))
   all_goals exact .inr ⟨2,rfl⟩
  ·have hb2:(e2 != 0)=false:=by rw [bne,he2];rfl
   simp only [Bool.not_true,Bool.false_eq_true,if_false]
   generalize gO r ai=e3 at *
   cases he3:(e3 == 0)
   ·have hb3:(e3 != 0)=true:=by rw [bne,he3];rfl
    simp only [Bool.not_false,if_true]
    refine bad (c1:=[.p (.i .i64 ai),.p (.i .i64 ap),.p (.i .i64 aq),.p (.b af)]) (c2:=[.p (.i .i64 ci),.p (.i .i64 cp),.p (.i .i64 cq),.p (.b cf)]) (aX ?_)
    clear h3 hM bad hT hr
    refine sK aB aK Tryz.func19 rfl rfl fun X0 hX=>?_
    simp only [Tryz.f19,go_sem]
    repeat' (first|simp only [*,go_sem,Nat.reduceLT,Nat.reduceLeDiff,Nat.reduceEqDiff,↓reduceIte,Nat.reduceAdd]|((with_reducible refine aL [0,1,2,3] (hbo) ?_ ?_ ?_ ?_);exact rfl;exact rfl;(focus ((simp only [go_sem];done))))|((with_reducible refine aL [0,1,2,3] (hfr) ?_ ?_ ?_ ?_);exact rfl;exact rfl;(focus ((simp only [go_sem];done))))|((with_reducible refine aL [0,1,2,3] (hdp) ?_ ?_ ?_ ?_);exact rfl;exact rfl;(focus ((simp only [go_sem];done)))))
    all_goals exact .inr ⟨2,rfl⟩
   ·have hb3:(e3 != 0)=false:=by rw [bne,he3];rfl
    simp only [Bool.not_true,Bool.false_eq_true,if_false]
    have hbk:∀ {h:aC} {K:DV→aC→Prop},h[2]? = some (.arr 4 (dS r.L) false)→K (.c (.p (.i .i64 (AO r.L ai ci)))) h→aA Tryz.prog 63 [.c (.own 2 0 r.L.length),.c (.p (.i .i64 ai)),.c (.p (.i .i64 ci))] h K:=fun h0 hk=>zJ0 (by have:=hr.ll;omega) hgr rfl h0 hk
    generalize AO r.L ai ci=B at *
    have t1:=dL (a:=B) hr
    have t2:=dL (a:=ai) hr
    have t3:=dL (a:=ci) hr
    have hmg:=SK (hT B).s (hT ai).s (hT ci).s
    have hm0:=hM B ai ci
    have hTa:=hT ai
    have h3:=fun w q hw hq=>h3 he he2 he3 w hw q hq
    have hadd0:=fun w q h1 h2=>rH (s:=s) (i0:=0) (p:=ai) (q:=q) (es:=dY (treeR r ai) w) hr h1 h2
    generalize treeR r B=TB at *
    generalize treeR r ai=TA at *
    generalize treeR r ci=TC at *
    generalize eZ TB TA TC=m at *
    obtain ⟨m1,F,e4⟩:=m
    simp only at *
    cases he4:(e4 == 0)
    ·have hb4:(e4 != 0)=true:=by rw [bne,he4];rfl
     simp only [Bool.not_false,if_true]
     refine bad (c1:=[.p (.i .i64 ai),.p (.i .i64 ap),.p (.i .i64 aq),.p (.b af)]) (c2:=[.p (.i .i64 ci),.p (.i .i64 cp),.p (.i .i64 cq),.p (.b cf)]) ?_
     clear h3 hM bad hT hr hadd0
     refine sK aB aK Tryz.func19 rfl rfl fun X0 hX=>?_
     simp only [Tryz.f19,go_sem]
     repeat' (first|simp only [*,go_sem,Nat.reduceLT,Nat.reduceLeDiff,Nat.reduceEqDiff,↓reduceIte,Nat.reduceAdd]|((with_reducible refine aL [0,1,2,3] (hbo) ?_ ?_ ?_ ?_);exact rfl;exact rfl;(focus ((simp only [go_sem];done))))|((with_reducible refine aL [0,1,2,3] (hfr) ?_ ?_ ?_ ?_);exact rfl;exact rfl;(focus ((simp only [go_sem];done))))|((with_reducible refine aL [0,1,2,3] (hdp) ?_ ?_ ?_ ?_);exact rfl;exact rfl;(focus ((simp only [go_sem];done))))|((refine aN (id:=10) aB aK [] [0,1,2,3,4,5,6,7,8,9,10,11,12,13,14,15,16,17,18,19,20,21,22,23,24,25,26] (by decide +kernel) ?_);(repeat' (first|(refine aW ?_)|((refine cD ?_ rfl rfl ?_ ?_);(rotate_left 1);(focus ((repeat' (first|simp only [*,go_sem,Nat.reduceLT,Nat.reduceEqDiff,↓reduceIte,Nat.reduceAdd]|refine hbk rfl ?_|((with_reducible refine aL [0,1,2,3] (t1) ?_ ?_ ?_ ?_);exact rfl;exact rfl;(focus ((simp only [go_sem];done))))|((with_reducible refine aL [0,1,2,3] (t2) ?_ ?_ ?_ ?_);exact rfl;exact rfl;(focus ((simp only [go_sem];done))))|((with_reducible refine aL [0,1,2,3] (t3) ?_ ?_ ?_ ?_);exact rfl;exact rfl;(focus ((simp only [go_sem];done))))|((with_reducible refine bP (hmg) ?_ ?_ ?_);exact rfl;exact fun _=>rfl)));exact rfl));(simp only [aF]))))))
    ·have hb4:(e4 != 0)=false:=by rw [bne,he4];rfl
     simp only [Bool.not_true,Bool.false_eq_true,if_false]
     obtain rfl:e4=0:=by simpa using he4
     have hm1:=hm0 rfl
     have hmk:=pN hTa hm1
     cases hac:(ai == ci)
     all_goals simp only [Bool.false_eq_true,if_false,if_true]
     ·obtain ⟨k1,k2⟩:=h3 m1 ci hm1 (by rw [hac];rfl)
      have hadd:=hadd0 m1 ci k1 k2
      clear h3 hadd0 hM bad hT hm0 hm1 hTa k1 k2
      generalize dY TA m1=E1 at *
      generalize ZJ r s ai ci E1=c at *
      clear hr
      refine aA.perm [0,1,2,3,7,8,9] (d1:=.tup [.c (.p (.sl 2 (fS []))),.c (.p (.i .i64 0))]) (h1:=[.box [.own 7 0 c.N.length,.own 8 0 c.L.length,.mp 9,.p (.i .i64 c.x)],.dead,.dead,.dead,.box [.p (.i .i64 ai),.p (.i .i64 ap),.p (.i .i64 aq),.p (.b af)],.box [.p (.i .i64 ci),.p (.i .i64 cp),.p (.i .i64 cq),.p (.b cf)],.box [.p (.i .i64 0),.p (.i .i64 ai),.p (.i .i64 ci),.p (.b false)],.arr 2 (bW c.N) false,.arr 4 (dS c.L) false,.mp (wC c.E)]) (aX ?_) rfl rfl (by unfold fO;exact (by simp only [eO,fJ,fL,eP,jS];(repeat' (first|exact rfl|exact True.intro|refine And.intro ?_ ?_))))
      refine sK aB aK Tryz.func19 rfl rfl fun X0 hX=>?_
      simp only [Tryz.f19,go_sem]
      repeat' (first|simp only [*,go_sem,Nat.reduceLT,Nat.reduceLeDiff,Nat.reduceEqDiff,↓reduceIte,Nat.reduceAdd,bne_self_eq_false]|((with_reducible refine aL [0,1,2,3] (hbo) ?_ ?_ ?_ ?_);exact rfl;exact rfl;(focus ((simp only [go_sem];done))))|((with_reducible refine aL [0,1,2,3] (hfr) ?_ ?_ ?_ ?_);exact rfl;exact rfl;(focus ((simp only [go_sem];done))))|((with_reducible refine aL [0,1,2,3] (hdp) ?_ ?_ ?_ ?_);exact rfl;exact rfl;(focus ((simp only [go_sem];done))))|((refine aN (id:=10) aB aK [] [0,1,2,3,4,5,6,7,8,9,10,11,12,13,14,15,16,17,18,19,20,21,22,23,24,25,26] (by decide +kernel) ?_);(repeat' (first|(refine aW ?_)|((refine cD ?_ rfl rfl ?_ ?_);(rotate_left 1);(focus ((repeat' (first|simp only [*,go_sem,Nat.reduceLT,Nat.reduceEqDiff,↓reduceIte,Nat.reduceAdd]|refine hbk rfl ?_|((with_reducible refine aL [0,1,2,3] (t1) ?_ ?_ ?_ ?_);exact rfl;exact rfl;(focus ((simp only [go_sem];done))))|((with_reducible refine aL [0,1,2,3] (t2) ?_ ?_ ?_ ?_);exact rfl;exact rfl;(focus ((simp only [go_sem];done))))|((with_reducible refine aL [0,1,2,3] (t3) ?_ ?_ ?_ ?_);exact rfl;exact rfl;(focus ((simp only [go_sem];done))))|((with_reducible refine bP (hmg) ?_ ?_ ?_);exact rfl;exact fun _=>rfl)));exact rfl));(simp only [aF])))))|((refine aN (id:=16) aB aK [9] [0,1,2,3,4,5,6,7,8,9] (by decide +kernel) ?_);(repeat' (first|(refine aW ?_)|((refine cX ?_ ?_ rfl rfl rfl ?_ ?_);(rotate_left 2);(focus ((repeat' (first|simp only [*,go_sem,Nat.reduceLT,Nat.reduceEqDiff,↓reduceIte,Nat.reduceAdd,Nat.reduceSub]|((with_reducible refine aL [0,1,2,3] (hadd) ?_ ?_ ?_ ?_);exact rfl;exact rfl;(focus ((simp only [go_sem];done))))));((refine And.intro ?_ ?_ <;> exact rfl))));(simp only [aF]))|((refine cY ?_ rfl rfl rfl ?_ ?_);(rotate_left 1);(focus ((repeat' (first|exact bJ|refine aZ ?_ ?_));(all_goals ((repeat' (first|simp only [*,go_sem,Nat.reduceLT,Nat.reduceLeDiff,Nat.reduceEqDiff,↓reduceIte,Nat.reduceAdd]|((with_reducible refine aL [0,1,2,3] (t2) ?_ ?_ ?_ ?_);exact rfl;exact rfl;(focus ((simp only [go_sem];done))))|((with_reducible refine bP (hmk) ?_ ?_ ?_);exact rfl;exact fun _=>rfl)));(try (exact rfl))))));(simp only [aF]))))))
      all_goals exact .inr ⟨2,rfl⟩
     ·obtain ⟨k1,k2⟩:=h3 m1 0 hm1 (by rw [hac];rfl)
      have hadd:=hadd0 m1 0 k1 k2
      clear h3 hadd0 hM bad hT hm0 hm1 hTa k1 k2
      generalize dY TA m1=E1 at *
      generalize ZJ r s ai 0 E1=c at *
      clear hr
      refine aA.perm [0,1,2,3,7,8,9] (d1:=.tup [.c (.p (.sl 2 (fS []))),.c (.p (.i .i64 0))]) (h1:=[.box [.own 7 0 c.N.length,.own 8 0 c.L.length,.mp 9,.p (.i .i64 c.x)],.dead,.dead,.dead,.box [.p (.i .i64 ai),.p (.i .i64 ap),.p (.i .i64 aq),.p (.b af)],.box [.p (.i .i64 ci),.p (.i .i64 cp),.p (.i .i64 cq),.p (.b cf)],.box [.p (.i .i64 0),.p (.i .i64 ai),.p (.i .i64 0),.p (.b false)],.arr 2 (bW c.N) false,.arr 4 (dS c.L) false,.mp (wC c.E)]) (aX ?_) rfl rfl (by unfold fO;exact (by simp only [eO,fJ,fL,eP,jS];(repeat' (first|exact rfl|exact True.intro|refine And.intro ?_ ?_))))
      refine sK aB aK Tryz.func19 rfl rfl fun X0 hX=>?_
      simp only [Tryz.f19,go_sem]
      repeat' (first|simp only [*,go_sem,Nat.reduceLT,Nat.reduceLeDiff,Nat.reduceEqDiff,↓reduceIte,Nat.reduceAdd,bne_self_eq_false]|((with_reducible refine aL [0,1,2,3] (hbo) ?_ ?_ ?_ ?_);exact rfl;exact rfl;(focus ((simp only [go_sem];done))))|((with_reducible refine aL [0,1,2,3] (hfr) ?_ ?_ ?_ ?_);exact rfl;exact rfl;(focus ((simp only [go_sem];done))))|((with_reducible refine aL [0,1,2,3] (hdp) ?_ ?_ ?_ ?_);exact rfl;exact rfl;(focus ((simp only [go_sem];done))))|((refine aN (id:=10) aB aK [] [0,1,2,3,4,5,6,7,8,9,10,11,12,13,14,15,16,17,18,19,20,21,22,23,24,25,26] (by decide +kernel) ?_);(repeat' (first|(refine aW ?_)|((refine cD ?_ rfl rfl ?_ ?_);(rotate_left 1);(focus ((repeat' (first|simp only [*,go_sem,Nat.reduceLT,Nat.reduceEqDiff,↓reduceIte,Nat.reduceAdd]|refine hbk rfl ?_|((with_reducible refine aL [0,1,2,3] (t1) ?_ ?_ ?_ ?_);exact rfl;exact rfl;(focus ((simp only [go_sem];done))))|((with_reducible refine aL [0,1,2,3] (t2) ?_ ?_ ?_ ?_);exact rfl;exact rfl;(focus ((simp only [go_sem];done))))|((with_reducible refine aL [0,1,2,3] (t3) ?_ ?_ ?_ ?_);exact rfl;exact rfl;(focus ((simp only [go_sem];done))))|((with_reducible refine bP (hmg) ?_ ?_ ?_);exact rfl;exact fun _=>rfl)));exact rfl));(simp only [aF])))))|((refine aN (id:=16) aB aK [9] [0,1,2,3,4,5,6,7,8,9] (by decide +kernel) ?_);(repeat' (first|(refine aW ?_)|((refine cX ?_ ?_ rfl rfl rfl ?_ ?_);(rotate_left 2);(focus ((repeat' (first|simp only [*,go_sem,Nat.reduceLT,Nat.reduceEqDiff,↓reduceIte,Nat.reduceAdd,Nat.reduceSub]|((with_reducible refine aL [0,1,2,3] (hadd) ?_ ?_ ?_ ?_);exact rfl;exact rfl;(focus ((simp only [go_sem];done))))));((refine And.intro ?_ ?_ <;> exact rfl))));(simp only [aF]))|((refine cY ?_ rfl rfl rfl ?_ ?_);(rotate_left 1);(focus ((repeat' (first|exact bJ|refine aZ ?_ ?_));(all_goals ((repeat' (first|simp only [*,go_sem,Nat.reduceLT,Nat.reduceLeDiff,Nat.reduceEqDiff,↓reduceIte,Nat.reduceAdd]|((with_reducible refine aL [0,1,2,3] (t2) ?_ ?_ ?_ ?_);exact rfl;exact rfl;(focus ((simp only [go_sem];done))))|((with_reducible refine bP (hmk) ?_ ?_ ?_);exact rfl;exact fun _=>rfl)));(try (exact rfl))))));(simp only [aF]))))))
      all_goals exact .inr ⟨2,rfl⟩
end
section
theorem LF {r:Rm} {s o:List UInt8} (hr:OkR r) (hT:∀ i,OkT (treeR r i))
  (h3:((wsP r s).2 == 0)=true→((snP r o).2 == 0)=true→(gO r (snP r o).1.i == 0)=true→∀ w,OkT w→r.x<2147483647 →
   OkR ⟨bX r.N s r.x,r.L++[⟨r.x,(snP r o).1.i,0,false⟩],mW r.E r.x (dY (treeR r (snP r o).1.i) w),r.x+1⟩∧OkG (r.L++[⟨r.x,(snP r o).1.i,0,false⟩]))
  (hM:∀ a b c,(eZ (treeR r a) (treeR r b) (treeR r c)).2.2=0→OkT (eZ (treeR r a) (treeR r b) (treeR r c)).1):
  aA Tryz.prog 20 [.c (.ptr 0 0),.c (.p (.s s)),.c (.p (.s o))] (bH r) fun d h=>d=.tup [.c (.p (.sl 2 (fS (iQ r s o).2.1))),.c (.p (.i .i64 (iQ r s o).2.2))]∧h=fO (iQ r s o).1:=by
 have hws:=RX (s:=s) hr
 have hsn:=SL (s:=o) hr
 have hdp:=oR (a:=(snP r o).1.i) hr
 unfold iQ
 generalize wsP r s=y1 at *
 generalize snP r o=y2 at *
 obtain ⟨⟨ai,ap,aq,af⟩,e⟩:=y1
 obtain ⟨⟨ci,cp,cq,cf⟩,e2⟩:=y2
 simp only [Ly.cv] at *
 have bad:∀ {c1 c2:List CV} {F:List Cf} {e:Int},aA Tryz.prog 20 [.c (.ptr 0 0),.c (.p (.s s)),.c (.p (.s o))] (bH r) (fun d h=>d=.tup [.c (.p (.sl 2 (fS F))),.c (.p (.i .i64 e))]∧h=bH r++[.box c1,.box c2])→aA Tryz.prog 20 [.c (.ptr 0 0),.c (.p (.s s)),.c (.p (.s o))] (bH r) (fun d h=>d=.tup [.c (.p (.sl 2 (fS F))),.c (.p (.i .i64 e))]∧h=fO r):=fun {c1 c2 F e} hc =>
  aA.perm [0,6,7,8,1,2,3] hc rfl rfl (by unfold fO bH;exact (by simp only [eO,fJ,fL,eP,jS];(repeat' (first|exact rfl|exact True.intro|refine And.intro ?_ ?_))))
 have bad1:∀ {c1:List CV} {F:List Cf} {e:Int},aA Tryz.prog 20 [.c (.ptr 0 0),.c (.p (.s s)),.c (.p (.s o))] (bH r) (fun d h=>d=.tup [.c (.p (.sl 2 (fS F))),.c (.p (.i .i64 e))]∧h=bH r++[.box c1])→aA Tryz.prog 20 [.c (.ptr 0 0),.c (.p (.s s)),.c (.p (.s o))] (bH r) (fun d h=>d=.tup [.c (.p (.sl 2 (fS F))),.c (.p (.i .i64 e))]∧h=fO r):=fun {c1 F e} hc =>
  aA.perm [0,6,7,8,1,2,3] hc rfl rfl (by unfold fO bH;exact (by simp only [eO,fJ,fL,eP,jS];(repeat' (first|exact rfl|exact True.intro|refine And.intro ?_ ?_))))
 cases he:(e == 0)
 ·have hb:(e != 0)=true:=by rw [bne,he];rfl
  simp only [Bool.not_false,if_true]
  refine bad1 (c1:=[.p (.i .i64 ai),.p (.i .i64 ap),.p (.i .i64 aq),.p (.b af)]) (aX ?_)
  clear h3 hM hsn hdp bad bad1 hT hr
  refine sK aB aK Tryz.func20 rfl rfl fun X0 hX=>?_
  simp only [Tryz.f20,go_sem]
  repeat' (first|simp only [*,go_sem,Nat.reduceLT,Nat.reduceLeDiff,Nat.reduceEqDiff,↓reduceIte,Nat.reduceAdd]|((with_reducible refine aL [0,1,2,3] (hws) ?_ ?_ ?_ ?_);exact rfl;exact rfl;(focus ((simp only [go_sem];done)))))
  all_goals exact .inr ⟨2,rfl⟩
 ·have hb:(e != 0)=false:=by rw [bne,he];rfl
  simp only [Bool.not_true,Bool.false_eq_true,if_false]
  cases he2:(e2 == 0)
  ·have hb2:(e2 != 0)=true:=by rw [bne,he2];rfl
   simp only [Bool.not_false,if_true]
   refine bad (c1:=[.p (.i .i64 ai),.p (.i .i64 ap),.p (.i .i64 aq),.p (.b af)]) (c2:=[.p (.i .i64 ci),.p (.i .i64 cp),.p (.i .i64 cq),.p (.b cf)]) (aX ?_)
   clear h3 hM hdp bad bad1 hT hr
   refine sK aB aK Tryz.func20 rfl rfl fun X0 hX=>?_
   simp only [Tryz.f20,go_sem]
   repeat' (first|simp only [*,go_sem,Nat.reduceLT,Nat.reduceLeDiff,Nat.reduceEqDiff,↓reduceIte,Nat.reduceAdd]|((with_reducible refine aL [0,1,2,3] (hws) ?_ ?_ ?_ ?_);exact rfl;exact rfl;(focus ((simp only [go_sem];done))))|((with_reducible refine aL [0,1,2,3] (hsn) ?_ ?_ ?_ ?_);exact rfl;exact rfl;(focus ((simp only [go_sem];done)))))
   all_goals exact .inr ⟨2,rfl⟩
  ·have hb2:(e2 != 0)=false:=by rw [bne,he2];rfl
   simp only [Bool.not_true,Bool.false_eq_true,if_false]
   generalize gO r ci=e3 at *
   cases he3:(e3 == 0)
   ·have hb3:(e3 != 0)=true:=by rw [bne,he3];rfl
    simp only [Bool.not_false,if_true]
    refine bad (c1:=[.p (.i .i64 ai),.p (.i .i64 ap),.p (.i .i64 aq),.p (.b af)]) (c2:=[.p (.i .i64 ci),.p (.i .i64 cp),.p (.i .i64 cq),.p (.b cf)]) (aX ?_)
    clear h3 hM bad bad1 hT hr
    refine sK aB aK Tryz.func20 rfl rfl fun X0 hX=>?_
    simp only [Tryz.f20,go_sem]
    repeat' (first|simp only [*,go_sem,Nat.reduceLT,Nat.reduceLeDiff,Nat.reduceEqDiff,↓reduceIte,Nat.reduceAdd]|((with_reducible refine aL [0,1,2,3] (hws) ?_ ?_ ?_ ?_);exact rfl;exact rfl;(focus ((simp only [go_sem];done))))|((with_reducible refine aL [0,1,2,3] (hsn) ?_ ?_ ?_ ?_);exact rfl;exact rfl;(focus ((simp only [go_sem];done))))|((with_reducible refine aL [0,1,2,3] (hdp) ?_ ?_ ?_ ?_);exact rfl;exact rfl;(focus ((simp only [go_sem];done)))))
    all_goals exact .inr ⟨2,rfl⟩
   ·have hb3:(e3 != 0)=false:=by rw [bne,he3];rfl
    simp only [Bool.not_true,Bool.false_eq_true,if_false]
    have t1:=dL (a:=ap) hr
    have t2:=dL (a:=ci) hr
    have t3:=dL (a:=ai) hr
    have hmg:=SK (hT ap).s (hT ci).s (hT ai).s
    have hm0:=hM ap ci ai
    have hTc:=hT ci
    have h3:=fun w hw=>h3 he he2 he3 w hw
    have hadd0:=fun w q h1 h2=>rH (s:=s) (i0:=0) (p:=ci) (q:=q) (es:=dY (treeR r ci) w) hr h1 h2
    generalize treeR r ap=TP at *
    generalize treeR r ci=TC at *
    generalize treeR r ai=TA at *
    generalize eZ TP TC TA=m at *
    obtain ⟨m1,F,e4⟩:=m
    simp only at *
    cases he4:(e4 == 0)
    ·have hb4:(e4 != 0)=true:=by rw [bne,he4];rfl
     simp only [Bool.not_false,if_true]
     refine bad (c1:=[.p (.i .i64 ai),.p (.i .i64 ap),.p (.i .i64 aq),.p (.b af)]) (c2:=[.p (.i .i64 ci),.p (.i .i64 cp),.p (.i .i64 cq),.p (.b cf)]) ?_
     clear h3 hM bad bad1 hT hr hadd0
     refine sK aB aK Tryz.func20 rfl rfl fun X0 hX=>?_
     simp only [Tryz.f20,go_sem]
     repeat' (first|simp only [*,go_sem,Nat.reduceLT,Nat.reduceLeDiff,Nat.reduceEqDiff,↓reduceIte,Nat.reduceAdd]|((with_reducible refine aL [0,1,2,3] (hws) ?_ ?_ ?_ ?_);exact rfl;exact rfl;(focus ((simp only [go_sem];done))))|((with_reducible refine aL [0,1,2,3] (hsn) ?_ ?_ ?_ ?_);exact rfl;exact rfl;(focus ((simp only [go_sem];done))))|((with_reducible refine aL [0,1,2,3] (hdp) ?_ ?_ ?_ ?_);exact rfl;exact rfl;(focus ((simp only [go_sem];done))))|((refine aN (id:=10) aB aK [] [0,1,2,3,4,5,6,7,8,9,10,11,12,13,14,15,16,17,18,19] (by decide +kernel) ?_);(repeat' (first|(refine aW ?_)|((refine cD ?_ rfl rfl ?_ ?_);(rotate_left 1);(focus ((repeat' (first|simp only [*,go_sem,Nat.reduceLT,Nat.reduceEqDiff,↓reduceIte,Nat.reduceAdd]|((with_reducible refine aL [0,1,2,3] (t1) ?_ ?_ ?_ ?_);exact rfl;exact rfl;(focus ((simp only [go_sem];done))))|((with_reducible refine aL [0,1,2,3] (t2) ?_ ?_ ?_ ?_);exact rfl;exact rfl;(focus ((simp only [go_sem];done))))|((with_reducible refine aL [0,1,2,3] (t3) ?_ ?_ ?_ ?_);exact rfl;exact rfl;(focus ((simp only [go_sem];done))))|((with_reducible refine bP (hmg) ?_ ?_ ?_);exact rfl;exact fun _=>rfl)));exact rfl));(simp only [aF]))))))
    ·have hb4:(e4 != 0)=false:=by rw [bne,he4];rfl
     simp only [Bool.not_true,Bool.false_eq_true,if_false]
     obtain rfl:e4=0:=by simpa using he4
     have hm1:=hm0 rfl
     have hmk:=pN hTc hm1
     cases hx:decide (2147483647≤r.x)
     all_goals simp only [Bool.false_eq_true,if_false,if_true]
     ·obtain ⟨k1,k2⟩:=h3 m1 hm1 (by have:=of_decide_eq_false hx;omega)
      have hadd:=hadd0 m1 0 k1 k2
      clear h3 hadd0 hM bad bad1 hT hm0 hm1 hTc k1 k2
      generalize dY TC m1=E1 at *
      generalize ZJ r s ci 0 E1=c at *
      clear hr
      refine aA.perm [0,1,2,3,6,7,8] (d1:=.tup [.c (.p (.sl 2 (fS []))),.c (.p (.i .i64 0))]) (h1:=[.box [.own 6 0 c.N.length,.own 7 0 c.L.length,.mp 8,.p (.i .i64 c.x)],.dead,.dead,.dead,.box [.p (.i .i64 ai),.p (.i .i64 ap),.p (.i .i64 aq),.p (.b af)],.box [.p (.i .i64 ci),.p (.i .i64 cp),.p (.i .i64 cq),.p (.b cf)],.arr 2 (bW c.N) false,.arr 4 (dS c.L) false,.mp (wC c.E)]) (aX ?_) rfl rfl (by unfold fO;exact (by simp only [eO,fJ,fL,eP,jS];(repeat' (first|exact rfl|exact True.intro|refine And.intro ?_ ?_))))
      refine sK aB aK Tryz.func20 rfl rfl fun X0 hX=>?_
      simp only [Tryz.f20,go_sem]
      repeat' (first|simp only [*,go_sem,Nat.reduceLT,Nat.reduceLeDiff,Nat.reduceEqDiff,↓reduceIte,Nat.reduceAdd,bne_self_eq_false]|((with_reducible refine aL [0,1,2,3] (hws) ?_ ?_ ?_ ?_);exact rfl;exact rfl;(focus ((simp only [go_sem];done))))|((with_reducible refine aL [0,1,2,3] (hsn) ?_ ?_ ?_ ?_);exact rfl;exact rfl;(focus ((simp only [go_sem];done))))|((with_reducible refine aL [0,1,2,3] (hdp) ?_ ?_ ?_ ?_);exact rfl;exact rfl;(focus ((simp only [go_sem];done))))|((refine aN (id:=10) aB aK [] [0,1,2,3,4,5,6,7,8,9,10,11,12,13,14,15,16,17,18,19] (by decide +kernel) ?_);(repeat' (first|(refine aW ?_)|((refine cD ?_ rfl rfl ?_ ?_);(rotate_left 1);(focus ((repeat' (first|simp only [*,go_sem,Nat.reduceLT,Nat.reduceEqDiff,↓reduceIte,Nat.reduceAdd]|((with_reducible refine aL [0,1,2,3] (t1) ?_ ?_ ?_ ?_);exact rfl;exact rfl;(focus ((simp only [go_sem];done))))|((with_reducible refine aL [0,1,2,3] (t2) ?_ ?_ ?_ ?_);exact rfl;exact rfl;(focus ((simp only [go_sem];done))))|((with_reducible refine aL [0,1,2,3] (t3) ?_ ?_ ?_ ?_);exact rfl;exact rfl;(focus ((simp only [go_sem];done))))|((with_reducible refine bP (hmg) ?_ ?_ ?_);exact rfl;exact fun _=>rfl)));exact rfl));(simp only [aF])))))|((refine aN (id:=15) aB aK [11] [0,1,2,3,4,5,6,7,8,9,10,11] (by decide +kernel) ?_);(repeat' (first|(refine aW ?_)|((refine cX ?_ ?_ rfl rfl rfl ?_ ?_);(rotate_left 2);(focus ((repeat' (first|simp only [*,go_sem,Nat.reduceLT,Nat.reduceEqDiff,↓reduceIte,Nat.reduceAdd,Nat.reduceSub]|((with_reducible refine aL [0,1,2,3] (hadd) ?_ ?_ ?_ ?_);exact rfl;exact rfl;(focus ((simp only [go_sem];done))))));((refine And.intro ?_ ?_ <;> exact rfl))));(simp only [aF]))|((refine cY ?_ rfl rfl rfl ?_ ?_);(rotate_left 1);(focus ((repeat' (first|exact bJ|refine aZ ?_ ?_));(all_goals ((repeat' (first|simp only [*,go_sem,Nat.reduceLT,Nat.reduceLeDiff,Nat.reduceEqDiff,↓reduceIte,Nat.reduceAdd]|((with_reducible refine aL [0,1,2,3] (t2) ?_ ?_ ?_ ?_);exact rfl;exact rfl;(focus ((simp only [go_sem];done))))|((with_reducible refine bP (hmk) ?_ ?_ ?_);exact rfl;exact fun _=>rfl)));(try (exact rfl))))));(simp only [aF]))))))
      all_goals exact .inr ⟨2,rfl⟩
     ·refine bad (c1:=[.p (.i .i64 ai),.p (.i .i64 ap),.p (.i .i64 aq),.p (.b af)]) (c2:=[.p (.i .i64 ci),.p (.i .i64 cp),.p (.i .i64 cq),.p (.b cf)]) (aX ?_)
      clear h3 hM bad bad1 hT hr hadd0
      refine sK aB aK Tryz.func20 rfl rfl fun X0 hX=>?_
      simp only [Tryz.f20,go_sem]
      repeat' (first|simp only [*,go_sem,Nat.reduceLT,Nat.reduceLeDiff,Nat.reduceEqDiff,↓reduceIte,Nat.reduceAdd,bne_self_eq_false]|((with_reducible refine aL [0,1,2,3] (hws) ?_ ?_ ?_ ?_);exact rfl;exact rfl;(focus ((simp only [go_sem];done))))|((with_reducible refine aL [0,1,2,3] (hsn) ?_ ?_ ?_ ?_);exact rfl;exact rfl;(focus ((simp only [go_sem];done))))|((with_reducible refine aL [0,1,2,3] (hdp) ?_ ?_ ?_ ?_);exact rfl;exact rfl;(focus ((simp only [go_sem];done))))|((refine aN (id:=10) aB aK [] [0,1,2,3,4,5,6,7,8,9,10,11,12,13,14,15,16,17,18,19] (by decide +kernel) ?_);(repeat' (first|(refine aW ?_)|((refine cD ?_ rfl rfl ?_ ?_);(rotate_left 1);(focus ((repeat' (first|simp only [*,go_sem,Nat.reduceLT,Nat.reduceEqDiff,↓reduceIte,Nat.reduceAdd]|((with_reducible refine aL [0,1,2,3] (t1) ?_ ?_ ?_ ?_);exact rfl;exact rfl;(focus ((simp only [go_sem];done))))|((with_reducible refine aL [0,1,2,3] (t2) ?_ ?_ ?_ ?_);exact rfl;exact rfl;(focus ((simp only [go_sem];done))))|((with_reducible refine aL [0,1,2,3] (t3) ?_ ?_ ?_ ?_);exact rfl;exact rfl;(focus ((simp only [go_sem];done))))|((with_reducible refine bP (hmg) ?_ ?_ ?_);exact rfl;exact fun _=>rfl)));exact rfl));(simp only [aF]))))))
      all_goals exact .inr ⟨2,rfl⟩
end
section
def AV (r:Rm) (a b:List UInt8):List Ch × Int :=
 if !((eD r a).2 == 0) then ([],(eD r a).2) else if !((eD r b).2 == 0) then ([],(eD r b).2) else (dO (eD r a).1 (eD r b).1,0)
theorem YN {r:Rm} {a b:List UInt8} (hr:OkR r) (h3:((eD r a).2 == 0)=true→((eD r b).2 == 0)=true→OkT (eD r a).1∧OkT (eD r b).1):
  aA Tryz.prog 21 [.c (.ptr 0 0),.c (.p (.s a)),.c (.p (.s b))] (bH r) fun d h=>d=.tup [.c (.p (.sl 10 (oJ (AV r a b).1))),.c (.p (.i .i64 (AV r a b).2))]∧h=bH r:=by
 have h1:=tU (s:=a) hr
 have h2:=tU (s:=b) hr
 unfold AV
 generalize eD r a=y1 at *
 generalize eD r b=y2 at *
 obtain ⟨ta,e1⟩:=y1
 obtain ⟨tb,e2⟩:=y2
 simp only at *
 refine aX ?_
 cases he:(e1 == 0)
 ·have hb:(e1 != 0)=true:=by rw [bne,he];rfl
  simp only [Bool.not_false,if_true]
  clear h2 h3 hr
  refine ent aB aK Tryz.func21 rfl rfl fun X0 hX=>?_
  simp only [Tryz.f21,go_sem]
  repeat' (first|simp only [*,go_sem,Nat.reduceLT,Nat.reduceEqDiff,↓reduceIte,Nat.reduceAdd]|((with_reducible refine aL [0,1,2,3] (h1) ?_ ?_ ?_ ?_);exact rfl;exact rfl;(focus ((simp only [go_sem];done)))))
  all_goals exact .inr ⟨10,rfl⟩
 ·have hb:(e1 != 0)=false:=by rw [bne,he];rfl
  simp only [Bool.not_true,Bool.false_eq_true,if_false]
  cases he2:(e2 == 0)
  ·have hb2:(e2 != 0)=true:=by rw [bne,he2];rfl
   simp only [Bool.not_false,if_true]
   clear h3 hr
   refine ent aB aK Tryz.func21 rfl rfl fun X0 hX=>?_
   simp only [Tryz.f21,go_sem]
   repeat' (first|simp only [*,go_sem,Nat.reduceLT,Nat.reduceEqDiff,↓reduceIte,Nat.reduceAdd]|((with_reducible refine aL [0,1,2,3] (h1) ?_ ?_ ?_ ?_);exact rfl;exact rfl;(focus ((simp only [go_sem];done))))|((with_reducible refine aL [0,1,2,3] (h2) ?_ ?_ ?_ ?_);exact rfl;exact rfl;(focus ((simp only [go_sem];done)))))
   all_goals exact .inr ⟨10,rfl⟩
  ·have hb2:(e2 != 0)=false:=by rw [bne,he2];rfl
   simp only [Bool.not_true,Bool.false_eq_true,if_false]
   obtain ⟨k1,k2⟩:=h3 he he2
   have hdf:=zJD k1 k2
   clear h3 hr k1 k2
   refine ent aB aK Tryz.func21 rfl rfl fun X0 hX=>?_
   simp only [Tryz.f21,go_sem]
   repeat' (first|simp only [*,go_sem,Nat.reduceLT,Nat.reduceEqDiff,↓reduceIte,Nat.reduceAdd]|((with_reducible refine aL [0,1,2,3] (h1) ?_ ?_ ?_ ?_);exact rfl;exact rfl;(focus ((simp only [go_sem];done))))|((with_reducible refine aL [0,1,2,3] (h2) ?_ ?_ ?_ ?_);exact rfl;exact rfl;(focus ((simp only [go_sem];done))))|((with_reducible refine bP (hdf) ?_ ?_ ?_);exact rfl;exact fun _=>rfl))
end
end Go.Proofs.YtbpblnmhlhpebaaGreatDoor
