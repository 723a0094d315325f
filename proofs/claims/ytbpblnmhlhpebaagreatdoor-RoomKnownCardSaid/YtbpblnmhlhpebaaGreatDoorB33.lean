/- Part 34 of the proof of roomKnown_card. No condition. -/
import Derived.Test.YtbpblnmhlhpebaaGreatDoorB32
set_option linter.all false
set_option maxRecDepth 100000
set_option maxHeartbeats 8000000
namespace Go.Dm
open Go
section
theorem aA.rowP {P:Program} {f:FuncId} {args:List DV} {k:Nat} {es:List (List PV)} (hc:aA P f args [] fun d h'=>(d=.c (.p .nil)∧es=[])∨∃ j off es',d=.c (.own j off es.length)∧h'[j]? = some (.arr k es' false)∧(es'.drop off).take es.length=es):
  aA P f args [] fun d h'=>d=.c (.own 0 0 es.length)∧h'=[.arr k es false]:=by
 refine aA.rowR ?_
 intro X vals hh hi gd hr
 have key:∀ v w',Ret X (fun d h'=>(d=.c (.p .nil)∧es=[])∨∃ j off es',d=.c (.own j off es.length)∧h'[j]? = some (.arr k es' false)∧(es'.drop off).take es.length=es) v w'→Ret X (fun d h'=>(d=.c (.p .nil)∧es=[])∨∃ j,d=.c (.own j 0 es.length)∧h'[j]? = some (.arr k es false)) v w':=by
  rintro v w' ⟨d,Z,k1,k2,k3,k4,k5⟩
  rcases k5 with h|⟨j,off,es',rfl,hj,he⟩
  ·exact ⟨d,Z,k1,k2,k3,k4,.inl h⟩
  ·have hrel:∀ i:Nat,bB Z (look [(0,.c (.own j off es.length))] i) ((#[v]:Array Value).getD i undef):=fun i=>by
    simp only [look]
    split
    ·rename_i h0;subst h0;exact k4
    ·exact True.intro
   obtain ⟨X',p1,p2,p3,p4,p5⟩:=wQ (n0:=X.h.length) (s:=⟨1,[(0,.c (.own j off es.length))],Z.h⟩) 0 j off es.length rfl hj X Z ⟨#[v],[]⟩ rfl rfl k2 k3 ⟨rfl,hrel,rfl⟩
   have hv:bB X' (.c (.own Z.h.length 0 es.length)) v:=p5.rel 0
   refine ⟨_,X',p1.trans k1,p3,p4,hv,.inr ⟨Z.h.length,rfl,?_⟩⟩
   rw [p2,List.getElem?_append_right (by simp),List.length_set,Nat.sub_self,he]
   rfl
 rcases hc X vals hh hi gd hr with ⟨h1,h2⟩|⟨v,w',h1,h2⟩
 ·exact .inl ⟨h1,h2.mono fun e w' ⟨v,he,hv⟩=>⟨v,he,key v w' hv⟩⟩
 ·exact .inr ⟨v,w',h1,key v w' h2⟩
theorem BS {X Y:Ctx} {bl:Nat} (hw:Y.w=X.w) (hc:∀ c v,bS X c v→bS Y c v) {x y:CV} (hxy:∀ v,bS X x v→bS Y y v):∀ {cs:List CV} {off n:Nat},cJ X bl off cs→cs[n]? = some x→cJ Y bl off (cs.set n y)
 | [],_,_,_,h=>by simp at h
 | c::cs,off,0,h,hx=>by
  simp only [List.getElem?_cons_zero,Option.some.injEq] at hx
  subst hx
  obtain ⟨⟨v,h1,h2⟩,h3⟩:=h
  refine ⟨⟨v,by rw [hw];exact h1,hxy v h2⟩,?_⟩
  clear h1 h2
  have go:∀ {cs:List CV} {off:Nat},cJ X bl off cs→cJ Y bl off cs:=by
   intro cs
   induction cs with
   | nil=>intro off _;exact True.intro
   | cons c cs ih =>
    rintro off ⟨⟨v,h1,h2⟩,h3⟩
    exact ⟨⟨v,by rw [hw];exact h1,hc _ _ h2⟩,ih h3⟩
  exact go h3
 | c::cs,off,n+1,h,hx=>by
  obtain ⟨⟨v,h1,h2⟩,h3⟩:=h
  exact ⟨⟨v,by rw [hw];exact h1,hc _ _ h2⟩,BS hw hc hxy h3 (by simpa using hx)⟩
theorem XQ {n0:Nat} {s:DS} (id n k:Nat) {cells:List CV} (hd:s.h[id]? = some (.box cells)) (hn:cells[n]? = some (.p .nil)) (hid:n0≤id):
  QY n0 s ⟨s.n,s.t,s.h.set id (.box (cells.set n (.own s.h.length 0 0)))++[.arr k [] false]⟩:=by
 intro X0 X a hn0 hh hi hs ht
 obtain ⟨h1,h2⟩:=virt hi k
 rw [← hh] at hd
 have hlt:=(List.getElem?_eq_some_iff.1 hd).1
 have hd':(X.virt k).h[id]? = some (.box cells):=by
  show (X.h++_)[id]? = _
  rw [List.getElem?_append_left hlt];exact hd
 obtain ⟨g,arr,el,fz,q1,q2,q3,q4,q5⟩:=h2.blk id _ hd'
 have htt:Touched (X.virt k).w (X.virt k).w g.1:=⟨rfl,rfl,sL.rfl',rfl,fun _ _=>rfl,.inl ⟨arr,el,fz,arr,el,fz,q2,q2,rfl⟩⟩
 have st:=Step.put h2 hd' rfl rfl q1 htt (d:=.box (cells.set n (.own X.h.length 0 0))) True.intro rfl
 have hrel:dR ((X.virt k).put (X.virt k).w id (.box (cells.set n (.own X.h.length 0 0)))) id (.box (cells.set n (.own X.h.length 0 0))):=by
  refine ⟨g,arr,el,fz,q1,q2,by simpa using q3,q4,?_⟩
  obtain ⟨g',arr',el',fz',r1,r2,r3,r4,r5⟩:=hi.blk id _ hd
  have hg:(X.virt k).G id=X.G id:=by
   show (if id=X.h.length then none else X.G id)=X.G id
   rw [if_neg (by omega)]
  rw [hg,r1] at q1
  cases q1
  refine BS (X:=X) (Y:=((X.virt k).put (X.virt k).w id (.box (cells.set n (.own X.h.length 0 0))))) (y:=.own X.h.length 0 0) rfl (fun c v hc=>?_) (fun v hv=>?_) r5 hn
  ·exact bB.step st (bB.step h1 (pU (x:=c) hc))
  ·exact bB.step st (pU (x:=.own X.h.length 0 0) (iL hv))
 have hi2:=HInv.put h2 hd' rfl rfl q1 htt (d:=.box (cells.set n (.own X.h.length 0 0))) True.intro rfl hrel
 refine ⟨((X.virt k).put (X.virt k).w id (.box (cells.set n (.own X.h.length 0 0)))),rfl,?_,hi2,(hs.trans hi h1).trans h2 st,ht.size,fun j=>?_,ht.defs⟩
 ·show (X.h++[DB.arr k [] false]).set id _=_
  rw [List.set_append_left _ _ hlt,hh]
 ·exact bB.step st ((ht.rel j).step h1)
end
end Go.Dm
namespace Go.Proofs.YtbpblnmhlhpebaaGreatDoor
open Go Go.Dm Go.Proofs
section
def GP (l:List Ly) (ids:List Int):List Int:=ids.flatMap (oX l)
theorem SR {l:List Ly}:∀ (ids:List Int),(GP l ids).length≤ids.length*l.length
 | []=>by simp [GP]
 | a::ids=>by
  have h1:=vJ l a
  have h2:=SR (l:=l) ids
  simp only [GP,List.flatMap_cons,List.length_append,List.length_cons,Nat.succ_mul] at h2 ⊢
  omega
theorem zEs (l:List Ly) (ids:List Int):(l.filter fun x=>!goK (GP l ids) x)=jO l ids:=by
 unfold jO
 congr 1
 funext x
 simp only [goK,Bool.not_not,GP]
 rw [Bool.eq_iff_iff]
 simp [List.mem_flatMap]
theorem zKf {l:List Ly} {ids:List Int} (hl:l.length≤900) (hi:ids.length≤900) (hgr:OkG l):aA Tryz.prog 138 [.c (.p (.sl 4 (dS l))),.c (.p (.sl 1 (cV ids)))] [] fun r h=>r=.c (.own 0 0 (dS (jO l ids)).length)∧h=[.arr 4 (dS (jO l ids)) false]:=by
 refine aA.rowP ?_
 have hcl:=zGK (l:=l) (by omega)
 rw [kJ] at hcl
 have hA:=fun a=>pV (l:=l) (a:=a) (by omega) hgr
 have hbd:∀ k,(GP l (ids.take k)).length≤810000:=fun k=>by
  have h1:(ids.take k).length≤900:=by rw [List.length_take];omega
  have h2:=SR (l:=l) (ids.take k)
  have h3:(ids.take k).length*l.length≤900*900:=Nat.mul_le_mul h1 hl
  omega
 have hfin:∀ {K:DV→aC→Prop},(∀ es:List (List PV),es.take (jO l ids).length=dS (jO l ids)→K (.c (.own 2 0 (jO l ids).length)) [.box [.own 1 0 (GP l ids).length],.arr 1 (cV (GP l ids)) false,.arr 4 es false]) →
   aA Tryz.prog 209 [.c (.own 2 0 l.length),.c (.clo 210 [.ptr 0 0])] [.box [.own 1 0 (GP l ids).length],.arr 1 (cV (GP l ids)) false,.arr 4 (dS l) false] K:=fun hk=>by
  have h0:=hbd ids.length
  rw [List.take_length] at h0
  refine zCs (by omega) (by omega) ?_
  rw [zEs];exact hk
 generalize jO l ids=G at hfin ⊢
 refine MZ aB aK Tryz.func138 rfl rfl fun X0 hX=>?_
 simp only [Tryz.f138,go_sem]
 repeat' (simp only [*,go_sem,Nat.reduceLT,Nat.reduceEqDiff,↓reduceIte])
 refine gW aB aK (α:=Nat) (fun k=>⟨24,[(0,.c (.p (.sl 4 (dS l)))),(5,.c (.ptr 0 0)),(8,.c (.p (.sl 1 (cV ids)))),(9,.c (.p (.i .i64 ids.length))),(10,.c (.p (.i .i64 k)))],[.box [.own 1 0 (GP l (ids.take k)).length],.arr 1 (cV (GP l (ids.take k))) false]⟩)
  (fun k=>k≤ids.length) (fun k=>ids.length-k) 0 (Nat.zero_le _) ((XQ 0 0 1 rfl rfl (by rw [hX];exact Nat.le_refl _)).trans (fQ (aJ (by rw [hX];rfl) rfl rfl (by simp only [aI,aM];(repeat' (first|exact rfl|exact True.intro|refine And.intro ?_ ?_)))))) ?_
 intro k hkl
 have hbk:=hbd k
 by_cases hlt:k<ids.length
 ·have hx:ids[k]? = some ids[k]:=List.getElem?_eq_getElem hlt
  have hg:=pT hx
  have h1:decide ((k:Int)<(ids.length:Int))=true:=decide_eq_true (by omega)
  have h2:(k:Int)<(ids.length:Int):=by omega
  have h3:(0:Int)≤k:=by omega
  have w1:IntKind.i64.wrap ((k:Int)+1)=k+1:=wrap_i64 (by omega) (by omega)
  have ht:GP l (ids.take (k+1))=GP l (ids.take k)++oX l ids[k]:=by
   unfold GP
   rw [List.take_add_one,hx,List.flatMap_append]
   simp
  have hAk:=hA ids[k]
  have hal:=vJ l ids[k]
  rw [eN] at hAk
  generalize ids[k]=x at hx hg ht hAk hal
  generalize oX l x=A at hAk ht hal
  generalize GP l (ids.take k)=S at hbk ht
  have hlen:(GP l (ids.take (k+1))).length=S.length+A.length:=by rw [ht,List.length_append]
  have ht:=PLift.up ht
  have hlen:=PLift.up hlen
  have htk:(cV A).take A.length=cV A:=by rw [← eN A,List.take_length]
  have hak:∀ {h:aC} {K:DV→aC→Prop},K (.c (.own h.length 0 A.length)) (h++[.arr 1 (cV A) false])→aA Tryz.prog 125 [.c (.p (.sl 4 (dS l))),.c (.p (.i .i64 x))] h K:=fun {h K} hk=>aL [] hAk rfl rfl (by simp only [go_sem]) (by simpa [DV.rn,CV.rn,Dm.rn,kF,DB.rn] using hk)
  clear hx hA hfin hbd hcl hAk
  repeat' (first|simp only [*,go_sem,Nat.reduceLT,Nat.reduceEqDiff,↓reduceIte]|((refine aN (id:=5) aB aK [3,4,5] [1,2,3,0,4,5] (by decide +kernel) ?_);(repeat' (first|(refine aW ?_)|((refine cX ?_ ?_ rfl rfl rfl ?_ ?_);(rotate_left 2);(focus ((repeat' (first|simp only [*,go_sem,Nat.reduceLT,Nat.reduceLeDiff,Nat.reduceEqDiff,↓reduceIte,Nat.reduceAdd,Nat.reduceBEq]|refine hak ?_|((with_reducible refine And.intro ?_ ?_);omega)));((refine And.intro ?_ ?_ <;> exact rfl))));(simp only [aF,bK]))|((refine cY ?_ rfl rfl rfl ?_ ?_);(rotate_left 1);(focus ((repeat' (first|exact bJ|refine aZ ?_ ?_));(all_goals ((repeat' (simp only [*,go_sem,Nat.reduceLT,Nat.reduceEqDiff,↓reduceIte]));(try (exact rfl))))));(simp only [aF]))))))
  exact AM (k+1) (by omega) (by omega) (by rw [hlen.down,ht.down];exact gQ (mB [0,3] rfl (by simp only [eO,fL,eP];(repeat' (first|exact rfl|exact True.intro|refine And.intro ?_ ?_))) rfl (by simp only [qH,wO];(repeat' (first|exact rfl|exact True.intro|refine And.intro ?_ ?_)))))
 ·have hke:k=ids.length:=by omega
  subst hke
  rw [List.take_length] at hbk ⊢
  have h1:decide ((ids.length:Int)<(ids.length:Int))=false:=decide_eq_false (by omega)
  clear hA hbd
  generalize GP l ids=S at hbk hfin
  repeat' (first|simp only [*,go_sem,Nat.reduceLT,Nat.reduceEqDiff,↓reduceIte,Nat.reduceAdd]|((with_reducible refine aL [] (hcl) ?_ ?_ ?_ ?_);exact rfl;exact rfl;(focus ((simp only [go_sem];done)))))
  refine aA.sub [0,1,2] (hfin (K:=fun d h'=>∃ es:List (List PV),es.take G.length=dS G∧d=.c (.own 2 0 G.length)∧h'=[.box [.own 1 0 S.length],.arr 1 (cV S) false,.arr 4 es false]) fun es he=>⟨es,he,rfl,rfl⟩) rfl (by simp only [go_sem];done) ?_
  rintro d h' - ⟨es,he,rfl,rfl⟩
  simp only [go_sem]
  repeat' (simp only [*,go_sem,Nat.reduceLT,↓reduceIte])
  exact .inr ⟨2,0,es,rfl,rfl,he⟩
end
section
theorem RX {r:Rm} {s:List UInt8} (hr:OkR r):aA Tryz.prog 40 [.c (.ptr 0 0),.c (.p (.s s))] (bH r) fun d h=>d=.tup [.agg (wsP r s).1.cv,.c (.p (.i .i64 (wsP r s).2))]∧h=bH r:=by
 have hl:=gS (s:=s) hr
 unfold wsP
 generalize bQ r s=ye at hl ⊢
 obtain ⟨⟨yi,yp,yq,yf⟩,e⟩:=ye
 simp only at hl ⊢
 cases he:(e == 0) <;> cases yf
 all_goals simp only [Bool.false_and,Bool.true_and,if_true,Bool.false_eq_true,if_false]
 all_goals
  refine ent aB aK Tryz.func40 rfl rfl fun X0 hX=>?_
  simp only [Tryz.f40,go_sem]
  repeat' (first|simp only [*,go_sem,Nat.reduceLT,Nat.reduceLeDiff,Nat.reduceEqDiff,↓reduceIte,Nat.reduceAdd]|((with_reducible refine aL [0,1,2,3] (hl) ?_ ?_ ?_ ?_);exact rfl;exact rfl;(focus ((simp only [go_sem];done)))))
 all_goals simp [ly0]
theorem SL {r:Rm} {s:List UInt8} (hr:OkR r):aA Tryz.prog 52 [.c (.ptr 0 0),.c (.p (.s s))] (bH r) fun d h=>d=.tup [.agg (snP r s).1.cv,.c (.p (.i .i64 (snP r s).2))]∧h=bH r:=by
 have hl:=gS (s:=s) hr
 unfold snP
 generalize bQ r s=ye at hl ⊢
 obtain ⟨⟨yi,yp,yq,yf⟩,e⟩:=ye
 simp only at hl ⊢
 cases he:(e == 0) <;> cases yf
 all_goals simp only [Bool.false_and,Bool.true_and,Bool.not_true,Bool.not_false,if_true,Bool.false_eq_true,if_false]
 all_goals
  refine ent aB aK Tryz.func52 rfl rfl fun X0 hX=>?_
  simp only [Tryz.f52,go_sem]
  repeat' (first|simp only [*,go_sem,Nat.reduceLT,Nat.reduceLeDiff,Nat.reduceEqDiff,↓reduceIte,Nat.reduceAdd,Bool.not_true,Bool.not_false]|((with_reducible refine aL [0,1,2,3] (hl) ?_ ?_ ?_ ?_);exact rfl;exact rfl;(focus ((simp only [go_sem];done)))))
 all_goals simp [ly0]
theorem zAu {h:aC} {i n:Nat} {l:List Ly} {a:Int} {K:DV→aC→Prop} (hl:l.length≤100000) (hn:n=l.length) (h0:h[i]? = some (.arr 4 (dS l) false)) (hk:K (.c (.own h.length 0 (bO l a).length)) (h++[.arr 1 (cV (bO l a)) false])):
  aA Tryz.prog 110 [.c (.own i 0 n),.c (.p (.i .i64 a))] h K:=by
 refine zHf rfl (by rw [hn,← kJ,List.take_length]) (zHM hl) h0 (by simp [tZ,pA,jD,cV,sR]) ?_
 simpa [DV.sh,CV.sh,DB.sh,eN] using hk
theorem oR {r:Rm} {a:Int} (hr:OkR r):aA Tryz.prog 49 [.c (.ptr 0 0),.c (.p (.i .i64 a))] (bH r) fun d h=>d=.c (.p (.i .i64 (gO r a)))∧h=bH r:=by
 have hl:=hr.ll
 have hk:∀ {h:aC} {i:Nat} {K:DV→aC→Prop},h[i]? = some (.arr 4 (dS r.L) false)→K (.c (.own h.length 0 (bO r.L a).length)) (h++[.arr 1 (cV (bO r.L a)) false])→aA Tryz.prog 110 [.c (.own i 0 r.L.length),.c (.p (.i .i64 a))] h K:=fun h0 hk=>zAu (by omega) rfl h0 hk
 unfold gO
 generalize bO r.L a=C at hk ⊢
 cases hd:decide (12≤(C.length:Int))
 all_goals simp only [if_true,Bool.false_eq_true,if_false]
 all_goals
  refine ent aB aK Tryz.func49 rfl rfl fun X0 hX=>?_
  simp only [Tryz.f49,go_sem]
  repeat' (simp only [*,go_sem,Nat.reduceLT,Nat.reduceEqDiff,↓reduceIte,Nat.reduceAdd])
theorem qB {r:Rm} {s:List UInt8} (hr:OkR r) (hs:s.length≤1000000000):aA Tryz.prog 48 [.c (.ptr 0 0),.c (.p (.s s))] (bH r) fun d h=>d=.c (.p (.i .i64 (gG r s)))∧h=bH r:=by
 have hf:=oF (r:=r) (s:=s) (by have:=hr.nl;omega) hr.srt
 have hn:=pZ hs
 have hnl:=hr.nl
 have hll:=hr.ll
 unfold gG
 generalize bF s=a at hn ⊢
 generalize NF r.N s=b at hf ⊢
 cases a
 ·simp only [Bool.not_false,if_true]
  refine ent aB aK Tryz.func48 rfl rfl fun X0 hX=>?_
  simp only [Tryz.f48,go_sem]
  repeat' (first|simp only [*,go_sem,Nat.reduceLT,Nat.reduceEqDiff,↓reduceIte,Nat.reduceAdd,Bool.not_false]|((with_reducible refine aL [0,1,2,3] (hf) ?_ ?_ ?_ ?_);exact rfl;exact rfl;(focus ((simp only [go_sem];done))))|((with_reducible refine aS (hn) ?_ ?_ ?_);exact rfl;exact rfl))
 ·cases b
  ·simp only [Bool.not_true,Bool.false_eq_true,if_false]
   cases h1:decide (20≤(r.N.length:Int)) <;> cases h2:decide (40≤(r.L.length:Int)) <;> cases h3:decide (2147483647≤r.x)
   all_goals simp only [Bool.or_true,Bool.or_false,if_true,Bool.false_eq_true,if_false]
   all_goals
    refine ent aB aK Tryz.func48 rfl rfl fun X0 hX=>?_
    simp only [Tryz.f48,go_sem]
    repeat' (first|simp only [*,go_sem,Nat.reduceLT,Nat.reduceEqDiff,↓reduceIte,Nat.reduceAdd,Bool.not_true]|((with_reducible refine aL [0,1,2,3] (hf) ?_ ?_ ?_ ?_);exact rfl;exact rfl;(focus ((simp only [go_sem];done))))|((with_reducible refine aS (hn) ?_ ?_ ?_);exact rfl;exact rfl))
  ·simp only [Bool.not_true,Bool.false_eq_true,if_false,if_true]
   refine ent aB aK Tryz.func48 rfl rfl fun X0 hX=>?_
   simp only [Tryz.f48,go_sem]
   repeat' (first|simp only [*,go_sem,Nat.reduceLT,Nat.reduceEqDiff,↓reduceIte,Nat.reduceAdd,Bool.not_true]|((with_reducible refine aL [0,1,2,3] (hf) ?_ ?_ ?_ ?_);exact rfl;exact rfl;(focus ((simp only [go_sem];done))))|((with_reducible refine aS (hn) ?_ ?_ ?_);exact rfl;exact rfl))
theorem WQ {r:Rm} {a:Int} (hr:OkR r):aA Tryz.prog 95 [.c (.ptr 0 0),.c (.p (.i .i64 a))] (bH r) fun d h=>d=.tup [.c (.p (.sl 5 (aV (FQ r a).1))),.c (.p (.b (FQ r a).2))]∧h=bH r:=by
 have hl:=hr.ll
 have hk:∀ {h:aC} {i:Nat} {K:DV→aC→Prop},h[i]? = some (.arr 4 (dS r.L) false)→K (.c (.own h.length 0 (bO r.L a).length)) (h++[.arr 1 (cV (bO r.L a)) false])→aA Tryz.prog 110 [.c (.own i 0 r.L.length),.c (.p (.i .i64 a))] h K:=fun h0 hk=>zAu (by omega) rfl h0 hk
 have hcl:=ZB r.L a
 have hfo:=NN (ls:=mI r a) (by unfold mI;rw [List.length_map];omega) (hr.layers a)
 rw [show FQ r a=oA [] (mI r a) from rfl]
 generalize oA [] (mI r a)=T at hfo ⊢
 obtain ⟨T1,T2⟩:=T
 unfold mI at hfo
 simp only at hfo ⊢
 generalize bO r.L a=C at hk hcl hfo ⊢
 refine ent aB aK Tryz.func95 rfl rfl fun X0 hX=>?_
 simp only [Tryz.f95,go_sem]
 repeat' (first|simp only [*,go_sem,Nat.reduceLT,Nat.reduceEqDiff,↓reduceIte,Nat.reduceAdd]|refine hk rfl ?_)
 refine gW aB aK (α:=Nat) (fun k=>⟨34,[(0,.c (.ptr 0 0)),(14,.c (.own 4 0 C.length)),(15,.c (.p (.i .i64 C.length))),(16,.c (.p (.i .i64 k))),(6,.c (.own 5 0 k))],[.box [.own 1 0 r.N.length,.own 2 0 r.L.length,.mp 3,.p (.i .i64 r.x)],.arr 2 (bW r.N) false,.arr 4 (dS r.L) false,.mp (wC r.E),.arr 1 (cV C) false,.arr 1 (yY ((C.take k).map (kT r.E))) false]⟩)
  (fun k=>k≤C.length) (fun k=>C.length-k) 0 (Nat.zero_le _) ((rZ 6 1 rfl).trans (fQ (aJ (by rw [hX];rfl) rfl rfl (by simp only [aI,aM];(repeat' (first|exact rfl|exact True.intro|refine And.intro ?_ ?_)))))) ?_
 intro k hkl
 by_cases hlt:k<C.length
 ·have hx:C[k]? = some C[k]:=List.getElem?_eq_getElem hlt
  have hg:=pT hx
  have h1:decide ((k:Int)<(C.length:Int))=true:=decide_eq_true (by omega)
  have h2:(k:Int)<(C.length:Int):=by omega
  have h3:(0:Int)≤k:=by omega
  have w1:IntKind.i64.wrap ((k:Int)+1)=k+1:=wrap_i64 (by omega) (by omega)
  have ht:(C.take (k+1)).map (kT r.E)=(C.take k).map (kT r.E)++[kT r.E C[k]]:=by rw [List.take_add_one,hx,List.map_append];rfl
  have htl:((C.take k).map (kT r.E)).length=k:=by rw [List.length_map,List.length_take];omega
  have ht:=PLift.up ht
  have hLl:(yY ((C.take k).map (kT r.E))).length=k:=by rw [RG,htl]
  generalize C[k]=c at hx hg ht
  clear hx hk hfo
  repeat' (first|simp only [*,go_sem,Nat.reduceLT,Nat.reduceLeDiff,Nat.reduceEqDiff,↓reduceIte,Nat.reduceAdd,Nat.reduceBEq]|((with_reducible refine And.intro ?_ ?_);((first|omega|decide))))
  exact AM (k+1) (by omega) (by omega) (by rw [ht.down];exact gQ (mB [0,1,2,3,4,7] rfl (by simp only [eO,fL,eP,jS];(repeat' (first|exact rfl|exact True.intro|refine And.intro ?_ ?_))) rfl (by simp only [qH,wO];(repeat' (first|exact rfl|exact True.intro|refine And.intro ?_ ?_)))))
 ·have hke:k=C.length:=by omega
  subst hke
  rw [List.take_length]
  have h1:decide ((C.length:Int)<(C.length:Int))=false:=decide_eq_false (by omega)
  have htk:(C.map (kT r.E)).take C.length=C.map (kT r.E):=List.take_of_length_le (by rw [List.length_map];exact Nat.le_refl _)
  repeat' (first|simp only [*,go_sem,Nat.reduceLT,Nat.reduceEqDiff,↓reduceIte,Nat.reduceAdd]|((with_reducible refine bP (hfo) ?_ ?_ ?_);exact rfl;exact fun _=>rfl)|((with_reducible apply aA.frz);exact rfl;exact rfl))
theorem dL {r:Rm} {a:Int} (hr:OkR r):aA Tryz.prog 41 [.c (.ptr 0 0),.c (.p (.i .i64 a))] (bH r) fun d h=>d=.c (.p (.sl 5 (aV (treeR r a))))∧h=bH r:=by
 have hf:=WQ (a:=a) hr
 unfold treeR
 generalize FQ r a=T at hf ⊢
 obtain ⟨T1,T2⟩:=T
 simp only at hf ⊢
 refine ent aB aK Tryz.func41 rfl rfl fun X0 hX=>?_
 simp only [Tryz.f41,go_sem]
 repeat' (first|simp only [*,go_sem,Nat.reduceLT,Nat.reduceEqDiff,↓reduceIte,Nat.reduceAdd]|((with_reducible refine aL [0,1,2,3] (hf) ?_ ?_ ?_ ?_);exact rfl;exact rfl;(focus ((simp only [go_sem];done)))))
end
end Go.Proofs.YtbpblnmhlhpebaaGreatDoor
namespace Go.Dm
open Go
section
theorem aA.frzB {P:Program} {f:FuncId} {h:aC} {x a a':DV} {K:DV→aC→Prop} (hne:(kY [a]).isEmpty=false) (hp:iI h [a]=some [a'])
  (hd:aA P f [x,a'] (sP h (kY [a])) K):aA P f [x,a] h K:=by
 intro X vals hh hi gd hr
 obtain ⟨X',h1,h2,h3,h4,h5,h6⟩:=jC (kY [a]) hi
 rw [← hh] at hp hd
 match vals,hr with
 | [v0,va],⟨hrp,hra,_⟩ =>
  have hr1:dC X' [a'] [va]:=kW (Y:=X') (ds:=[a]) hi h4 h1 rfl rfl (show dC X [a] [va] from ⟨hra,True.intro⟩) hp h6
  have hrq:bB X' x v0:=bB.step h4 hrp
  have key:∀ v w',Ret X' K v w'→Ret X K v w':=fun v w' ⟨d,Y,k1,k2,k3,k4,k5⟩=>⟨d,Y,k1,k2,h4.trans h5 k3,k4,k5⟩
  rw [← h1]
  rcases hd X' [v0,va] h2 h5 (gd.step h4) ⟨hrq,hr1.1,True.intro⟩ with ⟨h7,h8⟩|⟨v,w',h7,h8⟩
  ·exact .inl ⟨h7,h8.mono fun e w' ⟨v,he,hv⟩=>⟨v,he,key _ _ hv⟩⟩
  ·exact .inr ⟨v,w',h7,key _ _ h8⟩
def fO (r:Rm):aC:=[.box [.own 4 0 r.N.length,.own 5 0 r.L.length,.mp 6,.p (.i .i64 r.x)],.dead,.dead,.dead,.arr 2 (bW r.N) false,.arr 4 (dS r.L) false,.mp (wC r.E)]
attribute [go_sem] fO
def tO (T:Tab) (t:Fr) (h:aC) (R:DV→aC→Prop):List ResultVar→List EV→Prop
 | [],es=>R (DQ es.reverse) h
 | .tmp i::rs,es =>
  match look t i with
  | .c x=>tO T t h R rs (.c x::es)
  | .agg xs=>tO T t h R rs (.agg xs::es)
  | _=>False
 | .cell a ty::rs,es=>(T ty).size≠0∧tE (T ty) h (look t a) fun d =>
  match d with
  | .c x=>tO T t h R rs (.c x::es)
  | .agg xs=>tO T t h R rs (.agg xs::es)
  | _=>False
def SQ (T:Tab) (rs:List ResultVar) (R:DV→aC→Prop):Exit→DS→Prop
 | .normal,s=>tO T s.t s.h R rs []
 | .ret,s=>tO T s.t s.h R rs []
 | _,_=>False
theorem zFN {T:Tab} {rs:List ResultVar} {R:DV→aC→Prop} {s:DS}:SQ T rs R .normal s=tO T s.t s.h R rs []:=nr rfl
theorem zGI {T:Tab} {rs:List ResultVar} {R:DV→aC→Prop} {s:DS}:SQ T rs R .ret s=tO T s.t s.h R rs []:=nr rfl
theorem iT {T:Tab} {s:DS} {R:DV→aC→Prop}:∀ (rs:List ResultVar) (es:List EV) {K:List EV→Prop},(∀ l,R (DQ (es.reverse++l)) s.h→K l)→tO T s.t s.h R rs es→mC T s rs K
 | [],es,K,hk,h=>hk [] (by simpa [tO] using h)
 | .tmp i::rs,es,K,hk,h=>by
  simp only [tO,mC] at h ⊢
  generalize look s.t i=d at h ⊢
  cases d <;> simp only at h ⊢
  ·exact iT rs _ (fun l hl=>hk _ (by simpa using hl)) h
  ·exact iT rs _ (fun l hl=>hk _ (by simpa using hl)) h
 | .cell a ty::rs,es,K,hk,h=>by
  simp only [tO,mC] at h ⊢
  refine ⟨h.1,BN (fun d hd=>?_) h.2⟩
  cases d <;> simp only at hd ⊢
  ·exact iT rs _ (fun l hl=>hk _ (by simpa using hl)) hd
  ·exact iT rs _ (fun l hl=>hk _ (by simpa using hl)) hd
theorem sK {P:Program} {T:Tab} (hT:bT P T) (hm:P.follows .mixedOrders=true) {f:FuncId} {fn:Func} {c:Code} {args:List DV} {h:aC} {R:DV→aC→Prop} (hf:P.funcs[f]? = some fn) (hb:fn.body=some c)
  (hc:(Nat.ble args.length fn.ntmps && !(fn.name == "runtime.NumGoroutine"))=true)
  (hs:∀ X0:Ctx,X0.h=h→vc P T X0 c ⟨fn.ntmps,lO 0 args,h⟩ (SQ T fn.results.toList R)):aA P f args h R:=by
 simp only [Bool.and_eq_true,Bool.not_eq_true'] at hc
 refine gI hT hf hb (Nat.le_of_ble_eq_true hc.1) hc.2 fun X0 hX=>?_
 rw [gT]
 refine gH (eB hT hm c (hs X0 hX)) fun e s hv=>?_
 cases e <;> simp only [SQ,dpost] at hv ⊢
 case normal=>exact iT _ [] (fun l hl=>.inl (by simpa using hl)) hv
 case ret=>exact iT _ [] (fun l hl=>.inl (by simpa using hl)) hv
attribute [go_sem] zFN zGI tO List.getElem?_nil
end
end Go.Dm
namespace Go.Proofs.YtbpblnmhlhpebaaGreatDoor
open Go Go.Dm Go.Proofs
section
theorem zLu {r:Rm} (hr:OkR r):aA Tryz.prog 139 [.c (.ptr 0 0)] (bH r) fun d h=>d=.c (.own 4 0 (mL r.N).length)∧h=bH r++[.arr 1 (cV (mL r.N)) false]:=by
 have hnl:=hr.nl
 have hil:(mL r.N).length=r.N.length:=by simp [mL]
 rw [hil]
 refine MZ aB aK Tryz.func139 rfl rfl fun X0 hX=>?_
 simp only [Tryz.f139,go_sem]
 repeat' (simp only [*,go_sem,Nat.reduceLT,Nat.reduceEqDiff,↓reduceIte])
 refine gW aB aK (α:=Nat) (fun k=>⟨22,[(9,.c (.own 1 0 r.N.length)),(10,.c (.p (.i .i64 r.N.length))),(11,.c (.p (.i .i64 k))),(3,.c (.own 4 0 k))],[.box [.own 1 0 r.N.length,.own 2 0 r.L.length,.mp 3,.p (.i .i64 r.x)],.arr 2 (bW r.N) false,.arr 4 (dS r.L) false,.mp (wC r.E),.arr 1 (cV (mL (r.N.take k))) false]⟩)
  (fun k=>k≤r.N.length) (fun k=>r.N.length-k) 0 (Nat.zero_le _) ((rZ 3 1 rfl).trans (fQ (aJ (by rw [hX];rfl) rfl rfl (by simp only [aI,aM];(repeat' (first|exact rfl|exact True.intro|refine And.intro ?_ ?_)))))) ?_
 intro k hkl
 by_cases hlt:k<r.N.length
 ·have hx:r.N[k]? = some r.N[k]:=List.getElem?_eq_getElem hlt
  have hg:=qL hx
  have h1:decide ((k:Int)<(r.N.length:Int))=true:=decide_eq_true (by omega)
  have h2:(k:Int)<(r.N.length:Int):=by omega
  have h3:(0:Int)≤k:=by omega
  have w1:IntKind.i64.wrap ((k:Int)+1)=k+1:=wrap_i64 (by omega) (by omega)
  have ht:mL (r.N.take (k+1))=mL (r.N.take k)++[r.N[k].l]:=by unfold mL;rw [List.take_add_one,hx,List.map_append];rfl
  have htl:(mL (r.N.take k)).length=k:=by unfold mL;rw [List.length_map,List.length_take];omega
  generalize r.N[k]=x at hx hg ht
  generalize mL (r.N.take k)=S at ht htl
  have ht:=PLift.up ht
  clear hx
  repeat' (first|simp only [*,go_sem,Nat.reduceLT,Nat.reduceLeDiff,Nat.reduceEqDiff,↓reduceIte,Nat.reduceAdd,Nat.reduceBEq]|((with_reducible refine And.intro ?_ ?_);((first|omega|decide))))
  exact AM (k+1) (by omega) (by omega) (by rw [ht.down];exact gQ (mB [0,1,2,3,7] rfl (by simp only [eO,fL,eP,jS];(repeat' (first|exact rfl|exact True.intro|refine And.intro ?_ ?_))) rfl (by simp only [qH,wO];(repeat' (first|exact rfl|exact True.intro|refine And.intro ?_ ?_)))))
 ·have hke:k=r.N.length:=by omega
  subst hke
  rw [List.take_length]
  have h1:decide ((r.N.length:Int)<(r.N.length:Int))=false:=decide_eq_false (by omega)
  repeat' (simp only [*,go_sem,Nat.reduceLT,Nat.reduceEqDiff,↓reduceIte,Nat.reduceAdd])
theorem zKI {h:aC} {i j n m:Nat} {l:List Ly} {ids:List Int} {K:DV→aC→Prop} (hl:l.length≤900) (hi:ids.length≤900) (hgr:OkG l) (hn:n=l.length) (hm:m=ids.length) (hij:i≠j) (h0:h[i]? = some (.arr 4 (dS l) false)) (h1:h[j]? = some (.arr 1 (cV ids) false))
  (hk:K (.c (.own h.length 0 (jO l ids).length)) (h.set j (.arr 1 (cV ids) true)++[.arr 4 (dS (jO l ids)) false])):aA Tryz.prog 138 [.c (.own i 0 n),.c (.own j 0 m)] h K:=by
 have hm2:(cV ids).take m=cV ids:=by rw [hm,← eN ids,List.take_length]
 refine aA.frzB (a':=.c (.p (.sl 1 (cV ids)))) rfl (by simp [iI,PD,NL,RO,h1,hm2]) ?_
 have hf:sP h (kY [.c (.own j 0 m)])=h.set j (.arr 1 (cV ids) true):=by simp [kY,zJH,zBi,sP,zEF,h1]
 rw [hf]
 refine zHf rfl (by rw [hn,← kJ,List.take_length]) (zKf hl hi hgr) (by rw [List.getElem?_set_ne (Ne.symm hij)];exact h0) (by simp [tZ,pA,jD,dS,sR,Ly.cs]) ?_
 simpa [DV.sh,CV.sh,DB.sh,kJ] using hk
theorem zAC {r:Rm} (hr:OkR r) (hgr:OkG r.L):aA Tryz.prog 69 [.c (.ptr 0 0)] (bH r) fun d h=>d=.tup []∧h=fO (CL r):=by
 have hnl:=hr.nl
 have hll:=hr.ll
 have hil:(mL r.N).length=r.N.length:=by simp [mL]
 have hids:=zLu hr
 have hik:∀ {K:DV→aC→Prop},K (.c (.own 4 0 r.N.length)) (bH r++[.arr 1 (cV (mL r.N)) false])→aA Tryz.prog 139 [.c (.ptr 0 0)] (bH r) K:=fun hk=>aA.mono hids (by rintro d h' ⟨rfl,rfl⟩;rw [hil];exact hk)
 unfold bH at hik
 have hkk:∀ {h:aC} {K:DV→aC→Prop},h[2]? = some (.arr 4 (dS r.L) false)→h[4]? = some (.arr 1 (cV (mL r.N)) false)→K (.c (.own h.length 0 (jO r.L (mL r.N)).length)) (h.set 4 (.arr 1 (cV (mL r.N)) true)++[.arr 4 (dS (jO r.L (mL r.N))) false])→aA Tryz.prog 138 [.c (.own 2 0 r.L.length),.c (.own 4 0 r.N.length)] h K:=fun h0 h1 hk=>zKI hll (by omega) hgr rfl hil.symm (by decide) h0 h1 hk
 unfold CL CM
 have hGl:(jO r.L (mL r.N)).length≤900:=Nat.le_trans (List.length_filter_le ..) hll
 generalize jO r.L (mL r.N)=G at hkk hGl ⊢
 generalize mL r.N=I at hik hkk
 refine aA.perm [0,2,3,4,1,5,6] (d1:=.tup []) (h1:=[.box [.own 1 0 r.N.length,.own 5 0 G.length,.mp 6,.p (.i .i64 r.x)],.arr 2 (bW r.N) false,.arr 4 (dS r.L) false,.mp (wC r.E),.arr 1 (cV I) true,.arr 4 (dS G) false,.mp (wC (G.foldl (fun k l=>mW k l.i (kT r.E l.i)) []))]) ?_ rfl rfl (by unfold fO;exact (by simp only [eO,fJ,fL,eP,jS];(repeat' (first|exact rfl|exact True.intro|refine And.intro ?_ ?_))))
 clear hids
 refine sK aB aK Tryz.func69 rfl rfl fun X0 hX=>?_
 simp only [Tryz.f69,go_sem]
 repeat' (first|simp only [*,go_sem,Nat.reduceLT,Nat.reduceEqDiff,↓reduceIte,Nat.reduceAdd]|((refine aN (id:=0) aB aK [6,7,10] [5,6,1,2,3,4,7,0,8,9,10] (by decide +kernel) ?_);(repeat' (first|(refine aW ?_)|((refine cX ?_ ?_ rfl rfl rfl ?_ ?_);(rotate_left 2);(focus ((repeat' (first|simp only [*,go_sem,Nat.reduceLT,Nat.reduceLeDiff,Nat.reduceEqDiff,↓reduceIte,Nat.reduceAdd]|refine hik ?_|refine hkk rfl rfl ?_));((refine And.intro ?_ ?_ <;> exact rfl))));(simp only [aF,bK]))|((refine cY ?_ rfl rfl rfl ?_ ?_);(rotate_left 1);(focus ((repeat' (first|exact bJ|refine aZ ?_ ?_));(all_goals ((repeat' (simp only [*,go_sem,Nat.reduceLT,Nat.reduceEqDiff,↓reduceIte]));(try (exact rfl))))));(simp only [aF]))))))
 clear hik hkk
 refine gW aB aK (α:=Nat) (fun k=>⟨40,[(0,.c (.ptr 0 0)),(2,.c (.mp 6)),(19,.c (.own 5 0 G.length)),(20,.c (.p (.i .i64 G.length))),(21,.c (.p (.i .i64 k)))],[.box [.own 1 0 r.N.length,.own 5 0 G.length,.mp 3,.p (.i .i64 r.x)],.arr 2 (bW r.N) false,.arr 4 (dS r.L) false,.mp (wC r.E),.arr 1 (cV I) true,.arr 4 (dS G) false,.mp (wC ((G.take k).foldl (fun k l=>mW k l.i (kT r.E l.i)) []))]⟩)
  (fun k=>k≤G.length) (fun k=>G.length-k) 0 (Nat.zero_le _) (fQ (aJ (by rw [hX];rfl) rfl rfl (by simp only [aI,aM];(repeat' (first|exact rfl|exact True.intro|refine And.intro ?_ ?_))))) ?_
 intro k hkl
 by_cases hlt:k<G.length
 ·have hx:G[k]? = some G[k]:=List.getElem?_eq_getElem hlt
  have hg:=pX hx
  have h1:decide ((k:Int)<(G.length:Int))=true:=decide_eq_true (by omega)
  have h2:(k:Int)<(G.length:Int):=by omega
  have h3:(0:Int)≤k:=by omega
  have w1:IntKind.i64.wrap ((k:Int)+1)=k+1:=wrap_i64 (by omega) (by omega)
  have ht:(G.take (k+1)).foldl (fun k l=>mW k l.i (kT r.E l.i)) []=mW ((G.take k).foldl (fun k l=>mW k l.i (kT r.E l.i)) []) G[k].i (kT r.E G[k].i):=by rw [List.take_add_one,hx,List.foldl_append];rfl
  generalize G[k]=x at hx hg ht
  generalize (G.take k).foldl (fun k l=>mW k l.i (kT r.E l.i)) []=M at ht
  have ht:=PLift.up ht
  clear hx
  repeat' (first|simp only [*,go_sem,Nat.reduceLT,Nat.reduceLeDiff,Nat.reduceEqDiff,↓reduceIte,Nat.reduceAdd]|((refine aN (id:=5) aB aK [10] [0,1,2,3,4,5,6,7,8,9,10] (by decide +kernel) ?_);(repeat' (first|(refine aW ?_)|((refine cX ?_ ?_ rfl rfl rfl ?_ ?_);(rotate_left 2);(focus ((repeat' (simp only [*,go_sem,Nat.reduceEqDiff,↓reduceIte]));((refine And.intro ?_ ?_ <;> exact rfl))));(simp only [bK]))|((refine cY ?_ rfl rfl rfl ?_ ?_);(rotate_left 1);(focus ((repeat' (first|exact bJ|refine aZ ?_ ?_));(all_goals ((repeat' (simp only [*,go_sem,Nat.reduceLT,Nat.reduceEqDiff,↓reduceIte]));(try (exact rfl))))));(simp only [aF]))))))
  exact AM (k+1) (by omega) (by omega) (by rw [ht.down];exact fQ (aJ rfl rfl rfl (by simp only [aI,aM];(repeat' (first|exact rfl|exact True.intro|refine And.intro ?_ ?_)))))
 ·have hke:k=G.length:=by omega
  subst hke
  rw [List.take_length]
  have h1:decide ((G.length:Int)<(G.length:Int))=false:=decide_eq_false (by omega)
  repeat' (simp only [*,go_sem,Nat.reduceLT,Nat.reduceLeDiff,Nat.reduceEqDiff,↓reduceIte,Nat.reduceAdd])
end
end Go.Proofs.YtbpblnmhlhpebaaGreatDoor
