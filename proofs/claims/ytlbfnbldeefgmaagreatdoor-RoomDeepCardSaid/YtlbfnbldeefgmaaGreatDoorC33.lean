/- Part 34 of the proof of roomDeep_card, set without needless blanks. No condition. -/
import Derived.Test.YtlbfnbldeefgmaaGreatDoorC32
set_option linter.all false
section
namespace Go.Proofs.YtlbfnbldeefgmaaGreatDoor
open Go Go.Dm Go.Proofs
set_option maxRecDepth 100000
set_option maxHeartbeats 8000000
def goK (S:List Int) (x:Ly):Bool:=!S.contains x.i
theorem zAI {S:List Int} {es:List (List PV)} {i p s:Int} {f:Bool} (hp:S.length≤1000000):
  aA Tryz.prog 215 [.agg [.p (.i .i64 i),.p (.i .i64 p),.p (.i .i64 s),.p (.b f)],.c (.ptr 0 0)] [.box [.own 1 0 S.length],.arr 1 (cQ S) false,.arr 4 es false]
   fun r h=>r=.c (.p (.b (!S.contains i)))∧h=[.box [.own 1 0 S.length],.arr 1 (cQ S) false,.arr 4 es false]:=by
 have hck:∀ {h:aB} {j:Nat} {K:DV→aB→Prop},h[j]? = some (.arr 1 (cQ S) false)→K (.c (.p (.b (S.contains i)))) h→aA Tryz.prog 216 [.c (.own j 0 S.length),.c (.p (.i .i64 i))] h K:=fun h0 hk=>uE hp rfl h0 hk;refine ent aC aK Tryz.func215 rfl rfl fun X0 hX=>?_;simp only [Tryz.f215,go_sem]
 repeat' (simp only [*,go_sem,Nat.reduceLT,Nat.reduceEqDiff,↓reduceIte,Nat.reduceAdd,bK,aG])
theorem zAJ {S:List Int} {es:List (List PV)} {i p s:Int} {f:Bool} (hp:S.length≤1000000):
  aA Tryz.prog 215 [.agg [.p (.i .i64 i),.p (.i .i64 p),.p (.i .i64 s),.p (.b f)],.c (.ptr 0 0)] [.box [.own 1 0 S.length],.arr 1 (cQ S) false,.arr 4 es false,.box [.p (.i .i64 i),.p (.i .i64 p),.p (.i .i64 s),.p (.b f)]]
   fun r h=>r=.c (.p (.b (!S.contains i)))∧h=[.box [.own 1 0 S.length],.arr 1 (cQ S) false,.arr 4 es false,.box [.p (.i .i64 i),.p (.i .i64 p),.p (.i .i64 s),.p (.b f)]]:=by
 have hck:∀ {h:aB} {j:Nat} {K:DV→aB→Prop},h[j]? = some (.arr 1 (cQ S) false)→K (.c (.p (.b (S.contains i)))) h→aA Tryz.prog 216 [.c (.own j 0 S.length),.c (.p (.i .i64 i))] h K:=fun h0 hk=>uE hp rfl h0 hk;refine ent aC aK Tryz.func215 rfl rfl fun X0 hX=>?_;simp only [Tryz.f215,go_sem]
 repeat' (simp only [*,go_sem,Nat.reduceLT,Nat.reduceEqDiff,↓reduceIte,Nat.reduceAdd,bK,aG])
theorem zD3 {t:List Ly} {S:List Int} (hp:S.length≤1000000) (ht:t.length≤1000000):
  aA Tryz.prog 118 [.c (.own 2 0 t.length),.c (.clo 215 [.ptr 0 0])] [.box [.own 1 0 S.length],.arr 1 (cQ S) false,.arr 4 (cY t) false]
   fun r h=>(∃ i:Nat,i≤t.length∧(∀ j x,t[j]? = some x→j<i→goK S x=false)∧((∃ x,t[i]? = some x∧goK S x=true∧r=.c (.p (.i .i64 i)))∨(i=t.length∧r=.c (.p (.i .i64 (-1))))))∧h=[.box [.own 1 0 S.length],.arr 1 (cQ S) false,.arr 4 (cY t) false]:=by
 refine ent aC aK Tryz.func118 rfl rfl fun X0 hX=>?_;simp only [Tryz.f118,go_sem]
 repeat' (simp only [*,go_sem,Nat.reduceLT,Nat.reduceEqDiff,↓reduceIte,Nat.reduceAdd,Int.reduceNeg,])
 refine bQ aC aK (α:=Nat) (fun k=>⟨19,[(0,.c (.own 2 0 t.length)),(1,.c (.clo 215 [.ptr 0 0])),(7,.c (.p (.i .i64 t.length))),(8,.c (.p (.i .i64 k)))],[.box [.own 1 0 S.length],.arr 1 (cQ S) false,.arr 4 (cY t) false]⟩)
  (fun k=>k≤t.length∧∀ j x,t[j]? = some x→j<k→goK S x=false) (fun k=>t.length-k) 0 ⟨Nat.zero_le _,fun j x _ h=>by omega⟩ (.inl (aJ (by rw [hX];rfl) rfl rfl (by simp [aH,aN,aD,aL,aG,cC]))) ?_
 rintro k ⟨hk,hs⟩;by_cases hlt:k<t.length
 ·have hx:t[k]? = some t[k]:=List.getElem?_eq_getElem hlt;have hg:=kJ hx;have h1:decide ((k:Int)<(t.length:Int))=true:=decide_eq_true (by omega);have hli:(k:Int)<(t.length:Int):=by omega
  have w1:IntKind.i64.wrap ((k:Int)+1)=k+1:=wrap_i64 (by omega) (by omega);generalize t[k]=x at hx hg;cases hb:goK S x
  ·have hs':k+1≤t.length∧∀ j y,t[j]? = some y→j<k+1→goK S y=false:=⟨by omega,fun j y hy hj=>by
    rcases Nat.lt_or_ge j k with h|h
    ·exact hs j y hy h
    ·have:j=k:=by omega
     subst this;rw [hx] at hy;cases hy;exact hb⟩
   have hb2:(!S.contains x.i)=false:=hb;clear hs hx hb
   repeat' (first|simp only [*,go_sem,Nat.reduceLT,Nat.reduceLeDiff,Nat.reduceEqDiff,↓reduceIte,Nat.reduceAdd,Int.reduceNeg,]|((with_reducible refine And.intro ?_ ?_);omega))
   refine aA.mono (zAI hp) ?_;rintro _ _ ⟨rfl,rfl⟩;rw [hb2]
   repeat' (simp only [*,go_sem,Nat.reduceLT,Nat.reduceEqDiff,↓reduceIte,Int.reduceNeg,])
   exact jC (k+1) hs' (by omega) (aJ rfl rfl rfl (by simp [aH,aN,aD,aL,aG,cC]))
  ·have hb2:(!S.contains x.i)=true:=hb
   repeat' (first|simp only [*,go_sem,Nat.reduceLT,Nat.reduceLeDiff,Nat.reduceEqDiff,↓reduceIte,Nat.reduceAdd,Int.reduceNeg,]|((with_reducible refine And.intro ?_ ?_);omega))
   refine aA.mono (zAI hp) ?_;rintro _ _ ⟨rfl,rfl⟩;rw [hb2];clear hb2
   repeat' (simp only [*,go_sem,Nat.reduceLT,Nat.reduceEqDiff,↓reduceIte,Int.reduceNeg,bK,aG])
   exact ⟨k,hk,hs,.inl ⟨x,hx,hb,rfl⟩⟩
 ·have h1:decide ((k:Int)<(t.length:Int))=false:=decide_eq_false (by omega);have hk2:k=t.length:=by omega
  subst hk2
  repeat' (simp only [*,go_sem,Nat.reduceLT,Nat.reduceEqDiff,↓reduceIte,Nat.reduceAdd,Int.reduceNeg,bK,aG])
  refine ⟨t.length,Nat.le_refl _,hs,.inr ?_⟩
  first|exact ⟨rfl,rfl⟩|rfl
theorem XP {t:List Ly} {S:List Int} {K:DV→aB→Prop} (hp:S.length≤1000000) (ht:t.length≤1000000)
  (hk:∀ es:List (List PV),es.take (t.filter fun x=>!goK S x).length=cY (t.filter fun x=>!goK S x)→K (.c (.own 2 0 (t.filter fun x=>!goK S x).length)) [.box [.own 1 0 S.length],.arr 1 (cQ S) false,.arr 4 es false]):
  aA Tryz.prog 214 [.c (.own 2 0 t.length),.c (.clo 215 [.ptr 0 0])] [.box [.own 1 0 S.length],.arr 1 (cQ S) false,.arr 4 (cY t) false] K:=by
 refine PC aC aK Tryz.func214 rfl rfl fun X0 hX=>?_;simp only [Tryz.f214,go_sem]
 repeat' (simp only [*,go_sem,Nat.reduceLT,Nat.reduceEqDiff,↓reduceIte,Int.reduceNeg,])
 refine aA.mono (zD3 hp ht) ?_;rintro _ _ ⟨⟨i0,hi0,hbef,hcase⟩,rfl⟩;rcases hcase with ⟨x0,hx0,hg0,rfl⟩|⟨rfl,rfl⟩
 ·have hil:i0<t.length:=(List.getElem?_eq_some_iff.1 hx0).1;have q:((i0:Int) == -1)=false:=by rw [beq_eq_false_iff_ne];omega
  have w0:IntKind.i64.wrap ((i0:Int)+1)=(i0+1:Nat):=wrap_i64 (by omega) (by omega)
  repeat' (simp only [*,go_sem,Nat.reduceLT,Nat.reduceEqDiff,↓reduceIte,Int.reduceNeg,])
  have hself:(t.take i0).filter (fun x=>!goK S x)=t.take i0:=List.filter_eq_self.2 fun x hx=>by
   obtain ⟨j,hj,rfl⟩:=List.mem_iff_getElem.1 hx;rw [List.getElem_take];have hj2:j<i0:=by simp at hj;omega
   rw [hbef j _ (List.getElem?_eq_getElem (by omega)) hj2];rfl
  have h0:(t.take (i0+1)).filter (fun x=>!goK S x)=t.take i0:=by
   rw [eB hx0,hself,hg0];simp
  refine bQ aC aK (α:=Nat × Nat × List Ly) (fun x=>⟨42,[(0,.c (.own 2 0 t.length)),(1,.c (.clo 215 [.ptr 0 0])),(5,.c (.p (.i .i64 x.2.1))),(6,.c (.p (.i .i64 x.1)))],[.box [.own 1 0 S.length],.arr 1 (cQ S) false,.arr 4 (cY x.2.2) false]⟩)
   (fun x=>x.1≤t.length∧x.2.1<x.1∧x.2.2.length=t.length∧x.2.2.take x.2.1=(t.take x.1).filter (fun x=>!goK S x)∧x.2.2.drop x.1=t.drop x.1) (fun x=>t.length-x.1) (i0+1,i0,t)
   ⟨by omega,by simp,rfl,by rw [h0],rfl⟩ (.inl (aJ (by rw [hX];rfl) rfl rfl (by simp [aH,aN,aD,aL,aG,cC]))) ?_
  clear hself h0 hbef hx0 hg0 q w0 hil hi0;rintro ⟨j,i,R⟩ ⟨hj,hij,hRl,hRt,hRd⟩;simp only at hj hij hRl hRt hRd;by_cases hlt:j<t.length
  ·have hx:t[j]? = some t[j]:=List.getElem?_eq_getElem hlt;have hxR:R[j]? = some t[j]:=by
    have h3:R[j]? = t[j]? := by
     have:=congrArg (·[0]?) hRd
     simpa [List.getElem?_drop] using this
    exact h3.trans hx
   have hg:=kJ hxR;have h1:decide ((j:Int)<(t.length:Int))=true:=decide_eq_true (by omega);have hli:(j:Int)<(t.length:Int):=by omega
   have hli2:(i:Int)<(t.length:Int):=by omega
   have w1:IntKind.i64.wrap ((j:Int)+1)=(j+1:Nat):=wrap_i64 (by omega) (by omega);have w2:IntKind.i64.wrap ((i:Int)+1)=(i+1:Nat):=wrap_i64 (by omega) (by omega);have hnx:=eB (g:=fun x=>!goK S x) hx;generalize t[j]=x at hx hxR hg hnx;have hRd2:R.drop (j+1)=t.drop (j+1):=by rw [← List.drop_drop,← List.drop_drop,hRd]
   cases hb:goK S x
   ·rw [hb] at hnx;have hJ:j+1≤t.length∧i+1<j+1∧(R.set i x).length=t.length∧(R.set i x).take (i+1)=(t.take (j+1)).filter (fun x=>!goK S x)∧(R.set i x).drop (j+1)=t.drop (j+1):=by
     refine ⟨by omega,by omega,by simp [hRl],?_,?_⟩
     ·rw [hnx,List.take_add_one,List.getElem?_set_self (by omega),List.take_set,List.set_eq_of_length_le (by rw [List.length_take];omega),hRt];rfl
     ·rw [List.drop_set,if_pos (by omega),hRd2]
    have hb2:(!S.contains x.i)=false:=hb;have hgi:=kJ (l:=R) (k:=i) (List.getElem?_eq_getElem (by omega));generalize (R[i]'(by omega))=y at hgi;clear hnx hRt hRd hRd2 hx hxR hb
    repeat' (first|simp only [*,go_sem,Nat.reduceLT,Nat.reduceLeDiff,Nat.reduceEqDiff,↓reduceIte,Nat.reduceAdd,]|((with_reducible refine And.intro ?_ ?_);omega))
    refine aA.mono (zAJ hp) ?_;rintro _ _ ⟨rfl,rfl⟩;rw [hb2]
    repeat' (first|simp only [*,go_sem,Nat.reduceLT,Nat.reduceLeDiff,Nat.reduceEqDiff,↓reduceIte,Nat.reduceAdd,]|((with_reducible refine And.intro ?_ ?_);omega))
    exact jC (j+1,i+1,R.set i x) hJ (by simp only;omega) (aJ rfl (by simp only [← NY];rfl) rfl (by simp [aH,aN,aD,aL,aG,cC]))
   ·rw [hb] at hnx;have hJ:j+1≤t.length∧i<j+1∧R.length=t.length∧R.take i=(t.take (j+1)).filter (fun x=>!goK S x)∧R.drop (j+1)=t.drop (j+1):=⟨by omega,by omega,hRl,by rw [hnx,hRt];simp,hRd2⟩
    have hb2:(!S.contains x.i)=true:=hb;clear hnx hRt hRd hRd2 hx hxR hb
    repeat' (first|simp only [*,go_sem,Nat.reduceLT,Nat.reduceLeDiff,Nat.reduceEqDiff,↓reduceIte,Nat.reduceAdd,]|((with_reducible refine And.intro ?_ ?_);omega))
    refine aA.mono (zAJ hp) ?_;rintro _ _ ⟨rfl,rfl⟩;rw [hb2]
    repeat' (simp only [*,go_sem,Nat.reduceLT,Nat.reduceEqDiff,↓reduceIte,])
    exact jC (j+1,i,R) hJ (by simp only;omega) (aJ rfl rfl rfl (by simp [aH,aN,aD,aL,aG,cC]))
  ·have h1:decide ((j:Int)<(t.length:Int))=false:=decide_eq_false (by omega);have htt:t.take j=t:=List.take_of_length_le (by omega);rw [htt] at hRt;have hil:(t.filter fun x=>!goK S x).length=i:=by
    rw [← hRt,List.length_take];omega
   have hli:(i:Int)≤(t.length:Int):=by omega
   have hi0:(0:Int)≤i:=by omega
   have hni:i+(t.length-i)=R.length:=by omega
   rw [hil] at hk;clear htt hRd hij
   repeat' (first|simp only [*,go_sem,Nat.reduceLT,Nat.reduceEqDiff,↓reduceIte,Nat.reduceAdd,Int.reduceLE,Int.reduceToNat,]|((with_reducible refine And.intro ?_ ?_);omega))
   all_goals first|refine hk _ ?_|refine ⟨by omega,hk _ ?_⟩
   all_goals exact List.take_left' (by simp [cY,hil])
 ·have hself:t.filter (fun x=>!goK S x)=t:=List.filter_eq_self.2 fun x hx=>by
   obtain ⟨j,hj,rfl⟩:=List.mem_iff_getElem.1 hx;rw [hbef j _ (List.getElem?_eq_getElem hj) hj];rfl
  rw [hself] at hk;clear hself
  repeat' (simp only [*,go_sem,Nat.reduceLT,Nat.reduceEqDiff,↓reduceIte,Int.reduceNeg,beq_self_eq_true])
  all_goals exact hk _ (List.take_of_length_le (by simp))
end Go.Proofs.YtlbfnbldeefgmaaGreatDoor
end
section
namespace Go.Dm
open Go
theorem aA.rowP {P:Program} {f:FuncId} {args:List DV} {k:Nat} {es:List (List PV)} (hc:aA P f args [] fun d h'=>(d=.c (.p .nil)∧es=[])∨∃ j off es',d=.c (.own j off es.length)∧h'[j]? = some (.arr k es' false)∧(es'.drop off).take es.length=es):
  aA P f args [] fun d h'=>d=.c (.own 0 0 es.length)∧h'=[.arr k es false]:=by
 refine aA.rowR ?_;intro X vals hh hi gd hr;have key:∀ v w',Ret X (fun d h'=>(d=.c (.p .nil)∧es=[])∨∃ j off es',d=.c (.own j off es.length)∧h'[j]? = some (.arr k es' false)∧(es'.drop off).take es.length=es) v w'→Ret X (fun d h'=>(d=.c (.p .nil)∧es=[])∨∃ j,d=.c (.own j 0 es.length)∧h'[j]? = some (.arr k es false)) v w':=by
  rintro v w' ⟨d,Z,k1,k2,k3,k4,k5⟩;rcases k5 with h|⟨j,off,es',rfl,hj,he⟩
  ·exact ⟨d,Z,k1,k2,k3,k4,.inl h⟩
  ·have hrel:∀ i:Nat,aX Z (look [(0,.c (.own j off es.length))] i) ((#[v]:Array Value).getD i undef):=fun i=>by
    simp only [look];split
    ·rename_i h0;subst h0;exact k4
    ·exact True.intro
   obtain ⟨X',p1,p2,p3,p4,p5⟩:=vP (n0:=X.h.length) (s:=⟨1,[(0,.c (.own j off es.length))],Z.h⟩) 0 j off es.length rfl hj X Z ⟨#[v],[]⟩ rfl rfl k2 k3 ⟨rfl,hrel,rfl⟩;have hv:aX X' (.c (.own Z.h.length 0 es.length)) v:=p5.rel 0;refine ⟨_,X',p1.trans k1,p3,p4,hv,.inr ⟨Z.h.length,rfl,?_⟩⟩;rw [p2,List.getElem?_append_right (by simp),List.length_set,Nat.sub_self,he];rfl
 rcases hc X vals hh hi gd hr with ⟨h1,h2⟩|⟨v,w',h1,h2⟩
 ·exact .inl ⟨h1,h2.mono fun e w' ⟨v,he,hv⟩=>⟨v,he,key v w' hv⟩⟩
 ·exact .inr ⟨v,w',h1,key v w' h2⟩
theorem zM {X Y:Ctx} {bl:Nat} (hw:Y.w=X.w) (hc:∀ c v,bP X c v→bP Y c v) {x y:CV} (hxy:∀ v,bP X x v→bP Y y v):∀ {cs:List CV} {off n:Nat},cI X bl off cs→cs[n]? = some x→cI Y bl off (cs.set n y)
 | [],_,_,_,h=>by simp at h
 | c::cs,off,0,h,hx=>by
  simp only [List.getElem?_cons_zero,Option.some.injEq] at hx;subst hx;obtain ⟨⟨v,h1,h2⟩,h3⟩:=h;refine ⟨⟨v,by rw [hw];exact h1,hxy v h2⟩,?_⟩
  clear h1 h2;have go:∀ {cs:List CV} {off:Nat},cI X bl off cs→cI Y bl off cs:=by
   intro cs
   induction cs with
   | nil=>intro off _;exact True.intro
   | cons c cs ih =>
    rintro off ⟨⟨v,h1,h2⟩,h3⟩;exact ⟨⟨v,by rw [hw];exact h1,hc _ _ h2⟩,ih h3⟩
  exact go h3
 | c::cs,off,n+1,h,hx=>by
  obtain ⟨⟨v,h1,h2⟩,h3⟩:=h;exact ⟨⟨v,by rw [hw];exact h1,hc _ _ h2⟩,zM hw hc hxy h3 (by simpa using hx)⟩
theorem SO {n0:Nat} {s:DS} (id n k:Nat) {cells:List CV} (hd:s.h[id]? = some (.box cells)) (hn:cells[n]? = some (.p .nil)) (hid:n0≤id):
  DM n0 s ⟨s.n,s.t,s.h.set id (.box (cells.set n (.own s.h.length 0 0)))++[.arr k [] false]⟩:=by
 intro X0 X a hn0 hh hi hs ht;obtain ⟨h1,h2⟩:=virt hi k;rw [← hh] at hd;have hlt:=(List.getElem?_eq_some_iff.1 hd).1;have hd':(X.virt k).h[id]? = some (.box cells):=by
  show (X.h++_)[id]? = _;rw [List.getElem?_append_left hlt];exact hd
 obtain ⟨g,arr,el,fz,q1,q2,q3,q4,q5⟩:=h2.blk id _ hd';have htt:Touched (X.virt k).w (X.virt k).w g.1:=⟨rfl,rfl,oW.rfl',rfl,fun _ _=>rfl,.inl ⟨arr,el,fz,arr,el,fz,q2,q2,rfl⟩⟩;have st:=Step.put h2 hd' rfl rfl q1 htt (d:=.box (cells.set n (.own X.h.length 0 0))) True.intro rfl
 have hrel:dU ((X.virt k).put (X.virt k).w id (.box (cells.set n (.own X.h.length 0 0)))) id (.box (cells.set n (.own X.h.length 0 0))):=by
  refine ⟨g,arr,el,fz,q1,q2,by simpa using q3,q4,?_⟩
  obtain ⟨g',arr',el',fz',r1,r2,r3,r4,r5⟩:=hi.blk id _ hd;have hg:(X.virt k).G id=X.G id:=by
   show (if id=X.h.length then none else X.G id)=X.G id
   rw [if_neg (by omega)]
  rw [hg,r1] at q1;cases q1;refine zM (X:=X) (Y:=((X.virt k).put (X.virt k).w id (.box (cells.set n (.own X.h.length 0 0))))) (y:=.own X.h.length 0 0) rfl (fun c v hc=>?_) (fun v hv=>?_) r5 hn
  ·exact aX.step st (aX.step h1 (oS (x:=c) hc))
  ·exact aX.step st (oS (x:=.own X.h.length 0 0) (hQ hv))
 have hi2:=HInv.put h2 hd' rfl rfl q1 htt (d:=.box (cells.set n (.own X.h.length 0 0))) True.intro rfl hrel
 refine ⟨((X.virt k).put (X.virt k).w id (.box (cells.set n (.own X.h.length 0 0)))),rfl,?_,hi2,(hs.trans hi h1).trans h2 st,ht.size,fun j=>?_,ht.defs⟩
 ·show (X.h++[DB.arr k [] false]).set id _=_
  rw [List.set_append_left _ _ hlt,hh]
 ·exact aX.step st ((ht.rel j).step h1)
end Go.Dm
end
section
namespace Go.Proofs.YtlbfnbldeefgmaaGreatDoor
open Go Go.Dm Go.Proofs
set_option maxRecDepth 100000
set_option maxHeartbeats 8000000
def DN (l:List Ly) (ids:List Int):List Int:=ids.flatMap (qP l)
theorem NK {l:List Ly}:∀ (ids:List Int),(DN l ids).length≤ids.length*l.length
 | []=>by simp [DN]
 | a::ids=>by
  have h1:=NL l a;have h2:=NK (l:=l) ids;simp only [DN,List.flatMap_cons,List.length_append,List.length_cons,Nat.succ_mul] at h2 ⊢;omega
theorem zD8 (l:List Ly) (ids:List Int):(l.filter fun x=>!goK (DN l ids) x)=iG l ids:=by
 unfold iG
 congr 1
 funext x
 simp only [goK,Bool.not_not,DN];rw [Bool.eq_iff_iff];simp [List.mem_flatMap]
theorem zIA {l:List Ly} {ids:List Int} (hl:l.length≤900) (hi:ids.length≤900) (hgr:OkG l):aA Tryz.prog 146 [.c (.p (.sl 4 (cY l))),.c (.p (.sl 1 (cQ ids)))] [] fun r h=>r=.c (.own 0 0 (cY (iG l ids)).length)∧h=[.arr 4 (cY (iG l ids)) false]:=by
 refine aA.rowP ?_;have hcl:=NO (l:=l) (by omega);rw [fN] at hcl;have hA:=fun a=>KA (l:=l) (a:=a) (by omega) hgr;have hbd:∀ k,(DN l (ids.take k)).length≤810000:=fun k=>by
  have h1:(ids.take k).length≤900:=by rw [List.length_take];omega
  have h2:=NK (l:=l) (ids.take k);have h3:(ids.take k).length*l.length≤900*900:=Nat.mul_le_mul h1 hl;omega
 have hfin:∀ {K:DV→aB→Prop},(∀ es:List (List PV),es.take (iG l ids).length=cY (iG l ids)→K (.c (.own 2 0 (iG l ids).length)) [.box [.own 1 0 (DN l ids).length],.arr 1 (cQ (DN l ids)) false,.arr 4 es false]) →
   aA Tryz.prog 214 [.c (.own 2 0 l.length),.c (.clo 215 [.ptr 0 0])] [.box [.own 1 0 (DN l ids).length],.arr 1 (cQ (DN l ids)) false,.arr 4 (cY l) false] K:=fun hk=>by
  have h0:=hbd ids.length;rw [List.take_length] at h0;refine XP (by omega) (by omega) ?_;rw [zD8];exact hk
 generalize iG l ids=G at hfin ⊢;refine PC aC aK Tryz.func146 rfl rfl fun X0 hX=>?_;simp only [Tryz.f146,go_sem]
 repeat' (simp only [*,go_sem,Nat.reduceLT,Nat.reduceEqDiff,↓reduceIte,])
 refine dS aC aK (α:=Nat) (fun k=>⟨24,[(0,.c (.p (.sl 4 (cY l)))),(5,.c (.ptr 0 0)),(8,.c (.p (.sl 1 (cQ ids)))),(9,.c (.p (.i .i64 ids.length))),(10,.c (.p (.i .i64 k)))],[.box [.own 1 0 (DN l (ids.take k)).length],.arr 1 (cQ (DN l (ids.take k))) false]⟩)
  (fun k=>k≤ids.length) (fun k=>ids.length-k) 0 (Nat.zero_le _) ((SO 0 0 1 rfl rfl (by rw [hX];exact Nat.le_refl _)).trans (cM (aJ (by rw [hX];rfl) rfl rfl (by simp only [aH,aN];(repeat' (first|exact rfl|exact True.intro|refine And.intro ?_ ?_)))))) ?_
 intro k hkl;have hbk:=hbd k;by_cases hlt:k<ids.length
 ·have hx:ids[k]? = some ids[k]:=List.getElem?_eq_getElem hlt;have hg:=rD hx;have h1:decide ((k:Int)<(ids.length:Int))=true:=decide_eq_true (by omega);have h2:(k:Int)<(ids.length:Int):=by omega
  have h3:(0:Int)≤k:=by omega
  have w1:IntKind.i64.wrap ((k:Int)+1)=k+1:=wrap_i64 (by omega) (by omega);have ht:DN l (ids.take (k+1))=DN l (ids.take k)++qP l ids[k]:=by
   unfold DN;rw [List.take_add_one,hx,List.flatMap_append];simp
  have hAk:=hA ids[k];have hal:=NL l ids[k];rw [eM] at hAk;generalize ids[k]=x at hx hg ht hAk hal;generalize qP l x=A at hAk ht hal;generalize DN l (ids.take k)=S at hbk ht;have hlen:(DN l (ids.take (k+1))).length=S.length+A.length:=by rw [ht,List.length_append]
  have ht:=PLift.up ht;have hlen:=PLift.up hlen;have htk:(cQ A).take A.length=cQ A:=by rw [← eM A,List.take_length]
  have hak:∀ {h:aB} {K:DV→aB→Prop},K (.c (.own h.length 0 A.length)) (h++[.arr 1 (cQ A) false])→aA Tryz.prog 213 [.c (.p (.sl 4 (cY l))),.c (.p (.i .i64 x))] h K:=fun {h K} hk=>aS [] hAk rfl rfl (by simp only [go_sem]) (by simpa [DV.rn,CV.rn,Dm.rn,fT,DB.rn] using hk);clear hx hA hfin hbd hcl hAk
  repeat' (first|simp only [*,go_sem,Nat.reduceLT,Nat.reduceEqDiff,↓reduceIte,]|((refine aO (id:=5) aC aK [3,4,5] [1,2,3,0,4,5] (by decide +kernel) ?_);(repeat' (first|(refine bC ?_)|((refine dB ?_ ?_ rfl rfl rfl ?_ ?_);(rotate_left 2);(focus ((repeat' (first|simp only [*,go_sem,Nat.reduceLT,Nat.reduceLeDiff,Nat.reduceEqDiff,↓reduceIte,Nat.reduceAdd,Nat.reduceBEq,]|refine hak ?_|((with_reducible refine And.intro ?_ ?_);omega)));((refine And.intro ?_ ?_ <;> exact rfl))));(simp only [aF,bF]))|((refine dA ?_ rfl rfl rfl ?_ ?_);(rotate_left 1);(focus ((repeat' (first|exact bI|refine bA ?_ ?_));(all_goals ((repeat' (simp only [*,go_sem,Nat.reduceLT,Nat.reduceEqDiff,↓reduceIte,]));(try (exact rfl))))));(simp only [aF]))))))
  exact mM (k+1) (by omega) (by omega) (by rw [hlen.down,ht.down];exact dO (fY [0,3] rfl (by simp only [fQ,gU,fP];(repeat' (first|exact rfl|exact True.intro|refine And.intro ?_ ?_))) rfl (by simp only [gQ,lH];(repeat' (first|exact rfl|exact True.intro|refine And.intro ?_ ?_)))))
 ·have hke:k=ids.length:=by omega
  subst hke;rw [List.take_length] at hbk ⊢;have h1:decide ((ids.length:Int)<(ids.length:Int))=false:=decide_eq_false (by omega);clear hA hbd;generalize DN l ids=S at hbk hfin
  repeat' (first|simp only [*,go_sem,Nat.reduceLT,Nat.reduceEqDiff,↓reduceIte,Nat.reduceAdd,]|((with_reducible refine aS [] (hcl) ?_ ?_ ?_ ?_);exact rfl;exact rfl;(focus ((simp only [go_sem];done)))))
  refine aA.sub [0,1,2] (hfin (K:=fun d h'=>∃ es:List (List PV),es.take G.length=cY G∧d=.c (.own 2 0 G.length)∧h'=[.box [.own 1 0 S.length],.arr 1 (cQ S) false,.arr 4 es false]) fun es he=>⟨es,he,rfl,rfl⟩) rfl (by simp only [go_sem];done) ?_;rintro d h' - ⟨es,he,rfl,rfl⟩;simp only [go_sem]
  repeat' (simp only [*,go_sem,Nat.reduceLT,↓reduceIte,])
  exact .inr ⟨2,0,es,rfl,rfl,he⟩
end Go.Proofs.YtlbfnbldeefgmaaGreatDoor
end
