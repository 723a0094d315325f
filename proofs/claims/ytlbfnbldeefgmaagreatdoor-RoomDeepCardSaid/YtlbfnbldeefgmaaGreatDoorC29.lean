/- Part 30 of the proof of roomDeep_card, set without needless blanks. No condition. -/
import Derived.Test.YtlbfnbldeefgmaaGreatDoorC28
import Derived.Test.YtlbfnbldeefgmaaGreatDoorC26
set_option linter.all false
section
namespace Go.Proofs.YtlbfnbldeefgmaaGreatDoor
open Go Go.Dm Go.Shelf
set_option maxRecDepth 100000
set_option maxHeartbeats 4000000
def LJ:Go.Shelf.Ren:=⟨fun | 22=>349 | 29=>384 | 30=>385|n=>n,fun | 24=>40 | 9=>130 | 3=>3 | 4=>4 | 0=>0|n=>n,fun|n=>n⟩
theorem zGM:InsL Tryz.prog LJ:={
 mixed:=by kernel_rfl
 f22:=⟨Tryz.f349.name,by decide,Tryz.func349.trans (congrArg some (by kernel_rfl))⟩
 ov:=fun xs w w' v h=>by
  have:=run_callFunc_extern Tryz.func384 (by kernel_rfl) (by kernel_rfl) (by kernel_rfl) (e:=Extern.SlicesOverlaps.overlaps #[40,40] #[4]) (by kernel_rfl) xs w;refine this.trans ?_;rw [show (Extern.SlicesOverlaps.overlaps #[40,40] #[4] xs).run Tryz.prog w=.ok v w' from h]
  rfl
 t0:=Tryz.underlying0
 a0:=Tryz.isAgg0
 z0:=Tryz.sizeOf0
 v0:=Tryz.zeroValue0
 t3:=Tryz.underlying3
 a3:=Tryz.isAgg3
 z3:=Tryz.sizeOf3
 v3:=Tryz.zeroValue3
 t4:=Tryz.underlying4
 a4:=Tryz.isAgg4
 z4:=Tryz.sizeOf4
 v4:=Tryz.zeroValue4
 t24:=Tryz.underlying40
 a24:=Tryz.isAgg40
 z24:=Tryz.sizeOf40
 v24:=Tryz.zeroValue40 }
theorem zD6 {h:aB} {id jd n i:Nat} {es:List (List PV)} {x:List PV} (hid:h[id]? = some (.arr 5 es false)) (hjd:h[jd]? = some (.arr 5 [x] false)) (hne:id≠jd) (hn:n≤es.length) (hin:i≤n) (hn2:n≤1000000):
  aA Tryz.prog 349 [.c (.own id 0 n),.c (.p (.i .i64 i)),.c (.own jd 0 1)] h fun d h'=>d=.c (.own (h.length+1) 0 (n+1))∧h'=h.set id .dead++[.dead,.arr 5 (eU i x (es.take n)) false] :=
 pG (k:=5) aC zGM (enters Tryz.func349 rfl rfl) (by show (tab 130).size=5;rw [tab130]) (by decide) (by show (tab 40).k=_;rw [tab40];rfl)
  hid hjd hne hn hin (by show (n+1)*(tab 130).bytes≤_;rw [tab130];simp only;omega) (by omega)
end Go.Proofs.YtlbfnbldeefgmaaGreatDoor
end
section
namespace Go.Proofs.YtlbfnbldeefgmaaGreatDoor
open Go Go.Dm Go.Proofs
set_option maxRecDepth 100000
set_option maxHeartbeats 8000000
theorem zAj {h:aB} {i n:Nat} {es:List (List PV)} {t:List It} {p:List UInt8} {K:DV→aB→Prop} (h0:h[i]? = some (.arr 5 es false)) (hes:es.take n=aZ t) (ht:t.length≤1000000) (hs:Srt t) (hk:∀ j,AR t p j→K (kL t p j) h):
  aA Tryz.prog 237 [.c (.own i 0 n),.c (.p (.s p))] h K :=
 VS (R:=fun d=>∃ j,AR t p j∧d=kL t p j) rfl hes (aA.mono (FU ht hs) fun d h' ⟨j,a,b,c⟩=>⟨⟨j,a,b⟩,c⟩) h0 (fun d ⟨j,h1,h2⟩=>by subst h2;exact ⟨rfl,hk j h1⟩)
theorem insert_k {h:aB} {id jd n i:Nat} {es:List (List PV)} {x:List PV} {K:DV→aB→Prop} (hid:h[id]? = some (.arr 5 es false)) (hjd:h[jd]? = some (.arr 5 [x] false)) (hne:id≠jd) (hn:n≤es.length) (hin:i≤n) (hn2:n≤1000000)
  (hk:K (.c (.own (h.length+1) 0 (n+1))) (h.set id .dead++[.dead,.arr 5 (eU i x (es.take n)) false])):
  aA Tryz.prog 349 [.c (.own id 0 n),.c (.p (.i .i64 i)),.c (.own jd 0 1)] h K :=
 aA.mono (zD6 hid hjd hne hn hin hn2) (by rintro _ _ ⟨rfl,rfl⟩;exact hk)
theorem zCr {t:List It} {p:List UInt8} {it:Bool} (hp:p.length≤1000000000) (ht:t.length≤1000000) (hd:∀ x∈t,x.n.d.length≤140737488355328):
  aA Tryz.prog 248 [.c (.p (.sl 5 (aZ t))),.c (.p (.s p)),.c (.p (.b it))] [] fun r h=>∃ es:List (List PV),es.take (t.filter fun x=>!goF p it x).length=aZ (t.filter fun x=>!goF p it x)∧r=.c (.own 2 0 (t.filter fun x=>!goF p it x).length)∧h=[.box [.p (.s p)],.box [.p (.b it)],.arr 5 es false]:=by
 have hc:=uF ht hd;refine PC aC aK Tryz.func248 rfl rfl fun X0 hX=>?_;simp only [Tryz.f248,go_sem]
 repeat' (first|simp only [*,go_sem,Nat.reduceLT,Nat.reduceEqDiff,↓reduceIte,Nat.reduceAdd,]|refine zCc hc rfl ?_)
 refine NS hp ht fun es hes=>?_;generalize (t.filter fun x=>!goF p it x)=f at hes
 repeat' (simp only [*,go_sem,Nat.reduceLT,↓reduceIte,])
 all_goals first|exact ⟨es,hes,rfl,rfl⟩|exact ⟨es,hes,rfl⟩|(trace_state;exact ⟨es,hes⟩)
theorem zCq {t:List It} {p:List UInt8} {it:Bool} {h:aB} {K:DV→aB→Prop} (hp:p.length≤1000000000) (ht:t.length≤1000000) (hd:∀ x∈t,x.n.d.length≤140737488355328)
  (hk:∀ es:List (List PV),es.take (t.filter fun x=>!goF p it x).length=aZ (t.filter fun x=>!goF p it x)→K (.c (.own (2+h.length) 0 (t.filter fun x=>!goF p it x).length)) (h++[.box [.p (.s p)],.box [.p (.b it)],.arr 5 es false])):
  aA Tryz.prog 248 [.c (.p (.sl 5 (aZ t))),.c (.p (.s p)),.c (.p (.b it))] h K:=by
 refine aA.mono (aA.frame h rfl (zCr hp ht hd)) ?_;rintro _ _ ⟨d0,h0,⟨es,h1,rfl,rfl⟩,rfl,rfl⟩;exact hk es h1
theorem uG {t:List It} {h:aB} {K:DV→aB→Prop} (ht:t.length≤1000000) (hd:∀ x∈t,x.n.d.length≤140737488355328) (hk:K (.c (.own h.length 0 t.length)) (h++[.arr 5 (aZ t) false])):
  aA Tryz.prog 99 [.c (.p (.sl 5 (aZ t)))] h K:=zCc (uF ht hd) rfl hk
end Go.Proofs.YtlbfnbldeefgmaaGreatDoor
end
section
namespace Go.Proofs.YtlbfnbldeefgmaaGreatDoor
open Go Go.Dm Go.Proofs
set_option maxRecDepth 100000
set_option maxHeartbeats 8000000
def goC (p:List UInt8) (it:Bool) (x:It):Bool:=x.p == p || (it && aM p x.p)
theorem BH {J:List (List PV)} {t:List It} {k:Nat} {x:It} (h:t[k]? = some x):(aZ t++J).getD k []=[.s x.p,.i .i64 x.n.k,.i .i64 x.n.m,.f x.n.t,.sl 1 (bW x.n.d)]:=by
 have hk:=(List.getElem?_eq_some_iff.1 h).1;have:=dD h;rw [List.getD_eq_getElem?_getD] at this ⊢;rw [List.getElem?_append_left (by rw [cS];exact hk)];exact this
theorem FO {J:List (List PV)} {t:List It} {i:Nat} (x:It) (h:i<t.length):(aZ t++J).set i [.s x.p,.i .i64 x.n.k,.i .i64 x.n.m,.f x.n.t,.sl 1 (bW x.n.d)]=aZ (t.set i x)++J:=by
 rw [List.set_append_left _ _ (by rw [cS];exact h),pK]
theorem zKi {R f:List It} {i:Nat} {es:List (List PV)} {A:List (List PV)} (h:R.take i=f) (hf:f.length=i) (hi:i≤R.length):((aZ R++A).take i++es).take i=aZ f:=by
 rw [List.take_left' (by rw [List.length_take,List.length_append,cS];omega),List.take_append_of_le_length (by rw [cS];exact hi),uV,h]
theorem zFA {q p:List UInt8} {it eo:Bool} {ek nk nm:Int} {nt:Nat} {nd:List UInt8} {k m:Int} {tt:Nat} {d:List UInt8} {es:List (List PV)} (hp:p.length≤1000000000):
  aA Tryz.prog 347 [.agg [.p (.s q),.p (.i .i64 k),.p (.i .i64 m),.p (.f tt),.p (.sl 1 (bW d))],.c (.ptr 2 0),.c (.ptr 3 0)] [.arr 5 es false,.box [.p (.s p),.p (.i .i64 ek),.p (.b eo),.p (.i .i64 nk),.p (.i .i64 nm),.p (.f nt),.p (.sl 1 (bW nd))],.box [.p (.s p),.p (.i .i64 ek),.p (.b eo),.p (.i .i64 nk),.p (.i .i64 nm),.p (.f nt),.p (.sl 1 (bW nd))],.box [.p (.b it)]]
   fun r h=>r=.c (.p (.b (q == p || (it && aM p q))))∧h=[.arr 5 es false,.box [.p (.s p),.p (.i .i64 ek),.p (.b eo),.p (.i .i64 nk),.p (.i .i64 nm),.p (.f nt),.p (.sl 1 (bW nd))],.box [.p (.s p),.p (.i .i64 ek),.p (.b eo),.p (.i .i64 nk),.p (.i .i64 nm),.p (.f nt),.p (.sl 1 (bW nd))],.box [.p (.b it)]]:=by
 refine ent aC aK Tryz.func347 rfl rfl fun X0 hX=>?_;simp only [Tryz.f347,go_sem]
 repeat' (first|simp only [*,go_sem,Nat.reduceLT,Nat.reduceEqDiff,↓reduceIte,Nat.reduceAdd,bK,aG]|((with_reducible refine aQ (cE hp) ?_ ?_ ?_);exact rfl;exact rfl)|with_reducible refine cL (fun _=>?_) (fun _=>?_))
 all_goals simp_all
theorem zFB {q p:List UInt8} {it eo:Bool} {ek nk nm:Int} {nt:Nat} {nd:List UInt8} {k m:Int} {tt:Nat} {d:List UInt8} {es:List (List PV)} (hp:p.length≤1000000000):
  aA Tryz.prog 347 [.agg [.p (.s q),.p (.i .i64 k),.p (.i .i64 m),.p (.f tt),.p (.sl 1 (bW d))],.c (.ptr 2 0),.c (.ptr 3 0)] [.arr 5 es false,.box [.p (.s p),.p (.i .i64 ek),.p (.b eo),.p (.i .i64 nk),.p (.i .i64 nm),.p (.f nt),.p (.sl 1 (bW nd))],.box [.p (.s p),.p (.i .i64 ek),.p (.b eo),.p (.i .i64 nk),.p (.i .i64 nm),.p (.f nt),.p (.sl 1 (bW nd))],.box [.p (.b it)],.box [.p (.s q),.p (.i .i64 k),.p (.i .i64 m),.p (.f tt),.p (.sl 1 (bW d))]]
   fun r h=>r=.c (.p (.b (q == p || (it && aM p q))))∧h=[.arr 5 es false,.box [.p (.s p),.p (.i .i64 ek),.p (.b eo),.p (.i .i64 nk),.p (.i .i64 nm),.p (.f nt),.p (.sl 1 (bW nd))],.box [.p (.s p),.p (.i .i64 ek),.p (.b eo),.p (.i .i64 nk),.p (.i .i64 nm),.p (.f nt),.p (.sl 1 (bW nd))],.box [.p (.b it)],.box [.p (.s q),.p (.i .i64 k),.p (.i .i64 m),.p (.f tt),.p (.sl 1 (bW d))]]:=by
 refine ent aC aK Tryz.func347 rfl rfl fun X0 hX=>?_;simp only [Tryz.f347,go_sem]
 repeat' (first|simp only [*,go_sem,Nat.reduceLT,Nat.reduceEqDiff,↓reduceIte,Nat.reduceAdd,bK,aG]|((with_reducible refine aQ (cE hp) ?_ ?_ ?_);exact rfl;exact rfl)|with_reducible refine cL (fun _=>?_) (fun _=>?_))
 all_goals simp_all
theorem zBg {J:List (List PV)} {t:List It} {p:List UInt8} {it eo:Bool} {ek nk nm:Int} {nt:Nat} {nd:List UInt8} (hp:p.length≤1000000000) (ht:t.length≤1000000):
  aA Tryz.prog 355 [.c (.own 0 0 t.length),.c (.clo 347 [.ptr 2 0,.ptr 3 0])] [.arr 5 (aZ t++J) false,.box [.p (.s p),.p (.i .i64 ek),.p (.b eo),.p (.i .i64 nk),.p (.i .i64 nm),.p (.f nt),.p (.sl 1 (bW nd))],.box [.p (.s p),.p (.i .i64 ek),.p (.b eo),.p (.i .i64 nk),.p (.i .i64 nm),.p (.f nt),.p (.sl 1 (bW nd))],.box [.p (.b it)]]
   fun r h=>(∃ i:Nat,i≤t.length∧(∀ j x,t[j]? = some x→j<i→goC p it x=false)∧((∃ x,t[i]? = some x∧goC p it x=true∧r=.c (.p (.i .i64 i)))∨(i=t.length∧r=.c (.p (.i .i64 (-1))))))∧h=[.arr 5 (aZ t++J) false,.box [.p (.s p),.p (.i .i64 ek),.p (.b eo),.p (.i .i64 nk),.p (.i .i64 nm),.p (.f nt),.p (.sl 1 (bW nd))],.box [.p (.s p),.p (.i .i64 ek),.p (.b eo),.p (.i .i64 nk),.p (.i .i64 nm),.p (.f nt),.p (.sl 1 (bW nd))],.box [.p (.b it)]]:=by
 refine ent aC aK Tryz.func355 rfl rfl fun X0 hX=>?_;simp only [Tryz.f355,go_sem]
 repeat' (simp only [*,go_sem,Nat.reduceLT,Nat.reduceEqDiff,↓reduceIte,Nat.reduceAdd,Int.reduceNeg,])
 refine bQ aC aK (α:=Nat) (fun k=>⟨19,[(0,.c (.own 0 0 t.length)),(1,.c (.clo 347 [.ptr 2 0,.ptr 3 0])),(7,.c (.p (.i .i64 t.length))),(8,.c (.p (.i .i64 k)))],[.arr 5 (aZ t++J) false,.box [.p (.s p),.p (.i .i64 ek),.p (.b eo),.p (.i .i64 nk),.p (.i .i64 nm),.p (.f nt),.p (.sl 1 (bW nd))],.box [.p (.s p),.p (.i .i64 ek),.p (.b eo),.p (.i .i64 nk),.p (.i .i64 nm),.p (.f nt),.p (.sl 1 (bW nd))],.box [.p (.b it)]]⟩)
  (fun k=>k≤t.length∧∀ j x,t[j]? = some x→j<k→goC p it x=false) (fun k=>t.length-k) 0 ⟨Nat.zero_le _,fun j x _ h=>by omega⟩ (.inl (aJ (by rw [hX];rfl) rfl rfl (by simp [aH,aN,aD,aL,aG,cC]))) ?_
 rintro k ⟨hk,hs⟩;by_cases hlt:k<t.length
 ·have hx:t[k]? = some t[k]:=List.getElem?_eq_getElem hlt;have hg:=BH (J:=J) hx;have h1:decide ((k:Int)<(t.length:Int))=true:=decide_eq_true (by omega);have hli:(k:Int)<(t.length:Int):=by omega
  have w1:IntKind.i64.wrap ((k:Int)+1)=k+1:=wrap_i64 (by omega) (by omega);generalize t[k]=x at hx hg;cases hb:goC p it x
  ·have hs':k+1≤t.length∧∀ j y,t[j]? = some y→j<k+1→goC p it y=false:=⟨by omega,fun j y hy hj=>by
    rcases Nat.lt_or_ge j k with h|h
    ·exact hs j y hy h
    ·have:j=k:=by omega
     subst this;rw [hx] at hy;cases hy;exact hb⟩
   have hb2:(x.p == p || (it && aM p x.p))=false:=hb;clear hs hx hb
   repeat' (first|simp only [*,go_sem,Nat.reduceLT,Nat.reduceLeDiff,Nat.reduceEqDiff,↓reduceIte,Nat.reduceAdd,Int.reduceNeg,]|((with_reducible refine And.intro ?_ ?_);omega))
   refine aA.mono (zFA hp) ?_;rintro _ _ ⟨rfl,rfl⟩;rw [hb2]
   repeat' (simp only [*,go_sem,Nat.reduceLT,Nat.reduceEqDiff,↓reduceIte,Int.reduceNeg,])
   exact jC (k+1) hs' (by omega) (aJ rfl rfl rfl (by simp [aH,aN,aD,aL,aG,cC]))
  ·have hb2:(x.p == p || (it && aM p x.p))=true:=hb
   repeat' (first|simp only [*,go_sem,Nat.reduceLT,Nat.reduceLeDiff,Nat.reduceEqDiff,↓reduceIte,Nat.reduceAdd,Int.reduceNeg,]|((with_reducible refine And.intro ?_ ?_);omega))
   refine aA.mono (zFA hp) ?_;rintro _ _ ⟨rfl,rfl⟩;rw [hb2];clear hb2
   repeat' (simp only [*,go_sem,Nat.reduceLT,Nat.reduceEqDiff,↓reduceIte,Int.reduceNeg,bK,aG])
   exact ⟨k,hk,hs,.inl ⟨x,hx,hb,rfl⟩⟩
 ·have h1:decide ((k:Int)<(t.length:Int))=false:=decide_eq_false (by omega);have hk2:k=t.length:=by omega
  subst hk2
  repeat' (simp only [*,go_sem,Nat.reduceLT,Nat.reduceEqDiff,↓reduceIte,Nat.reduceAdd,Int.reduceNeg,bK,aG])
  refine ⟨t.length,Nat.le_refl _,hs,.inr ?_⟩
  first|exact ⟨rfl,rfl⟩|rfl
theorem zB {J:List (List PV)} {t:List It} {p:List UInt8} {it eo:Bool} {ek nk nm:Int} {nt:Nat} {nd:List UInt8} {K:DV→aB→Prop} (hp:p.length≤1000000000) (ht:t.length≤1000000)
  (hk:∀ es:List (List PV),es.take (t.filter fun x=>!goC p it x).length=aZ (t.filter fun x=>!goC p it x)→K (.c (.own 0 0 (t.filter fun x=>!goC p it x).length)) [.arr 5 es false,.box [.p (.s p),.p (.i .i64 ek),.p (.b eo),.p (.i .i64 nk),.p (.i .i64 nm),.p (.f nt),.p (.sl 1 (bW nd))],.box [.p (.s p),.p (.i .i64 ek),.p (.b eo),.p (.i .i64 nk),.p (.i .i64 nm),.p (.f nt),.p (.sl 1 (bW nd))],.box [.p (.b it)]]):
  aA Tryz.prog 298 [.c (.own 0 0 t.length),.c (.clo 347 [.ptr 2 0,.ptr 3 0])] [.arr 5 (aZ t++J) false,.box [.p (.s p),.p (.i .i64 ek),.p (.b eo),.p (.i .i64 nk),.p (.i .i64 nm),.p (.f nt),.p (.sl 1 (bW nd))],.box [.p (.s p),.p (.i .i64 ek),.p (.b eo),.p (.i .i64 nk),.p (.i .i64 nm),.p (.f nt),.p (.sl 1 (bW nd))],.box [.p (.b it)]] K:=by
 refine PC aC aK Tryz.func298 rfl rfl fun X0 hX=>?_;simp only [Tryz.f298,go_sem]
 repeat' (simp only [*,go_sem,Nat.reduceLT,Nat.reduceEqDiff,↓reduceIte,Int.reduceNeg,])
 refine aA.mono (zBg hp ht) ?_;rintro _ _ ⟨⟨i0,hi0,hbef,hcase⟩,rfl⟩;rcases hcase with ⟨x0,hx0,hg0,rfl⟩|⟨rfl,rfl⟩
 ·have hil:i0<t.length:=(List.getElem?_eq_some_iff.1 hx0).1;have q:((i0:Int) == -1)=false:=by rw [beq_eq_false_iff_ne];omega
  have w0:IntKind.i64.wrap ((i0:Int)+1)=(i0+1:Nat):=wrap_i64 (by omega) (by omega)
  repeat' (simp only [*,go_sem,Nat.reduceLT,Nat.reduceEqDiff,↓reduceIte,Int.reduceNeg,])
  have hself:(t.take i0).filter (fun x=>!goC p it x)=t.take i0:=List.filter_eq_self.2 fun x hx=>by
   obtain ⟨j,hj,rfl⟩:=List.mem_iff_getElem.1 hx;rw [List.getElem_take];have hj2:j<i0:=by simp at hj;omega
   rw [hbef j _ (List.getElem?_eq_getElem (by omega)) hj2];rfl
  have h0:(t.take (i0+1)).filter (fun x=>!goC p it x)=t.take i0:=by
   rw [eB hx0,hself,hg0];simp
  refine bQ aC aK (α:=Nat × Nat × List It) (fun x=>⟨42,[(0,.c (.own 0 0 t.length)),(1,.c (.clo 347 [.ptr 2 0,.ptr 3 0])),(5,.c (.p (.i .i64 x.2.1))),(6,.c (.p (.i .i64 x.1)))],[.arr 5 (aZ x.2.2++J) false,.box [.p (.s p),.p (.i .i64 ek),.p (.b eo),.p (.i .i64 nk),.p (.i .i64 nm),.p (.f nt),.p (.sl 1 (bW nd))],.box [.p (.s p),.p (.i .i64 ek),.p (.b eo),.p (.i .i64 nk),.p (.i .i64 nm),.p (.f nt),.p (.sl 1 (bW nd))],.box [.p (.b it)]]⟩)
   (fun x=>x.1≤t.length∧x.2.1<x.1∧x.2.2.length=t.length∧x.2.2.take x.2.1=(t.take x.1).filter (fun x=>!goC p it x)∧x.2.2.drop x.1=t.drop x.1) (fun x=>t.length-x.1) (i0+1,i0,t)
   ⟨by omega,by simp,rfl,by rw [h0],rfl⟩ (.inl (aJ (by rw [hX];rfl) rfl rfl (by simp [aH,aN,aD,aL,aG,cC]))) ?_
  clear hself h0 hbef hx0 hg0 q w0 hil hi0;rintro ⟨j,i,R⟩ ⟨hj,hij,hRl,hRt,hRd⟩;simp only at hj hij hRl hRt hRd;by_cases hlt:j<t.length
  ·have hx:t[j]? = some t[j]:=List.getElem?_eq_getElem hlt;have hxR:R[j]? = some t[j]:=by
    have h3:R[j]? = t[j]? := by
     have:=congrArg (·[0]?) hRd
     simpa [List.getElem?_drop] using this
    exact h3.trans hx
   have hg:=BH (J:=J) hxR;have h1:decide ((j:Int)<(t.length:Int))=true:=decide_eq_true (by omega);have hli:(j:Int)<(t.length:Int):=by omega
   have hli2:(i:Int)<(t.length:Int):=by omega
   have w1:IntKind.i64.wrap ((j:Int)+1)=(j+1:Nat):=wrap_i64 (by omega) (by omega);have w2:IntKind.i64.wrap ((i:Int)+1)=(i+1:Nat):=wrap_i64 (by omega) (by omega);have hnx:=eB (g:=fun x=>!goC p it x) hx;generalize t[j]=x at hx hxR hg hnx;have hRd2:R.drop (j+1)=t.drop (j+1):=by rw [← List.drop_drop,← List.drop_drop,hRd]
   cases hb:goC p it x
   ·rw [hb] at hnx;have hJ:j+1≤t.length∧i+1<j+1∧(R.set i x).length=t.length∧(R.set i x).take (i+1)=(t.take (j+1)).filter (fun x=>!goC p it x)∧(R.set i x).drop (j+1)=t.drop (j+1):=by
     refine ⟨by omega,by omega,by simp [hRl],?_,?_⟩
     ·rw [hnx,List.take_add_one,List.getElem?_set_self (by omega),List.take_set,List.set_eq_of_length_le (by rw [List.length_take];omega),hRt];rfl
     ·rw [List.drop_set,if_pos (by omega),hRd2]
    have hb2:(x.p == p || (it && aM p x.p))=false:=hb;have hgi:=BH (J:=J) (t:=R) (k:=i) (List.getElem?_eq_getElem (by omega));have hsj:=FO (J:=J) (t:=R) (i:=i) x (by omega);have hlj:(aZ R++J).length=R.length+J.length:=by rw [List.length_append,cS]
    generalize (R[i]'(by omega))=y at hgi;clear hnx hRt hRd hRd2 hx hxR hb
    repeat' (first|simp only [*,go_sem,Nat.reduceLT,Nat.reduceLeDiff,Nat.reduceEqDiff,↓reduceIte,Nat.reduceAdd,]|((with_reducible refine And.intro ?_ ?_);omega))
    refine aA.mono (zFB hp) ?_;rintro _ _ ⟨rfl,rfl⟩;rw [hb2]
    repeat' (first|simp only [*,go_sem,Nat.reduceLT,Nat.reduceLeDiff,Nat.reduceEqDiff,↓reduceIte,Nat.reduceAdd,]|((with_reducible refine And.intro ?_ ?_);omega))
    exact jC (j+1,i+1,R.set i x) hJ (by simp only;omega) (aJ rfl (by rw [← FO (J:=J) (t:=R) (i:=i) x (by omega)];rfl) rfl (by simp [aH,aN,aD,aL,aG,cC]))
   ·rw [hb] at hnx;have hJ:j+1≤t.length∧i<j+1∧R.length=t.length∧R.take i=(t.take (j+1)).filter (fun x=>!goC p it x)∧R.drop (j+1)=t.drop (j+1):=⟨by omega,by omega,hRl,by rw [hnx,hRt];simp,hRd2⟩
    have hb2:(x.p == p || (it && aM p x.p))=true:=hb;clear hnx hRt hRd hRd2 hx hxR hb
    repeat' (first|simp only [*,go_sem,Nat.reduceLT,Nat.reduceLeDiff,Nat.reduceEqDiff,↓reduceIte,Nat.reduceAdd,]|((with_reducible refine And.intro ?_ ?_);omega))
    refine aA.mono (zFB hp) ?_;rintro _ _ ⟨rfl,rfl⟩;rw [hb2]
    repeat' (simp only [*,go_sem,Nat.reduceLT,Nat.reduceEqDiff,↓reduceIte,])
    exact jC (j+1,i,R) hJ (by simp only;omega) (aJ rfl rfl rfl (by simp [aH,aN,aD,aL,aG,cC]))
  ·have h1:decide ((j:Int)<(t.length:Int))=false:=decide_eq_false (by omega);have htt:t.take j=t:=List.take_of_length_le (by omega);rw [htt] at hRt;have hil:(t.filter fun x=>!goC p it x).length=i:=by
    rw [← hRt,List.length_take];omega
   have hli:(i:Int)≤(t.length:Int):=by omega
   have hi0:(0:Int)≤i:=by omega
   have hni:i+(t.length-i)=R.length:=by omega
   rw [hil] at hk;clear htt hRd hij
   repeat' (first|simp only [*,go_sem,Nat.reduceLT,Nat.reduceEqDiff,↓reduceIte,Nat.reduceAdd,Int.reduceLE,Int.reduceToNat,]|((with_reducible refine And.intro ?_ ?_);omega))
   all_goals first|refine hk _ ?_|refine ⟨by omega,hk _ ?_⟩
   all_goals exact zKi hRt hil (by omega)
 ·have hself:t.filter (fun x=>!goC p it x)=t:=List.filter_eq_self.2 fun x hx=>by
   obtain ⟨j,hj,rfl⟩:=List.mem_iff_getElem.1 hx;rw [hbef j _ (List.getElem?_eq_getElem hj) hj];rfl
  rw [hself] at hk;clear hself
  repeat' (simp only [*,go_sem,Nat.reduceLT,Nat.reduceEqDiff,↓reduceIte,Int.reduceNeg,beq_self_eq_true])
  all_goals exact hk _ (by rw [List.take_left' (by rw [cS])])
end Go.Proofs.YtlbfnbldeefgmaaGreatDoor
end
