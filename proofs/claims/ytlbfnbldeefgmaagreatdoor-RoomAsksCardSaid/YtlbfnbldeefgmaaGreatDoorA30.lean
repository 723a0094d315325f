/- Part 31 of the proof of roomAsks_card, set without needless blanks. No condition. -/
import Derived.Test.YtlbfnbldeefgmaaGreatDoorA27
import Derived.Test.YtlbfnbldeefgmaaGreatDoorA29
set_option linter.all false
section
namespace Go.Proofs.YtlbfnbldeefgmaaGreatDoor
open Go Go.Dm Go.Proofs
set_option maxRecDepth 100000
set_option maxHeartbeats 8000000
theorem zCK {h:aC} {i n:Nat} {es:List (List PV)} {t:List It} {p:List UInt8} {K:DV→aC→Prop} (h0:h[i]? = some (.arr 5 es false)) (hes:es.take n=aU t) (ht:t.length≤1000000) (hs:Srt t) (hk:∀ j,EA t p j→K (lN t p j) h):
  aA Tryz.prog 237 [.c (.own i 0 n),.c (.p (.s p))] h K :=
 zAO (R:=fun d=>∃ j,EA t p j∧d=lN t p j) rfl hes (aA.mono (KL ht hs) fun d h' ⟨j,a,b,c⟩=>⟨⟨j,a,b⟩,c⟩) h0 (fun d ⟨j,h1,h2⟩=>by subst h2;exact ⟨rfl,hk j h1⟩)
theorem insert_k {h:aC} {id jd n i:Nat} {es:List (List PV)} {x:List PV} {K:DV→aC→Prop} (hid:h[id]? = some (.arr 5 es false)) (hjd:h[jd]? = some (.arr 5 [x] false)) (hne:id≠jd) (hn:n≤es.length) (hin:i≤n) (hn2:n≤1000000)
  (hk:K (.c (.own (h.length+1) 0 (n+1))) (h.set id .dead++[.dead,.arr 5 (fA i x (es.take n)) false])):
  aA Tryz.prog 349 [.c (.own id 0 n),.c (.p (.i .i64 i)),.c (.own jd 0 1)] h K :=
 aA.mono (zGM hid hjd hne hn hin hn2) (by rintro _ _ ⟨rfl,rfl⟩;exact hk)
theorem zE6 {t:List It} {p:List UInt8} {it:Bool} (hp:p.length≤1000000000) (ht:t.length≤1000000) (hd:∀ x∈t,x.n.d.length≤140737488355328):
  aA Tryz.prog 248 [.c (.p (.sl 5 (aU t))),.c (.p (.s p)),.c (.p (.b it))] [] fun r h=>∃ es:List (List PV),es.take (t.filter fun x=>!goF p it x).length=aU (t.filter fun x=>!goF p it x)∧r=.c (.own 2 0 (t.filter fun x=>!goF p it x).length)∧h=[.box [.p (.s p)],.box [.p (.b it)],.arr 5 es false]:=by
 have hc:=xA ht hd;refine VO aB aK Tryz.func248 rfl rfl fun X0 hX=>?_;simp only [Tryz.f248,go_sem]
 repeat' (first|simp only [*,go_sem,Nat.reduceLT,Nat.reduceEqDiff,↓reduceIte,Nat.reduceAdd,]|refine zER hc rfl ?_)
 refine VB hp ht fun es hes=>?_;generalize (t.filter fun x=>!goF p it x)=f at hes
 repeat' (simp only [*,go_sem,Nat.reduceLT,↓reduceIte,])
 all_goals first|exact ⟨es,hes,rfl,rfl⟩|exact ⟨es,hes,rfl⟩|(trace_state;exact ⟨es,hes⟩)
theorem zE5 {t:List It} {p:List UInt8} {it:Bool} {h:aC} {K:DV→aC→Prop} (hp:p.length≤1000000000) (ht:t.length≤1000000) (hd:∀ x∈t,x.n.d.length≤140737488355328)
  (hk:∀ es:List (List PV),es.take (t.filter fun x=>!goF p it x).length=aU (t.filter fun x=>!goF p it x)→K (.c (.own (2+h.length) 0 (t.filter fun x=>!goF p it x).length)) (h++[.box [.p (.s p)],.box [.p (.b it)],.arr 5 es false])):
  aA Tryz.prog 248 [.c (.p (.sl 5 (aU t))),.c (.p (.s p)),.c (.p (.b it))] h K:=by
 refine aA.mono (aA.frame h rfl (zE6 hp ht hd)) ?_;rintro _ _ ⟨d0,h0,⟨es,h1,rfl,rfl⟩,rfl,rfl⟩;exact hk es h1
theorem xB {t:List It} {h:aC} {K:DV→aC→Prop} (ht:t.length≤1000000) (hd:∀ x∈t,x.n.d.length≤140737488355328) (hk:K (.c (.own h.length 0 t.length)) (h++[.arr 5 (aU t) false])):
  aA Tryz.prog 99 [.c (.p (.sl 5 (aU t)))] h K:=zER (xA ht hd) rfl hk
end Go.Proofs.YtlbfnbldeefgmaaGreatDoor
end
section
namespace Go.Proofs.YtlbfnbldeefgmaaGreatDoor
open Go Go.Dm Go.Proofs
set_option maxRecDepth 100000
set_option maxHeartbeats 8000000
def goC (p:List UInt8) (it:Bool) (x:It):Bool:=x.p == p || (it && aP p x.p)
theorem EW {J:List (List PV)} {t:List It} {k:Nat} {x:It} (h:t[k]? = some x):(aU t++J).getD k []=[.s x.p,.i .i64 x.n.k,.i .i64 x.n.m,.f x.n.t,.sl 1 (bO x.n.d)]:=by
 have hk:=(List.getElem?_eq_some_iff.1 h).1;have:=cQ h;rw [List.getD_eq_getElem?_getD] at this ⊢;rw [List.getElem?_append_left (by rw [cS];exact hk)];exact this
theorem KE {J:List (List PV)} {t:List It} {i:Nat} (x:It) (h:i<t.length):(aU t++J).set i [.s x.p,.i .i64 x.n.k,.i .i64 x.n.m,.f x.n.t,.sl 1 (bO x.n.d)]=aU (t.set i x)++J:=by
 rw [List.set_append_left _ _ (by rw [cS];exact h),rA]
theorem zNn {R f:List It} {i:Nat} {es:List (List PV)} {A:List (List PV)} (h:R.take i=f) (hf:f.length=i) (hi:i≤R.length):((aU R++A).take i++es).take i=aU f:=by
 rw [List.take_left' (by rw [List.length_take,List.length_append,cS];omega),List.take_append_of_le_length (by rw [cS];exact hi),xR,h]
theorem zIp {q p:List UInt8} {it eo:Bool} {ek nk nm:Int} {nt:Nat} {nd:List UInt8} {k m:Int} {tt:Nat} {d:List UInt8} {es:List (List PV)} (hp:p.length≤1000000000):
  aA Tryz.prog 347 [.agg [.p (.s q),.p (.i .i64 k),.p (.i .i64 m),.p (.f tt),.p (.sl 1 (bO d))],.c (.ptr 2 0),.c (.ptr 3 0)] [.arr 5 es false,.box [.p (.s p),.p (.i .i64 ek),.p (.b eo),.p (.i .i64 nk),.p (.i .i64 nm),.p (.f nt),.p (.sl 1 (bO nd))],.box [.p (.s p),.p (.i .i64 ek),.p (.b eo),.p (.i .i64 nk),.p (.i .i64 nm),.p (.f nt),.p (.sl 1 (bO nd))],.box [.p (.b it)]]
   fun r h=>r=.c (.p (.b (q == p || (it && aP p q))))∧h=[.arr 5 es false,.box [.p (.s p),.p (.i .i64 ek),.p (.b eo),.p (.i .i64 nk),.p (.i .i64 nm),.p (.f nt),.p (.sl 1 (bO nd))],.box [.p (.s p),.p (.i .i64 ek),.p (.b eo),.p (.i .i64 nk),.p (.i .i64 nm),.p (.f nt),.p (.sl 1 (bO nd))],.box [.p (.b it)]]:=by
 refine ent aB aK Tryz.func347 rfl rfl fun X0 hX=>?_;simp only [Tryz.f347,go_sem]
 repeat' (first|simp only [*,go_sem,Nat.reduceLT,Nat.reduceEqDiff,↓reduceIte,Nat.reduceAdd,bN,aF]|refine uF (cK hp) ?_|with_reducible refine bF (fun _=>?_) (fun _=>?_))
 all_goals simp_all
theorem zIq {q p:List UInt8} {it eo:Bool} {ek nk nm:Int} {nt:Nat} {nd:List UInt8} {k m:Int} {tt:Nat} {d:List UInt8} {es:List (List PV)} (hp:p.length≤1000000000):
  aA Tryz.prog 347 [.agg [.p (.s q),.p (.i .i64 k),.p (.i .i64 m),.p (.f tt),.p (.sl 1 (bO d))],.c (.ptr 2 0),.c (.ptr 3 0)] [.arr 5 es false,.box [.p (.s p),.p (.i .i64 ek),.p (.b eo),.p (.i .i64 nk),.p (.i .i64 nm),.p (.f nt),.p (.sl 1 (bO nd))],.box [.p (.s p),.p (.i .i64 ek),.p (.b eo),.p (.i .i64 nk),.p (.i .i64 nm),.p (.f nt),.p (.sl 1 (bO nd))],.box [.p (.b it)],.box [.p (.s q),.p (.i .i64 k),.p (.i .i64 m),.p (.f tt),.p (.sl 1 (bO d))]]
   fun r h=>r=.c (.p (.b (q == p || (it && aP p q))))∧h=[.arr 5 es false,.box [.p (.s p),.p (.i .i64 ek),.p (.b eo),.p (.i .i64 nk),.p (.i .i64 nm),.p (.f nt),.p (.sl 1 (bO nd))],.box [.p (.s p),.p (.i .i64 ek),.p (.b eo),.p (.i .i64 nk),.p (.i .i64 nm),.p (.f nt),.p (.sl 1 (bO nd))],.box [.p (.b it)],.box [.p (.s q),.p (.i .i64 k),.p (.i .i64 m),.p (.f tt),.p (.sl 1 (bO d))]]:=by
 refine ent aB aK Tryz.func347 rfl rfl fun X0 hX=>?_;simp only [Tryz.f347,go_sem]
 repeat' (first|simp only [*,go_sem,Nat.reduceLT,Nat.reduceEqDiff,↓reduceIte,Nat.reduceAdd,bN,aF]|refine uF (cK hp) ?_|with_reducible refine bF (fun _=>?_) (fun _=>?_))
 all_goals simp_all
theorem zDQ {J:List (List PV)} {t:List It} {p:List UInt8} {it eo:Bool} {ek nk nm:Int} {nt:Nat} {nd:List UInt8} (hp:p.length≤1000000000) (ht:t.length≤1000000):
  aA Tryz.prog 355 [.c (.own 0 0 t.length),.c (.clo 347 [.ptr 2 0,.ptr 3 0])] [.arr 5 (aU t++J) false,.box [.p (.s p),.p (.i .i64 ek),.p (.b eo),.p (.i .i64 nk),.p (.i .i64 nm),.p (.f nt),.p (.sl 1 (bO nd))],.box [.p (.s p),.p (.i .i64 ek),.p (.b eo),.p (.i .i64 nk),.p (.i .i64 nm),.p (.f nt),.p (.sl 1 (bO nd))],.box [.p (.b it)]]
   fun r h=>(∃ i:Nat,i≤t.length∧(∀ j x,t[j]? = some x→j<i→goC p it x=false)∧((∃ x,t[i]? = some x∧goC p it x=true∧r=.c (.p (.i .i64 i)))∨(i=t.length∧r=.c (.p (.i .i64 (-1))))))∧h=[.arr 5 (aU t++J) false,.box [.p (.s p),.p (.i .i64 ek),.p (.b eo),.p (.i .i64 nk),.p (.i .i64 nm),.p (.f nt),.p (.sl 1 (bO nd))],.box [.p (.s p),.p (.i .i64 ek),.p (.b eo),.p (.i .i64 nk),.p (.i .i64 nm),.p (.f nt),.p (.sl 1 (bO nd))],.box [.p (.b it)]]:=by
 refine ent aB aK Tryz.func355 rfl rfl fun X0 hX=>?_;simp only [Tryz.f355,go_sem]
 repeat' (first|exact ⟨⟩|refine sp ?_)
 refine aY aB aK (α:=Nat) (fun k=>⟨19,[(0,.c (.own 0 0 t.length)),(1,.c (.clo 347 [.ptr 2 0,.ptr 3 0])),(7,.c (.p (.i .i64 t.length))),(8,.c (.p (.i .i64 k)))],[.arr 5 (aU t++J) false,.box [.p (.s p),.p (.i .i64 ek),.p (.b eo),.p (.i .i64 nk),.p (.i .i64 nm),.p (.f nt),.p (.sl 1 (bO nd))],.box [.p (.s p),.p (.i .i64 ek),.p (.b eo),.p (.i .i64 nk),.p (.i .i64 nm),.p (.f nt),.p (.sl 1 (bO nd))],.box [.p (.b it)]]⟩)
  (fun k=>k≤t.length∧∀ j x,t[j]? = some x→j<k→goC p it x=false) (fun k=>t.length-k) 0 ⟨Nat.zero_le _,fun j x _ h=>by omega⟩ (.inl (aI (by rw [hX];rfl) rfl rfl (by simp [aH,aL,aD,aJ,aF,cH]))) ?_
 rintro k ⟨hk,hs⟩;by_cases hlt:k<t.length
 ·have hx:t[k]? = some t[k]:=List.getElem?_eq_getElem hlt;have hg:=EW (J:=J) hx;have h1:decide ((k:Int)<(t.length:Int))=true:=decide_eq_true (by omega);have hli:(k:Int)<(t.length:Int):=by omega
  have w1:IntKind.i64.wrap ((k:Int)+1)=k+1:=wrap_i64 (by omega) (by omega);generalize t[k]=x at hx hg;cases hb:goC p it x
  ·have hs':k+1≤t.length∧∀ j y,t[j]? = some y→j<k+1→goC p it y=false:=⟨by omega,fun j y hy hj=>by
    rcases Nat.lt_or_ge j k with h|h
    ·exact hs j y hy h
    ·have:j=k:=by omega
     subst this;rw [hx] at hy;cases hy;exact hb⟩
   have hb2:(x.p == p || (it && aP p x.p))=false:=hb;clear hs hx hb
   repeat' (first|exact ⟨⟩|refine sp ?_|((with_reducible refine And.intro ?_ ?_);omega))
   refine aA.mono (zIp hp) ?_;rintro _ _ ⟨rfl,rfl⟩;rw [hb2]
   repeat' (first|exact ⟨⟩|refine sp ?_)
   exact fD (k+1) hs' (by omega) (aI rfl rfl rfl (by simp [aH,aL,aD,aJ,aF,cH]))
  ·have hb2:(x.p == p || (it && aP p x.p))=true:=hb
   repeat' (first|exact ⟨⟩|refine sp ?_|((with_reducible refine And.intro ?_ ?_);omega))
   refine aA.mono (zIp hp) ?_;rintro _ _ ⟨rfl,rfl⟩;rw [hb2];clear hb2
   repeat' (simp only [*,go_sem,Nat.reduceLT,Nat.reduceEqDiff,↓reduceIte,Int.reduceNeg,bN,aF])
   exact ⟨k,hk,hs,.inl ⟨x,hx,hb,rfl⟩⟩
 ·have h1:decide ((k:Int)<(t.length:Int))=false:=decide_eq_false (by omega);have hk2:k=t.length:=by omega
  subst hk2
  repeat' (simp only [*,go_sem,Nat.reduceLT,Nat.reduceEqDiff,↓reduceIte,Nat.reduceAdd,Int.reduceNeg,bN,aF])
  refine ⟨t.length,Nat.le_refl _,hs,.inr ?_⟩
  first|exact ⟨rfl,rfl⟩|rfl
theorem CJ {J:List (List PV)} {t:List It} {p:List UInt8} {it eo:Bool} {ek nk nm:Int} {nt:Nat} {nd:List UInt8} {K:DV→aC→Prop} (hp:p.length≤1000000000) (ht:t.length≤1000000)
  (hk:∀ es:List (List PV),es.take (t.filter fun x=>!goC p it x).length=aU (t.filter fun x=>!goC p it x)→K (.c (.own 0 0 (t.filter fun x=>!goC p it x).length)) [.arr 5 es false,.box [.p (.s p),.p (.i .i64 ek),.p (.b eo),.p (.i .i64 nk),.p (.i .i64 nm),.p (.f nt),.p (.sl 1 (bO nd))],.box [.p (.s p),.p (.i .i64 ek),.p (.b eo),.p (.i .i64 nk),.p (.i .i64 nm),.p (.f nt),.p (.sl 1 (bO nd))],.box [.p (.b it)]]):
  aA Tryz.prog 298 [.c (.own 0 0 t.length),.c (.clo 347 [.ptr 2 0,.ptr 3 0])] [.arr 5 (aU t++J) false,.box [.p (.s p),.p (.i .i64 ek),.p (.b eo),.p (.i .i64 nk),.p (.i .i64 nm),.p (.f nt),.p (.sl 1 (bO nd))],.box [.p (.s p),.p (.i .i64 ek),.p (.b eo),.p (.i .i64 nk),.p (.i .i64 nm),.p (.f nt),.p (.sl 1 (bO nd))],.box [.p (.b it)]] K:=by
 refine VO aB aK Tryz.func298 rfl rfl fun X0 hX=>?_;simp only [Tryz.f298,go_sem]
 repeat' (first|exact ⟨⟩|refine sp ?_)
 refine aA.mono (zDQ hp ht) ?_;rintro _ _ ⟨⟨i0,hi0,hbef,hcase⟩,rfl⟩;rcases hcase with ⟨x0,hx0,hg0,rfl⟩|⟨rfl,rfl⟩
 ·have hil:i0<t.length:=(List.getElem?_eq_some_iff.1 hx0).1;have q:((i0:Int) == -1)=false:=by rw [beq_eq_false_iff_ne];omega
  have w0:IntKind.i64.wrap ((i0:Int)+1)=(i0+1:Nat):=wrap_i64 (by omega) (by omega)
  repeat' (first|exact ⟨⟩|refine sp ?_)
  have hself:(t.take i0).filter (fun x=>!goC p it x)=t.take i0:=List.filter_eq_self.2 fun x hx=>by
   obtain ⟨j,hj,rfl⟩:=List.mem_iff_getElem.1 hx;rw [List.getElem_take];have hj2:j<i0:=by simp at hj;omega
   rw [hbef j _ (List.getElem?_eq_getElem (by omega)) hj2];rfl
  have h0:(t.take (i0+1)).filter (fun x=>!goC p it x)=t.take i0:=by
   rw [eI hx0,hself,hg0];simp
  refine aY aB aK (α:=Nat × Nat × List It) (fun x=>⟨42,[(0,.c (.own 0 0 t.length)),(1,.c (.clo 347 [.ptr 2 0,.ptr 3 0])),(5,.c (.p (.i .i64 x.2.1))),(6,.c (.p (.i .i64 x.1)))],[.arr 5 (aU x.2.2++J) false,.box [.p (.s p),.p (.i .i64 ek),.p (.b eo),.p (.i .i64 nk),.p (.i .i64 nm),.p (.f nt),.p (.sl 1 (bO nd))],.box [.p (.s p),.p (.i .i64 ek),.p (.b eo),.p (.i .i64 nk),.p (.i .i64 nm),.p (.f nt),.p (.sl 1 (bO nd))],.box [.p (.b it)]]⟩)
   (fun x=>x.1≤t.length∧x.2.1<x.1∧x.2.2.length=t.length∧x.2.2.take x.2.1=(t.take x.1).filter (fun x=>!goC p it x)∧x.2.2.drop x.1=t.drop x.1) (fun x=>t.length-x.1) (i0+1,i0,t)
   ⟨by omega,by simp,rfl,by rw [h0],rfl⟩ (.inl (aI (by rw [hX];rfl) rfl rfl (by simp [aH,aL,aD,aJ,aF,cH]))) ?_
  clear hself h0 hbef hx0 hg0 q w0 hil hi0;rintro ⟨j,i,R⟩ ⟨hj,hij,hRl,hRt,hRd⟩;simp only at hj hij hRl hRt hRd;by_cases hlt:j<t.length
  ·have hx:t[j]? = some t[j]:=List.getElem?_eq_getElem hlt;have hxR:R[j]? = some t[j]:=by
    have h3:R[j]? = t[j]? := by
     have:=congrArg (·[0]?) hRd
     simpa [List.getElem?_drop] using this
    exact h3.trans hx
   have hg:=EW (J:=J) hxR;have h1:decide ((j:Int)<(t.length:Int))=true:=decide_eq_true (by omega);have hli:(j:Int)<(t.length:Int):=by omega
   have hli2:(i:Int)<(t.length:Int):=by omega
   have w1:IntKind.i64.wrap ((j:Int)+1)=(j+1:Nat):=wrap_i64 (by omega) (by omega);have w2:IntKind.i64.wrap ((i:Int)+1)=(i+1:Nat):=wrap_i64 (by omega) (by omega);have hnx:=eI (g:=fun x=>!goC p it x) hx;generalize t[j]=x at hx hxR hg hnx;have hRd2:R.drop (j+1)=t.drop (j+1):=by rw [← List.drop_drop,← List.drop_drop,hRd]
   cases hb:goC p it x
   ·rw [hb] at hnx;have hJ:j+1≤t.length∧i+1<j+1∧(R.set i x).length=t.length∧(R.set i x).take (i+1)=(t.take (j+1)).filter (fun x=>!goC p it x)∧(R.set i x).drop (j+1)=t.drop (j+1):=by
     refine ⟨by omega,by omega,by simp [hRl],?_,?_⟩
     ·rw [hnx,List.take_add_one,List.getElem?_set_self (by omega),List.take_set,List.set_eq_of_length_le (by rw [List.length_take];omega),hRt];rfl
     ·rw [List.drop_set,if_pos (by omega),hRd2]
    have hb2:(x.p == p || (it && aP p x.p))=false:=hb;have hgi:=EW (J:=J) (t:=R) (k:=i) (List.getElem?_eq_getElem (by omega));have hsj:=KE (J:=J) (t:=R) (i:=i) x (by omega);have hlj:(aU R++J).length=R.length+J.length:=by rw [List.length_append,cS]
    generalize (R[i]'(by omega))=y at hgi;clear hnx hRt hRd hRd2 hx hxR hb
    repeat' (first|exact ⟨⟩|refine sp ?_|((with_reducible refine And.intro ?_ ?_);omega))
    refine aA.mono (zIq hp) ?_;rintro _ _ ⟨rfl,rfl⟩;rw [hb2]
    repeat' (first|exact ⟨⟩|refine sp ?_|((with_reducible refine And.intro ?_ ?_);omega))
    exact fD (j+1,i+1,R.set i x) hJ (by simp only;omega) (aI rfl (by rw [← KE (J:=J) (t:=R) (i:=i) x (by omega)];rfl) rfl (by simp [aH,aL,aD,aJ,aF,cH]))
   ·rw [hb] at hnx;have hJ:j+1≤t.length∧i<j+1∧R.length=t.length∧R.take i=(t.take (j+1)).filter (fun x=>!goC p it x)∧R.drop (j+1)=t.drop (j+1):=⟨by omega,by omega,hRl,by rw [hnx,hRt];simp,hRd2⟩
    have hb2:(x.p == p || (it && aP p x.p))=true:=hb;clear hnx hRt hRd hRd2 hx hxR hb
    repeat' (first|exact ⟨⟩|refine sp ?_|((with_reducible refine And.intro ?_ ?_);omega))
    refine aA.mono (zIq hp) ?_;rintro _ _ ⟨rfl,rfl⟩;rw [hb2]
    repeat' (first|exact ⟨⟩|refine sp ?_)
    exact fD (j+1,i,R) hJ (by simp only;omega) (aI rfl rfl rfl (by simp [aH,aL,aD,aJ,aF,cH]))
  ·have h1:decide ((j:Int)<(t.length:Int))=false:=decide_eq_false (by omega);have htt:t.take j=t:=List.take_of_length_le (by omega);rw [htt] at hRt;have hil:(t.filter fun x=>!goC p it x).length=i:=by
    rw [← hRt,List.length_take];omega
   have hli:(i:Int)≤(t.length:Int):=by omega
   have hi0:(0:Int)≤i:=by omega
   have hni:i+(t.length-i)=R.length:=by omega
   rw [hil] at hk;clear htt hRd hij
   repeat' (first|exact ⟨⟩|refine sp ?_|((with_reducible refine And.intro ?_ ?_);omega))
   all_goals first|refine hk _ ?_|refine ⟨by omega,hk _ ?_⟩
   all_goals exact zNn hRt hil (by omega)
 ·have hself:t.filter (fun x=>!goC p it x)=t:=List.filter_eq_self.2 fun x hx=>by
   obtain ⟨j,hj,rfl⟩:=List.mem_iff_getElem.1 hx;rw [hbef j _ (List.getElem?_eq_getElem hj) hj];rfl
  rw [hself] at hk;clear hself
  repeat' (first|exact ⟨⟩|refine sp ?_)
  all_goals exact hk _ (by rw [List.take_left' (by rw [cS])])
end Go.Proofs.YtlbfnbldeefgmaaGreatDoor
end
section
namespace Go.Proofs.YtlbfnbldeefgmaaGreatDoor
open Go Go.Dm Go.Proofs
set_option maxRecDepth 100000
set_option maxHeartbeats 8000000
abbrev ecv (p:List UInt8) (k:Int) (o:Bool) (nk nm:Int) (nt:Nat) (nd:List UInt8):List CV:=[.p (.s p),.p (.i .i64 k),.p (.b o),.p (.i .i64 nk),.p (.i .i64 nm),.p (.f nt),.p (.sl 1 (bO nd))]
theorem SZ {p:List UInt8} {k nk nm:Int} {o:Bool} {nt:Nat} {nd:List UInt8}:aA Tryz.prog 346 [.agg (ecv p k o nk nm nt nd)] [] fun r h=>r=.c (.p (.b (gZ ⟨p,k,o,⟨nk,nm,nt,nd⟩⟩)))∧h=[]:=by
 refine ent aB aK Tryz.func346 rfl rfl fun X0 hX=>?_;simp only [Tryz.f346,go_sem]
 repeat' (first|exact ⟨⟩|refine sp ?_|with_reducible refine bF (fun _=>?_) (fun _=>?_))
 all_goals simp_all [gZ]
theorem zKN {k m:Int} {t:Nat} {d:List UInt8}:aA Tryz.prog 383 [.agg (ndc k m t d)] [] fun r h=>r=.c (.p (.b (sN ⟨k,m,t,d⟩)))∧h=[]:=by
 refine ent aB aK Tryz.func383 rfl rfl fun X0 hX=>?_;simp only [Tryz.f383,go_sem]
 repeat' (first|exact ⟨⟩|refine sp ?_|refine uF (wR _) ?_|with_reducible refine bF (fun _=>?_) (fun _=>?_))
 all_goals first|(simp_all [sN];done)|(simp_all [sN];rw [Bool.eq_iff_iff];simp)
theorem zLI {p:List UInt8} {k nk nm:Int} {o:Bool} {nt:Nat} {nd:List UInt8} (hp:p.length≤1000000000) (ht:nt<18446744073709551616):
  aA Tryz.prog 345 [.agg (ecv p k o nk nm nt nd)] [] fun r h=>r=.c (.p (.b (zIo ⟨p,k,o,⟨nk,nm,nt,nd⟩⟩)))∧h=[]:=by
 have hip:=eV hp;have hz:=zKN (k:=nk) (m:=nm) (t:=nt) (d:=nd);have hn:=dL (k:=nk) (m:=nm) (d:=nd) ht;unfold zIo;simp only;generalize bT p=ip at *;generalize sN ⟨nk,nm,nt,nd⟩=z at *;generalize aS ⟨nk,nm,nt,nd⟩=rn at *;cases ip <;> cases z <;> cases rn <;> cases o
 all_goals
  refine ent aB aK Tryz.func345 rfl rfl fun X0 hX=>?_;simp only [Tryz.f345,go_sem]
 all_goals repeat' (first|exact ⟨⟩|refine sq ?_|refine uF (hip) ?_|refine uF (hz) ?_|refine uF (hn) ?_|with_reducible refine aO (fun _=>?_) (fun _=>?_)|with_reducible refine bF (fun _=>?_) (fun _=>?_))
 all_goals simp_all
theorem LD {l:List En} (h:OkE l):aA Tryz.prog 284 [.c (.p (.sl 7 (fJ l)))] [] fun r h=>r=.c (.p (.b true))∧h=[]:=by
 have hll:=h.len;refine ent aB aK Tryz.func284 rfl rfl fun X0 hX=>?_;simp only [Tryz.f284,go_sem]
 repeat' (first|exact ⟨⟩|refine sp ?_)
 refine aY aB aK (α:=Nat) (fun k=>⟨51,[(0,.c (.p (.sl 7 (fJ l)))),(7,.c (.p (.sl 7 (fJ l)))),(8,.c (.p (.i .i64 l.length))),(9,.c (.p (.i .i64 k)))],[]⟩)
  (fun k=>k≤l.length) (fun k=>l.length-k) 0 (Nat.zero_le _) (.inl (aI (by rw [hX];rfl) rfl rfl (by simp [aH,aL,aD,aJ,aF,]))) ?_
 intro k hk;by_cases hlt:k<l.length
 ·have hx:l[k]? = some l[k]:=List.getElem?_eq_getElem hlt;have hg:=pJ hx;have h1:decide ((k:Int)<(l.length:Int))=true:=decide_eq_true (by omega);have w1:IntKind.i64.wrap ((k:Int)+1)=k+1:=wrap_i64 (by omega) (by omega);have hk0:(0:Int)≤k:=by omega
  have hkl:(k:Int)≤l.length:=by omega
  have prev:k=0∨∃ m:Nat,∃ y:En,decide ((0:Int)<k)=true∧IntKind.i64.wrap ((k:Int)-1)=(m:Int)∧m<l.length∧l[m]? = some y∧(bL l[k].p y.p || l[k].p == y.p)=false:=by
   by_cases h0:0<k
   ·have hmk:k-1<l.length:=by omega
    have h3:=List.pairwise_iff_getElem.1 h.srt (k-1) k hmk hlt (by omega);refine .inr ⟨k-1,l[k-1],decide_eq_true (by omega),?_,hmk,List.getElem?_eq_getElem hmk,?_⟩
    ·rw [wrap_i64 (by omega) (by omega)];omega
    ·rw [eH h3];cases he:(l[k].p == l[k-1].p)
     ·rfl
     ·rw [eq_of_beq he,cM] at h3;cases h3
   ·exact .inl (by omega)
  have hmx:=h.may _ (List.getElem_mem hlt);have p1:=h.plen _ (List.getElem_mem hlt);have p2:=h.tlen _ (List.getElem_mem hlt);have hop:∀ j y,l[j]? = some y→j<k→(gZ y && aP y.p l[k].p)=false:=fun j y hy hj=>by
   obtain ⟨hj2,rfl⟩:=List.getElem?_eq_some_iff.1 hy;exact List.pairwise_iff_getElem.1 h.open_ j k hj2 hlt hj
  have hpl:=h.plen;generalize l[k]=x at hx hg prev hmx p1 p2 hop;have hc:=zLI (p:=x.p) (k:=x.k) (o:=x.o) (nk:=x.n.k) (nm:=x.n.m) (nt:=x.n.t) (nd:=x.n.d) (by omega) p2;rw [show (⟨x.p,x.k,x.o,⟨x.n.k,x.n.m,x.n.t,x.n.d⟩⟩:En)=x from rfl,hmx] at hc
  have htk:(l.take k).length=k:=by rw [List.length_take];omega
  clear hmx h hx;rcases prev with h0|⟨m,y,b1,b2,b3,b4,b5⟩
  ·have b1:decide ((0:Int)<(k:Int))=false:=decide_eq_false (by omega);clear h0
   repeat' (first|exact ⟨⟩|refine sp ?_|((refine aN (id:=4) aB aK [] [0,1,2,3,4,5,6,7,8,9,10,11,12,13,14,15,16,17] (by decide +kernel) ?_);(repeat' (first|(refine aT ?_)|((refine bV ?_ rfl rfl ?_ ?_);(rotate_left 1);(focus ((repeat' (first|exact ⟨⟩|refine sq ?_|refine uF (hc) ?_));exact rfl));(simp only [aG])))))|((with_reducible refine And.intro ?_ ?_);omega))
   refine rL (α:=Nat) (fun j=>⟨51,[(0,.c (.p (.sl 7 (fJ l)))),(7,.c (.p (.sl 7 (fJ l)))),(8,.c (.p (.i .i64 l.length))),(9,.c (.p (.i .i64 k))),(4,.c (.ptr 0 0)),(34,.c (.p (.sl 7 (fJ (l.take k))))),(35,.c (.p (.i .i64 k))),(36,.c (.p (.i .i64 j)))],[.box (ecv x.p x.k x.o x.n.k x.n.m x.n.t x.n.d)]⟩)
    (fun j=>j≤k) (fun j=>k-j) 0 (Nat.zero_le _) (.inl (aI (by rw [hX];rfl) rfl rfl (by simp [aH,aL,aD,aJ,aF,]))) ?_
   intro j hj;by_cases hjk:j<k
   ·have hjl:j<l.length:=by omega
    have hz:(l.take k)[j]? = some l[j]:=by rw [List.getElem?_take,if_pos hjk];exact List.getElem?_eq_getElem hjl
    have hgz:=pJ hz;have hoz:=hop j l[j] (List.getElem?_eq_getElem hjl) hjk;have hzp:=hpl _ (List.getElem_mem hjl);have h2:decide ((j:Int)<(k:Int))=true:=decide_eq_true (by omega);have w2:IntKind.i64.wrap ((j:Int)+1)=j+1:=wrap_i64 (by omega) (by omega);have hjk2:(j:Int)<(k:Int):=by omega
    have hjm:(j:Int)<(min k l.length:Nat):=by omega
    have hj0:(0:Int)≤j:=by omega
    generalize l[j]=z at hz hgz hoz hzp;have hsh:=SZ (p:=z.p) (k:=z.k) (o:=z.o) (nk:=z.n.k) (nm:=z.n.m) (nt:=z.n.t) (nd:=z.n.d);rw [show (⟨z.p,z.k,z.o,⟨z.n.k,z.n.m,z.n.t,z.n.d⟩⟩:En)=z from rfl] at hsh
    clear hop hpl hz;refine iE aB aK ?_;cases hsz:gZ z
    ·rw [hsz] at hsh
     repeat' (first|exact ⟨⟩|refine sp ?_|refine uF (hsh) ?_)
     exact fD (j+1) (by omega) (by omega) (aI rfl rfl rfl (by simp [aH,aL,aD,aJ,aF,]))
    ·rw [hsz] at hsh hoz;rw [Bool.true_and] at hoz
     repeat' (first|exact ⟨⟩|refine sp ?_|refine uF (hsh) ?_|refine uF (cK (p:=z.p) (by omega)) ?_)
     exact fD (j+1) (by omega) (by omega) (aI rfl rfl rfl (by simp [aH,aL,aD,aJ,aF,]))
   ·have h2:decide ((j:Int)<(k:Int))=false:=decide_eq_false (by omega);clear hop hpl;refine iE aB aK ?_
    repeat' (first|exact ⟨⟩|refine sp ?_)
    exact fD (k+1) (by omega) (by omega) (aI rfl rfl rfl (by simp [aH,aL,aD,aJ,aF,]))
  ·have hgy:=pJ b4;have b6:(m:Int)<l.length:=by omega
   repeat' (first|exact ⟨⟩|refine sp ?_|((refine aN (id:=4) aB aK [] [0,1,2,3,4,5,6,7,8,9,10,11,12,13,14,15,16,17] (by decide +kernel) ?_);(repeat' (first|(refine aT ?_)|((refine bV ?_ rfl rfl ?_ ?_);(rotate_left 1);(focus ((repeat' (first|exact ⟨⟩|refine sq ?_|refine uF (hc) ?_|((with_reducible refine And.intro ?_ ?_);omega)));exact rfl));(simp only [aG])))))|((with_reducible refine And.intro ?_ ?_);omega))
   refine rL (α:=Nat) (fun j=>⟨51,[(0,.c (.p (.sl 7 (fJ l)))),(7,.c (.p (.sl 7 (fJ l)))),(8,.c (.p (.i .i64 l.length))),(9,.c (.p (.i .i64 k))),(4,.c (.ptr 0 0)),(34,.c (.p (.sl 7 (fJ (l.take k))))),(35,.c (.p (.i .i64 k))),(36,.c (.p (.i .i64 j)))],[.box (ecv x.p x.k x.o x.n.k x.n.m x.n.t x.n.d)]⟩)
    (fun j=>j≤k) (fun j=>k-j) 0 (Nat.zero_le _) (.inl (aI (by rw [hX];rfl) rfl rfl (by simp [aH,aL,aD,aJ,aF,]))) ?_
   intro j hj;by_cases hjk:j<k
   ·have hjl:j<l.length:=by omega
    have hz:(l.take k)[j]? = some l[j]:=by rw [List.getElem?_take,if_pos hjk];exact List.getElem?_eq_getElem hjl
    have hgz:=pJ hz;have hoz:=hop j l[j] (List.getElem?_eq_getElem hjl) hjk;have hzp:=hpl _ (List.getElem_mem hjl);have h2:decide ((j:Int)<(k:Int))=true:=decide_eq_true (by omega);have w2:IntKind.i64.wrap ((j:Int)+1)=j+1:=wrap_i64 (by omega) (by omega);have hjk2:(j:Int)<(k:Int):=by omega
    have hjm:(j:Int)<(min k l.length:Nat):=by omega
    have hj0:(0:Int)≤j:=by omega
    generalize l[j]=z at hz hgz hoz hzp;have hsh:=SZ (p:=z.p) (k:=z.k) (o:=z.o) (nk:=z.n.k) (nm:=z.n.m) (nt:=z.n.t) (nd:=z.n.d);rw [show (⟨z.p,z.k,z.o,⟨z.n.k,z.n.m,z.n.t,z.n.d⟩⟩:En)=z from rfl] at hsh
    clear hop hpl hz;refine iE aB aK ?_;cases hsz:gZ z
    ·rw [hsz] at hsh
     repeat' (first|exact ⟨⟩|refine sp ?_|refine uF (hsh) ?_)
     exact fD (j+1) (by omega) (by omega) (aI rfl rfl rfl (by simp [aH,aL,aD,aJ,aF,]))
    ·rw [hsz] at hsh hoz;rw [Bool.true_and] at hoz
     repeat' (first|exact ⟨⟩|refine sp ?_|refine uF (hsh) ?_|refine uF (cK (p:=z.p) (by omega)) ?_)
     exact fD (j+1) (by omega) (by omega) (aI rfl rfl rfl (by simp [aH,aL,aD,aJ,aF,]))
   ·have h2:decide ((j:Int)<(k:Int))=false:=decide_eq_false (by omega);clear hop hpl;refine iE aB aK ?_
    repeat' (first|exact ⟨⟩|refine sp ?_)
    exact fD (k+1) (by omega) (by omega) (aI rfl rfl rfl (by simp [aH,aL,aD,aJ,aF,]))
 ·have h1:decide ((k:Int)<(l.length:Int))=false:=decide_eq_false (by omega)
  repeat' (first|exact ⟨⟩|refine sp ?_)
end Go.Proofs.YtlbfnbldeefgmaaGreatDoor
end
