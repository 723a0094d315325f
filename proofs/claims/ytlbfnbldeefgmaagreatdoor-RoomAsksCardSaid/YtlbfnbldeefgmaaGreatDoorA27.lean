/- Part 28 of the proof of roomAsks_card, set without needless blanks. No condition. -/
import Derived.Test.YtlbfnbldeefgmaaGreatDoorA23
import Derived.Test.YtlbfnbldeefgmaaGreatDoorA26
set_option linter.all false
section
namespace Go.Proofs.YtlbfnbldeefgmaaGreatDoor
open Go Go.Dm Go.Proofs
set_option maxRecDepth 100000
set_option maxHeartbeats 8000000
theorem zDI {q p:List UInt8} {a:Int}:aA Tryz.prog 169 [.agg [.p (.s q),.p (.i .i64 a)],.c (.p (.s p))] [] fun r h=>r=.c (.p (.i .i64 (HL q p)))∧h=[]:=by
 refine ent aB aK Tryz.func169 rfl rfl fun X0 hX=>?_;simp only [Tryz.f169,go_sem]
 repeat' (first|simp only [*,go_sem,Nat.reduceLT,Nat.reduceEqDiff,↓reduceIte,]|((with_reducible refine dM (jX) ?_ ?_ ?_);exact rfl;exact rfl))
theorem PS {l:List Nm} {p:List UInt8} (hl:l.length≤1000000) (hs:HQ l):
  aA Tryz.prog 168 [.c (.p (.sl 2 (bM l))),.c (.p (.s p)),.c (.clo 169 [])] [] fun r h =>
   r=.tup [.c (.p (.i .i64 (pU l p))),.c (.p (.b (WB l p)))]∧h=[]:=by
 have hmon:∀ (k k':Nat) (x x':Nm),l[k]? = some x→l[k']? = some x'→k<k'→bL x.n x'.n=true:=fun k k' x x' h1 h2 h3=>by
  obtain ⟨h4,rfl⟩:=List.getElem?_eq_some_iff.1 h1;obtain ⟨h5,rfl⟩:=List.getElem?_eq_some_iff.1 h2;exact List.pairwise_iff_getElem.1 hs _ _ h4 h5 h3
 refine ent aB aK Tryz.func168 rfl rfl fun X0 hX=>?_;simp only [Tryz.f168,go_sem]
 repeat' (simp only [*,go_sem,Nat.reduceLT,Nat.reduceEqDiff,↓reduceIte,Nat.reduceAdd,])
 refine aY aB aK (α:=Nat × Nat) (fun x=>⟨49,[(0,.c (.p (.sl 2 (bM l)))),(1,.c (.p (.s p))),(2,.c (.clo 169 [])),(8,.c (.p (.i .i64 l.length))),(9,.c (.p (.i .i64 x.1))),(10,.c (.p (.i .i64 x.2)))],[]⟩)
  (fun x=>x.1≤x.2∧x.2≤l.length∧∀ (k:Nat) (y:Nm),l[k]? = some y→(k<x.1→bL y.n p=true)∧(x.2≤k→bL y.n p=false)) (fun x=>x.2-x.1) (0,l.length) ⟨Nat.zero_le _,Nat.le_refl _,fun k y hy=>⟨fun h=>by omega,fun h=>by rw [List.getElem?_eq_none h] at hy;cases hy⟩⟩ (.inl (aI (by rw [hX];rfl) rfl rfl (by simp [aH,aL,aD,aJ,aF,]))) ?_
 rintro ⟨i,j⟩ ⟨hij,hj,hl⟩;simp only at hij hj hl;by_cases hlt:i<j
 ·have h1:decide ((i:Int)<(j:Int))=true:=decide_eq_true (by omega);have w1:IntKind.i64.wrap ((i:Int)+j)=(i:Int)+j:=wrap_i64 (by omega) (by omega);have w2:IntKind.u64.wrap ((i:Int)+j)=(i:Int)+j:=wrap_u64 (by omega) (by omega);obtain ⟨m,hm,hmi,hmj⟩:∃ m:Nat,((i:Int)+j).fdiv (2 ^ min 1 64)=(m:Int)∧i≤m∧m<j :=
   ⟨(i+j) / 2,by rw [show (2:Int) ^ min 1 64=2 from rfl,Int.fdiv_eq_ediv_of_nonneg _ (by decide)];omega,by omega,by omega⟩
  have w3:IntKind.i64.wrap (m:Int)=m:=wrap_i64 (by omega) (by omega);have w4:IntKind.i64.wrap ((m:Int)+1)=m+1:=wrap_i64 (by omega) (by omega);have hml:m<l.length:=by omega
  have hx:l[m]? = some l[m]:=List.getElem?_eq_getElem hml;have hg:=oM hx;generalize l[m]=x at hx hg
  repeat' (first|simp only [*,go_sem,Nat.reduceLT,Nat.reduceLeDiff,Nat.reduceEqDiff,↓reduceIte,Nat.reduceAdd,Int.reduceLE,Int.reduceToNat,]|((with_reducible refine dM (zDI) ?_ ?_ ?_);exact rfl;exact rfl)|with_reducible refine aO (fun _=>?_) (fun _=>?_)|((with_reducible refine And.intro ?_ ?_);omega))
  ·rename_i hb;have hb:bL x.n p=true:=by rw [← pF];exact hb
   exact fD (m+1,j) ⟨by simp only;omega,hj,fun k y hy=>⟨fun hk=>by
    rcases Nat.lt_or_ge k m with h|h
    ·exact cC (hmon _ _ _ _ hy hx h) hb
    ·have:k=m:=by simp only at hk;omega
     subst this;rw [hx] at hy;cases hy;exact hb,(hl k y hy).2⟩⟩ (by simp only;omega) (aI rfl rfl rfl (by simp [aH,aL,aD,aJ,aF,]))
  ·rename_i hb;have hb:bL x.n p=false:=by rw [← pF];exact hb
   exact fD (i,m) ⟨hmi,by simp only;omega,fun k y hy=>⟨(hl k y hy).1,fun hk=>by
    rcases Nat.lt_or_ge m k with h|h
    ·cases hc:bL y.n p
     ·rfl
     ·have:=cC (hmon _ _ _ _ hx hy h) hc;rw [hb] at this;cases this
    ·have:k=m:=by simp only at hk;omega
     subst this;rw [hx] at hy;cases hy;exact hb⟩⟩ (by simp only;omega) (aI rfl rfl rfl (by simp [aH,aL,aD,aJ,aF,]))
 ·have h1:decide ((i:Int)<(j:Int))=false:=decide_eq_false (by omega);have:i=j:=by omega
  subst this;have hat:AtN l p i:=⟨hj,hl⟩;have he:=PLift.up (zBa hat);have hn:=zJH hs hat;by_cases hil:i<l.length
  ·have hx:l[i]? = some l[i]:=List.getElem?_eq_getElem hil;rw [hx] at hn;have hg:=oM hx;have h2:decide ((i:Int)<(l.length:Int))=true:=decide_eq_true (by omega);generalize l[i]=x at hx hg hn;clear hat hl
   repeat' (first|simp only [*,go_sem,Nat.reduceLT,Nat.reduceLeDiff,Nat.reduceEqDiff,↓reduceIte,Nat.reduceAdd,]|((with_reducible refine dM (zDI) ?_ ?_ ?_);exact rfl;exact rfl)|((with_reducible refine And.intro ?_ ?_);omega))
   all_goals simp only [he.down,PY]
  ·have h2:decide ((i:Int)<(l.length:Int))=false:=decide_eq_false (by omega);rw [List.getElem?_eq_none (Nat.le_of_not_lt hil)] at hn;clear hat hl
   repeat' (simp only [*,go_sem,Nat.reduceLT,Nat.reduceEqDiff,↓reduceIte,])
   all_goals simp only [he.down]
theorem PT {h:aC} {i n:Nat} {l:List Nm} {p:List UInt8} {K:DV→aC→Prop} (hl:l.length≤1000000) (hs:HQ l) (hn:n=l.length) (h0:h[i]? = some (.arr 2 (bM l) false))
  (hk:K (.tup [.c (.p (.i .i64 (pU l p))),.c (.p (.b (WB l p)))]) h):aA Tryz.prog 168 [.c (.own i 0 n),.c (.p (.s p)),.c (.clo 169 [])] h K :=
 zMc rfl rfl (by rw [hn,← fC,List.take_length]) (PS hl hs) h0 (fun d hd=>by subst hd;exact ⟨rfl,hk⟩)
theorem uA {r:Rm} {s:List UInt8} (hl:r.N.length≤1000000) (hs:HQ r.N):aA Tryz.prog 93 [.c (.ptr 0 0),.c (.p (.s s))] (cB r) fun d h=>d=.tup [.c (.p (.i .i64 (pU r.N s))),.c (.p (.b (WB r.N s)))]∧h=cB r:=by
 unfold cB;refine ent aB aK Tryz.func93 rfl rfl fun X0 hX=>?_;simp only [Tryz.f93,go_sem]
 repeat' (first|simp only [*,go_sem,Nat.reduceLT,Nat.reduceEqDiff,↓reduceIte,Nat.reduceAdd,]|refine PT hl hs rfl rfl ?_)
end Go.Proofs.YtlbfnbldeefgmaaGreatDoor
end
section
namespace Go.Proofs.YtlbfnbldeefgmaaGreatDoor
open Go Go.Dm
set_option maxRecDepth 100000
set_option maxHeartbeats 4000000
theorem sort_k {h:aC} {id:Nat} {ss:List (List UInt8)} {K:DV→aC→Prop} (hid:h[id]? = some (.arr 1 (Go.Dm.encS ss) false)) (hsz:ss.length<4611686018427387904)
  (hk:K (.tup []) (h.set id (.arr 1 (Go.Dm.encS (ss.mergeSort fun x y=>decide (x≤y))) false))):aA Tryz.prog 228 [.c (.own id 0 ss.length)] h K :=
 aA.mono (zL3 hid hsz) (by rintro d h' ⟨rfl,rfl⟩;exact hk)
end Go.Proofs.YtlbfnbldeefgmaaGreatDoor
end
section
namespace Go.Proofs.YtlbfnbldeefgmaaGreatDoor
open Go Go.Dm
set_option maxRecDepth 100000
set_option maxHeartbeats 4000000
theorem xA {t:List It} (ht:t.length≤1000000) (hd:∀ x∈t,x.n.d.length≤140737488355328):
  aA Tryz.prog 99 [.c (.p (.sl 5 (aU t)))] [] fun r h=>r=.c (.own 0 0 t.length)∧h=[.arr 5 (aU t) false]:=by
 refine zNG aB aK Tryz.func99 rfl rfl fun X0 hX=>?_;simp only [Tryz.f99,go_sem]
 repeat' (first|exact ⟨⟩|refine sp ?_)
 refine mB aB aK 3 5 rfl ?_;refine aY aB aK (α:=Nat) (fun k=>⟨23,[(6,.c (.p (.sl 5 (aU t)))),(7,.c (.p (.i .i64 t.length))),(8,.c (.p (.i .i64 k))),(3,.c (.own 0 0 k))],[.arr 5 (aU (t.take k)) false]⟩)
  (fun k=>k≤t.length) (fun k=>t.length-k) 0 (Nat.zero_le _) (.inl (aI (by rw [hX];rfl) rfl rfl (by simp [aH,aL,aD,aJ,aF,gA,]))) ?_
 intro k hk;have hmn:min k t.length=k:=Nat.min_eq_left hk;have hln:(t.take k).length=k:=by rw [List.length_take,hmn]
 by_cases hlt:k<t.length
 ·have hx:t[k]? = some t[k]:=List.getElem?_eq_getElem hlt;have hg:=cQ hx;have h1:decide ((k:Int)<(t.length:Int))=true:=decide_eq_true (by omega);have w1:IntKind.i64.wrap ((k:Int)+1)=k+1:=wrap_i64 (by omega) (by omega);have hnx:t.take (k+1)=t.take k++[⟨t[k].p,t[k].n⟩]:=by rw [List.take_add_one,hx];rfl
  have hdx:=hd _ (List.getElem_mem hlt);generalize t[k]=x at hx hg hnx hdx;generalize hrow:t.take k=row at hln hnx;clear hx hrow hd
  repeat' (first|exact ⟨⟩|refine sp ?_|((refine aN (id:=5) aB aK [7,8] [1,2,3,4,5,6,7,0,8,9] (by decide +kernel) ?_);(repeat' (first|(refine aT ?_)|((refine cV ?_ ?_ rfl rfl rfl ?_ ?_);(rotate_left 2);(focus ((repeat' (first|exact ⟨⟩|refine sp ?_|((with_reducible refine And.intro ?_ ?_);((first|omega|decide)))));((refine And.intro ?_ ?_ <;> exact rfl))));(simp only [aG]))|((refine cU ?_ rfl rfl rfl ?_ ?_);(rotate_left 1);(focus ((repeat' (first|exact bG|refine aZ ?_ ?_));(all_goals ((repeat' (first|exact ⟨⟩|refine sp ?_|refine uN (xC hdx) ?_));(try (exact rfl))))));(simp only [aG])))))|((with_reducible refine And.intro ?_ ?_);omega))
  exact gV (k+1) 0 3 (by omega) (by omega) rfl rfl (aI rfl (by rw [hnx];rfl) rfl (by simp [aH,aL,aD,aJ,aF,vB,tY,vA,]))
 ·have h1:decide ((k:Int)<(t.length:Int))=false:=decide_eq_false (by omega);have hk2:k=t.length:=by omega
  subst hk2;rw [List.take_length];clear hln hmn
  repeat' (first|exact ⟨⟩|refine sp ?_)
  exact ⟨rfl,Nat.zero_le _,rfl,_,_,rfl,rfl,rfl⟩
def goF (p:List UInt8) (it:Bool) (x:It):Bool:=aP p x.p || (it && x.p == p)
theorem zIc {q p:List UInt8} {it:Bool} {k m:Int} {tt:Nat} {d:List UInt8} {es:List (List PV)} (hp:p.length≤1000000000):
  aA Tryz.prog 299 [.agg [.p (.s q),.p (.i .i64 k),.p (.i .i64 m),.p (.f tt),.p (.sl 1 (bO d))],.c (.ptr 0 0),.c (.ptr 1 0)] [.box [.p (.s p)],.box [.p (.b it)],.arr 5 es false]
   fun r h=>r=.c (.p (.b (aP p q || (it && q == p))))∧h=[.box [.p (.s p)],.box [.p (.b it)],.arr 5 es false]:=by
 refine ent aB aK Tryz.func299 rfl rfl fun X0 hX=>?_;simp only [Tryz.f299,go_sem]
 repeat' (first|simp only [*,go_sem,Nat.reduceLT,Nat.reduceEqDiff,↓reduceIte,Nat.reduceAdd,bN,aF]|refine uF (cK hp) ?_|with_reducible refine bF (fun _=>?_) (fun _=>?_))
 all_goals simp_all
theorem zId {q p:List UInt8} {it:Bool} {k m:Int} {tt:Nat} {d:List UInt8} {es:List (List PV)} (hp:p.length≤1000000000):
  aA Tryz.prog 299 [.agg [.p (.s q),.p (.i .i64 k),.p (.i .i64 m),.p (.f tt),.p (.sl 1 (bO d))],.c (.ptr 0 0),.c (.ptr 1 0)] [.box [.p (.s p)],.box [.p (.b it)],.arr 5 es false,.box [.p (.s q),.p (.i .i64 k),.p (.i .i64 m),.p (.f tt),.p (.sl 1 (bO d))]]
   fun r h=>r=.c (.p (.b (aP p q || (it && q == p))))∧h=[.box [.p (.s p)],.box [.p (.b it)],.arr 5 es false,.box [.p (.s q),.p (.i .i64 k),.p (.i .i64 m),.p (.f tt),.p (.sl 1 (bO d))]]:=by
 refine ent aB aK Tryz.func299 rfl rfl fun X0 hX=>?_;simp only [Tryz.f299,go_sem]
 repeat' (first|simp only [*,go_sem,Nat.reduceLT,Nat.reduceEqDiff,↓reduceIte,Nat.reduceAdd,bN,aF]|refine uF (cK hp) ?_|with_reducible refine bF (fun _=>?_) (fun _=>?_))
 all_goals simp_all
theorem zJB {t:List It} {p:List UInt8} {it:Bool} (hp:p.length≤1000000000) (ht:t.length≤1000000):
  aA Tryz.prog 355 [.c (.own 2 0 t.length),.c (.clo 299 [.ptr 0 0,.ptr 1 0])] [.box [.p (.s p)],.box [.p (.b it)],.arr 5 (aU t) false]
   fun r h=>(∃ i:Nat,i≤t.length∧(∀ j x,t[j]? = some x→j<i→goF p it x=false)∧((∃ x,t[i]? = some x∧goF p it x=true∧r=.c (.p (.i .i64 i)))∨(i=t.length∧r=.c (.p (.i .i64 (-1))))))∧h=[.box [.p (.s p)],.box [.p (.b it)],.arr 5 (aU t) false]:=by
 refine ent aB aK Tryz.func355 rfl rfl fun X0 hX=>?_;simp only [Tryz.f355,go_sem]
 repeat' (first|exact ⟨⟩|refine sp ?_)
 refine aY aB aK (α:=Nat) (fun k=>⟨19,[(0,.c (.own 2 0 t.length)),(1,.c (.clo 299 [.ptr 0 0,.ptr 1 0])),(7,.c (.p (.i .i64 t.length))),(8,.c (.p (.i .i64 k)))],[.box [.p (.s p)],.box [.p (.b it)],.arr 5 (aU t) false]⟩)
  (fun k=>k≤t.length∧∀ j x,t[j]? = some x→j<k→goF p it x=false) (fun k=>t.length-k) 0 ⟨Nat.zero_le _,fun j x _ h=>by omega⟩ (.inl (aI (by rw [hX];rfl) rfl rfl (by simp [aH,aL,aD,aJ,aF,cH]))) ?_
 rintro k ⟨hk,hs⟩;by_cases hlt:k<t.length
 ·have hx:t[k]? = some t[k]:=List.getElem?_eq_getElem hlt;have hg:=cQ hx;have h1:decide ((k:Int)<(t.length:Int))=true:=decide_eq_true (by omega);have hli:(k:Int)<(t.length:Int):=by omega
  have w1:IntKind.i64.wrap ((k:Int)+1)=k+1:=wrap_i64 (by omega) (by omega);generalize t[k]=x at hx hg;cases hb:goF p it x
  ·have hs':k+1≤t.length∧∀ j y,t[j]? = some y→j<k+1→goF p it y=false:=⟨by omega,fun j y hy hj=>by
    rcases Nat.lt_or_ge j k with h|h
    ·exact hs j y hy h
    ·have:j=k:=by omega
     subst this;rw [hx] at hy;cases hy;exact hb⟩
   have hb2:(aP p x.p || (it && x.p == p))=false:=hb;clear hs hx hb
   repeat' (first|exact ⟨⟩|refine sp ?_|((with_reducible refine And.intro ?_ ?_);omega))
   refine aA.mono (zIc hp) ?_;rintro _ _ ⟨rfl,rfl⟩;rw [hb2]
   repeat' (first|exact ⟨⟩|refine sp ?_)
   exact fD (k+1) hs' (by omega) (aI rfl rfl rfl (by simp [aH,aL,aD,aJ,aF,cH]))
  ·have hb2:(aP p x.p || (it && x.p == p))=true:=hb
   repeat' (first|exact ⟨⟩|refine sp ?_|((with_reducible refine And.intro ?_ ?_);omega))
   refine aA.mono (zIc hp) ?_;rintro _ _ ⟨rfl,rfl⟩;rw [hb2];clear hb2
   repeat' (simp only [*,go_sem,Nat.reduceLT,Nat.reduceEqDiff,↓reduceIte,Int.reduceNeg,bN,aF])
   exact ⟨k,hk,hs,.inl ⟨x,hx,hb,rfl⟩⟩
 ·have h1:decide ((k:Int)<(t.length:Int))=false:=decide_eq_false (by omega);have hk2:k=t.length:=by omega
  subst hk2
  repeat' (simp only [*,go_sem,Nat.reduceLT,Nat.reduceEqDiff,↓reduceIte,Nat.reduceAdd,Int.reduceNeg,bN,aF])
  refine ⟨t.length,Nat.le_refl _,hs,.inr ?_⟩
  first|exact ⟨rfl,rfl⟩|rfl
theorem rA (t:List It) (i:Nat) (x:It):(aU t).set i [.s x.p,.i .i64 x.n.k,.i .i64 x.n.m,.f x.n.t,.sl 1 (bO x.n.d)]=aU (t.set i x):=by
 unfold aU;rw [List.map_set];rfl
theorem VB {t:List It} {p:List UInt8} {it:Bool} {K:DV→aC→Prop} (hp:p.length≤1000000000) (ht:t.length≤1000000)
  (hk:∀ es:List (List PV),es.take (t.filter fun x=>!goF p it x).length=aU (t.filter fun x=>!goF p it x)→K (.c (.own 2 0 (t.filter fun x=>!goF p it x).length)) [.box [.p (.s p)],.box [.p (.b it)],.arr 5 es false]):
  aA Tryz.prog 298 [.c (.own 2 0 t.length),.c (.clo 299 [.ptr 0 0,.ptr 1 0])] [.box [.p (.s p)],.box [.p (.b it)],.arr 5 (aU t) false] K:=by
 refine VO aB aK Tryz.func298 rfl rfl fun X0 hX=>?_;simp only [Tryz.f298,go_sem]
 repeat' (first|exact ⟨⟩|refine sp ?_)
 refine aA.mono (zJB hp ht) ?_;rintro _ _ ⟨⟨i0,hi0,hbef,hcase⟩,rfl⟩;rcases hcase with ⟨x0,hx0,hg0,rfl⟩|⟨rfl,rfl⟩
 ·have hil:i0<t.length:=(List.getElem?_eq_some_iff.1 hx0).1;have q:((i0:Int) == -1)=false:=by rw [beq_eq_false_iff_ne];omega
  have w0:IntKind.i64.wrap ((i0:Int)+1)=(i0+1:Nat):=wrap_i64 (by omega) (by omega)
  repeat' (first|exact ⟨⟩|refine sp ?_)
  have hself:(t.take i0).filter (fun x=>!goF p it x)=t.take i0:=List.filter_eq_self.2 fun x hx=>by
   obtain ⟨j,hj,rfl⟩:=List.mem_iff_getElem.1 hx;rw [List.getElem_take];have hj2:j<i0:=by simp at hj;omega
   rw [hbef j _ (List.getElem?_eq_getElem (by omega)) hj2];rfl
  have h0:(t.take (i0+1)).filter (fun x=>!goF p it x)=t.take i0:=by
   rw [eI hx0,hself,hg0];simp
  refine aY aB aK (α:=Nat × Nat × List It) (fun x=>⟨42,[(0,.c (.own 2 0 t.length)),(1,.c (.clo 299 [.ptr 0 0,.ptr 1 0])),(5,.c (.p (.i .i64 x.2.1))),(6,.c (.p (.i .i64 x.1)))],[.box [.p (.s p)],.box [.p (.b it)],.arr 5 (aU x.2.2) false]⟩)
   (fun x=>x.1≤t.length∧x.2.1<x.1∧x.2.2.length=t.length∧x.2.2.take x.2.1=(t.take x.1).filter (fun x=>!goF p it x)∧x.2.2.drop x.1=t.drop x.1) (fun x=>t.length-x.1) (i0+1,i0,t)
   ⟨by omega,by simp,rfl,by rw [h0],rfl⟩ (.inl (aI (by rw [hX];rfl) rfl rfl (by simp [aH,aL,aD,aJ,aF,cH]))) ?_
  clear hself h0 hbef hx0 hg0 q w0 hil hi0;rintro ⟨j,i,R⟩ ⟨hj,hij,hRl,hRt,hRd⟩;simp only at hj hij hRl hRt hRd;by_cases hlt:j<t.length
  ·have hx:t[j]? = some t[j]:=List.getElem?_eq_getElem hlt;have hxR:R[j]? = some t[j]:=by
    have h3:R[j]? = t[j]? := by
     have:=congrArg (·[0]?) hRd
     simpa [List.getElem?_drop] using this
    exact h3.trans hx
   have hg:=cQ hxR;have h1:decide ((j:Int)<(t.length:Int))=true:=decide_eq_true (by omega);have hli:(j:Int)<(t.length:Int):=by omega
   have hli2:(i:Int)<(t.length:Int):=by omega
   have w1:IntKind.i64.wrap ((j:Int)+1)=(j+1:Nat):=wrap_i64 (by omega) (by omega);have w2:IntKind.i64.wrap ((i:Int)+1)=(i+1:Nat):=wrap_i64 (by omega) (by omega);have hnx:=eI (g:=fun x=>!goF p it x) hx;generalize t[j]=x at hx hxR hg hnx;have hRd2:R.drop (j+1)=t.drop (j+1):=by rw [← List.drop_drop,← List.drop_drop,hRd]
   cases hb:goF p it x
   ·rw [hb] at hnx;have hJ:j+1≤t.length∧i+1<j+1∧(R.set i x).length=t.length∧(R.set i x).take (i+1)=(t.take (j+1)).filter (fun x=>!goF p it x)∧(R.set i x).drop (j+1)=t.drop (j+1):=by
     refine ⟨by omega,by omega,by simp [hRl],?_,?_⟩
     ·rw [hnx,List.take_add_one,List.getElem?_set_self (by omega),List.take_set,List.set_eq_of_length_le (by rw [List.length_take];omega),hRt];rfl
     ·rw [List.drop_set,if_pos (by omega),hRd2]
    have hb2:(aP p x.p || (it && x.p == p))=false:=hb;have hgi:=cQ (t:=R) (k:=i) (List.getElem?_eq_getElem (by omega));generalize (R[i]'(by omega))=y at hgi;clear hnx hRt hRd hRd2 hx hxR hb
    repeat' (first|exact ⟨⟩|refine sp ?_|((with_reducible refine And.intro ?_ ?_);omega))
    refine aA.mono (zId hp) ?_;rintro _ _ ⟨rfl,rfl⟩;rw [hb2]
    repeat' (first|exact ⟨⟩|refine sp ?_|((with_reducible refine And.intro ?_ ?_);omega))
    exact fD (j+1,i+1,R.set i x) hJ (by simp only;omega) (aI rfl (by simp only [← rA];rfl) rfl (by simp [aH,aL,aD,aJ,aF,cH]))
   ·rw [hb] at hnx;have hJ:j+1≤t.length∧i<j+1∧R.length=t.length∧R.take i=(t.take (j+1)).filter (fun x=>!goF p it x)∧R.drop (j+1)=t.drop (j+1):=⟨by omega,by omega,hRl,by rw [hnx,hRt];simp,hRd2⟩
    have hb2:(aP p x.p || (it && x.p == p))=true:=hb;clear hnx hRt hRd hRd2 hx hxR hb
    repeat' (first|exact ⟨⟩|refine sp ?_|((with_reducible refine And.intro ?_ ?_);omega))
    refine aA.mono (zId hp) ?_;rintro _ _ ⟨rfl,rfl⟩;rw [hb2]
    repeat' (first|exact ⟨⟩|refine sp ?_)
    exact fD (j+1,i,R) hJ (by simp only;omega) (aI rfl rfl rfl (by simp [aH,aL,aD,aJ,aF,cH]))
  ·have h1:decide ((j:Int)<(t.length:Int))=false:=decide_eq_false (by omega);have htt:t.take j=t:=List.take_of_length_le (by omega);rw [htt] at hRt;have hil:(t.filter fun x=>!goF p it x).length=i:=by
    rw [← hRt,List.length_take];omega
   have hli:(i:Int)≤(t.length:Int):=by omega
   have hi0:(0:Int)≤i:=by omega
   have hni:i+(t.length-i)=R.length:=by omega
   rw [hil] at hk;clear htt hRd hij
   repeat' (first|exact ⟨⟩|refine sp ?_|((with_reducible refine And.intro ?_ ?_);omega))
   all_goals first|refine hk _ ?_|refine ⟨by omega,hk _ ?_⟩
   all_goals exact List.take_left' (by simp [aU,hil])
 ·have hself:t.filter (fun x=>!goF p it x)=t:=List.filter_eq_self.2 fun x hx=>by
   obtain ⟨j,hj,rfl⟩:=List.mem_iff_getElem.1 hx;rw [hbef j _ (List.getElem?_eq_getElem hj) hj];rfl
  rw [hself] at hk;clear hself
  repeat' (first|exact ⟨⟩|refine sp ?_)
  all_goals exact hk _ (List.take_of_length_le (by simp))
theorem zE4 {t:List It} {p:List UInt8} {it:Bool} (hp:p.length≤1000000000) (ht:t.length≤1000000) (hd:∀ x∈t,x.n.d.length≤140737488355328):
  aA Tryz.prog 248 [.c (.p (.sl 5 (aU t))),.c (.p (.s p)),.c (.p (.b it))] [] fun r h=>r=.c (.p (.sl 5 (aU (t.filter fun x=>!goF p it x))))∧h=[]:=by
 have hc:=xA ht hd;refine ent aB aK Tryz.func248 rfl rfl fun X0 hX=>?_;simp only [Tryz.f248,go_sem]
 repeat' (first|exact ⟨⟩|refine sp ?_|refine zER hc rfl ?_)
 refine VB hp ht fun es hes=>?_
 repeat' (first|exact ⟨⟩|refine sp ?_)
 all_goals rw [hes]
theorem nZ {t:List It} {p:List UInt8} (hp:p.length≤1000000000) (ht:t.length≤1000000) (hd:∀ x∈t,x.n.d.length≤140737488355328):
  aA Tryz.prog 187 [.c (.p (.sl 5 (aU t))),.c (.p (.s p))] [] fun r h=>r=.c (.p (.sl 5 (aU (bU t p))))∧h=[]:=by
 have hr:bU t p=t.filter fun x=>!goF p true x:=by
  rw [fE]
  congr 1
  funext x
  simp only [goF,Bool.true_and];cases aP p x.p <;> cases x.p == p <;> rfl
 have hw:=zE4 (p:=p) (it:=true) hp ht hd;rw [← hr] at hw;refine ent aB aK Tryz.func187 rfl rfl fun X0 hX=>?_;simp only [Tryz.f187,go_sem]
 repeat' (first|exact ⟨⟩|refine sp ?_|refine uN (hw) ?_)
theorem FZ {t:List It} {p:List UInt8} (h:OkT t):aA Tryz.prog 179 [.c (.p (.sl 5 (aU t))),.c (.p (.s p))] [] fun r h=>r=.c (.p (.sl 1 (Go.Dm.encS (fR t p))))∧h=[]:=by
 have hl:=h.len;have hpl:=h.plen;have hne:=h.ne;clear h;unfold fR;refine ent aB aK Tryz.func179 rfl rfl fun X0 hX=>?_;simp only [Tryz.f179,go_sem]
 repeat' (first|exact ⟨⟩|refine sp ?_)
 refine mB aB aK 5 1 rfl ?_;refine aY aB aK (α:=Nat × List (List UInt8)) (fun x=>⟨34,[(1,.c (.p (.s p))),(8,.c (.p (.sl 5 (aU t)))),(9,.c (.p (.i .i64 t.length))),(10,.c (.p (.i .i64 x.1))),(5,.c (.own 0 0 x.2.length))],[.arr 1 (Go.Dm.encS x.2) false]⟩)
  (fun x=>x.1≤t.length∧x.2.length≤x.1∧(((t.take x.1).filter fun x=>aR x.p == p).map fun x=>vJ x.p)=x.2) (fun x=>t.length-x.1) (0,[]) ⟨Nat.zero_le _,Nat.le_refl _,rfl⟩ (.inl (aI (by rw [hX];rfl) rfl rfl (by simp [aH,aL,aD,aJ,aF,lL]))) ?_
 rintro ⟨k,out⟩ ⟨hk,hol,hout⟩;simp only at hk hol hout;by_cases hlt:k<t.length
 ·have hx:t[k]? = some t[k]:=List.getElem?_eq_getElem hlt;have hg:=cQ hx;have h1:decide ((k:Int)<(t.length:Int))=true:=decide_eq_true (by omega);have w1:IntKind.i64.wrap ((k:Int)+1)=k+1:=wrap_i64 (by omega) (by omega);have hnx:=eI (g:=fun x=>aR x.p == p) hx;have hxl:=hpl _ (List.getElem_mem hlt);have hxn:(t[k].p == [])=false:=by
   have:=hne _ (List.getElem_mem hlt);simpa using this
  generalize t[k]=x at hx hg hnx hxl hxn;cases hb:(aR x.p == p)
  ·have hJ:k+1≤t.length∧out.length≤k+1∧(((t.take (k+1)).filter fun x=>aR x.p == p).map fun x=>vJ x.p)=out:=⟨by omega,by omega,by rw [hnx,hb,List.map_append,hout];simp⟩
   clear hnx hx hout hpl hne
   repeat' (first|exact ⟨⟩|refine sp ?_|refine uF (dQ (by omega)) ?_|((with_reducible refine And.intro ?_ ?_);omega))
   exact fD (k+1,out) hJ (by simp only;omega) (aI rfl rfl rfl (by simp [aH,aL,aD,aJ,aF,]))
  ·have hJ:k+1≤t.length∧(out++[vJ x.p]).length≤k+1∧(((t.take (k+1)).filter fun x=>aR x.p == p).map fun x=>vJ x.p)=out++[vJ x.p]:=⟨by omega,by simp;omega,by rw [hnx,hb,List.map_append,hout];simp⟩
   clear hnx hx hout hpl hne
   repeat' (first|exact ⟨⟩|refine sp ?_|refine uF (dQ (by omega)) ?_|refine uF (ZQ (by omega)) ?_|((with_reducible refine And.intro ?_ ?_);((first|omega|decide))))
   exact gV (k+1,out++[vJ x.p]) 0 3 hJ (by simp only;omega) rfl rfl (aI rfl rfl rfl (by simp [aH,aL,aD,aJ,aF,vB,tY,vA,]))
 ·have h1:decide ((k:Int)<(t.length:Int))=false:=decide_eq_false (by omega);rw [List.take_of_length_le (by omega)] at hout;unfold vX;rw [hout];have hsl:(out.mergeSort fun x y=>decide (x≤y)).length=out.length:=List.length_mergeSort ..;clear hout
  repeat' (first|simp only [*,go_sem,Nat.reduceLT,Nat.reduceEqDiff,↓reduceIte,List.set_cons_zero]|refine sort_k (id:=0) (ss:=out) (by rfl) (by omega) ?_)
  all_goals rw [List.take_of_length_le (by simp)]
def t3:List It:=[⟨[97],⟨2,493,0,[]⟩⟩,⟨[97,47,98],⟨1,0,0,[]⟩⟩,⟨[99],⟨2,493,0,[]⟩⟩]
end Go.Proofs.YtlbfnbldeefgmaaGreatDoor
end
