/- Part 27 of the proof of roomDeep_card, set without needless blanks. No condition. -/
import Derived.Test.YtlbfnbldeefgmaaGreatDoorC22
import Derived.Test.YtlbfnbldeefgmaaGreatDoorC25
set_option linter.all false
section
namespace Go.Proofs.YtlbfnbldeefgmaaGreatDoor
open Go Go.Dm Go.Proofs
set_option maxRecDepth 100000
set_option maxHeartbeats 8000000
theorem zBa {q p:List UInt8} {a:Int}:aA Tryz.prog 169 [.agg [.p (.s q),.p (.i .i64 a)],.c (.p (.s p))] [] fun r h=>r=.c (.p (.i .i64 (NP q p)))∧h=[]:=by
 refine ent aC aK Tryz.func169 rfl rfl fun X0 hX=>?_;simp only [Tryz.f169,go_sem]
 repeat' (first|simp only [*,go_sem,Nat.reduceLT,Nat.reduceEqDiff,↓reduceIte,]|((with_reducible refine aQ (qK) ?_ ?_ ?_);exact rfl;exact rfl))
theorem KD {l:List Nm} {p:List UInt8} (hl:l.length≤1000000) (hs:DW l):
  aA Tryz.prog 168 [.c (.p (.sl 2 (bJ l))),.c (.p (.s p)),.c (.clo 169 [])] [] fun r h =>
   r=.tup [.c (.p (.i .i64 (oE l p))),.c (.p (.b (PL l p)))]∧h=[]:=by
 have hmon:∀ (k k':Nat) (x x':Nm),l[k]? = some x→l[k']? = some x'→k<k'→bZ x.n x'.n=true:=fun k k' x x' h1 h2 h3=>by
  obtain ⟨h4,rfl⟩:=List.getElem?_eq_some_iff.1 h1;obtain ⟨h5,rfl⟩:=List.getElem?_eq_some_iff.1 h2;exact List.pairwise_iff_getElem.1 hs _ _ h4 h5 h3
 refine ent aC aK Tryz.func168 rfl rfl fun X0 hX=>?_;simp only [Tryz.f168,go_sem]
 repeat' (simp only [*,go_sem,Nat.reduceLT,Nat.reduceEqDiff,↓reduceIte,Nat.reduceAdd,])
 refine bQ aC aK (α:=Nat × Nat) (fun x=>⟨49,[(0,.c (.p (.sl 2 (bJ l)))),(1,.c (.p (.s p))),(2,.c (.clo 169 [])),(8,.c (.p (.i .i64 l.length))),(9,.c (.p (.i .i64 x.1))),(10,.c (.p (.i .i64 x.2)))],[]⟩)
  (fun x=>x.1≤x.2∧x.2≤l.length∧∀ (k:Nat) (y:Nm),l[k]? = some y→(k<x.1→bZ y.n p=true)∧(x.2≤k→bZ y.n p=false)) (fun x=>x.2-x.1) (0,l.length) ⟨Nat.zero_le _,Nat.le_refl _,fun k y hy=>⟨fun h=>by omega,fun h=>by rw [List.getElem?_eq_none h] at hy;cases hy⟩⟩ (.inl (aJ (by rw [hX];rfl) rfl rfl (by simp [aH,aN,aD,aL,aG,]))) ?_
 rintro ⟨i,j⟩ ⟨hij,hj,hl⟩;simp only at hij hj hl;by_cases hlt:i<j
 ·have h1:decide ((i:Int)<(j:Int))=true:=decide_eq_true (by omega);have w1:IntKind.i64.wrap ((i:Int)+j)=(i:Int)+j:=wrap_i64 (by omega) (by omega);have w2:IntKind.u64.wrap ((i:Int)+j)=(i:Int)+j:=wrap_u64 (by omega) (by omega);obtain ⟨m,hm,hmi,hmj⟩:∃ m:Nat,((i:Int)+j).fdiv (2 ^ min 1 64)=(m:Int)∧i≤m∧m<j :=
   ⟨(i+j) / 2,by rw [show (2:Int) ^ min 1 64=2 from rfl,Int.fdiv_eq_ediv_of_nonneg _ (by decide)];omega,by omega,by omega⟩
  have w3:IntKind.i64.wrap (m:Int)=m:=wrap_i64 (by omega) (by omega);have w4:IntKind.i64.wrap ((m:Int)+1)=m+1:=wrap_i64 (by omega) (by omega);have hml:m<l.length:=by omega
  have hx:l[m]? = some l[m]:=List.getElem?_eq_getElem hml;have hg:=nA hx;generalize l[m]=x at hx hg
  repeat' (first|simp only [*,go_sem,Nat.reduceLT,Nat.reduceLeDiff,Nat.reduceEqDiff,↓reduceIte,Nat.reduceAdd,Int.reduceLE,Int.reduceToNat,]|((with_reducible refine aQ (zBa) ?_ ?_ ?_);exact rfl;exact rfl)|with_reducible refine aR (fun _=>?_) (fun _=>?_)|((with_reducible refine And.intro ?_ ?_);omega))
  ·rename_i hb;have hb:bZ x.n p=true:=by rw [← nU];exact hb
   exact jC (m+1,j) ⟨by simp only;omega,hj,fun k y hy=>⟨fun hk=>by
    rcases Nat.lt_or_ge k m with h|h
    ·exact cO (hmon _ _ _ _ hy hx h) hb
    ·have:k=m:=by simp only at hk;omega
     subst this;rw [hx] at hy;cases hy;exact hb,(hl k y hy).2⟩⟩ (by simp only;omega) (aJ rfl rfl rfl (by simp [aH,aN,aD,aL,aG,]))
  ·rename_i hb;have hb:bZ x.n p=false:=by rw [← nU];exact hb
   exact jC (i,m) ⟨hmi,by simp only;omega,fun k y hy=>⟨(hl k y hy).1,fun hk=>by
    rcases Nat.lt_or_ge m k with h|h
    ·cases hc:bZ y.n p
     ·rfl
     ·have:=cO (hmon _ _ _ _ hx hy h) hc;rw [hb] at this;cases this
    ·have:k=m:=by simp only at hk;omega
     subst this;rw [hx] at hy;cases hy;exact hb⟩⟩ (by simp only;omega) (aJ rfl rfl rfl (by simp [aH,aN,aD,aL,aG,]))
 ·have h1:decide ((i:Int)<(j:Int))=false:=decide_eq_false (by omega);have:i=j:=by omega
  subst this;have hat:AtN l p i:=⟨hj,hl⟩;have he:=PLift.up (WM hat);have hn:=zGR hs hat;by_cases hil:i<l.length
  ·have hx:l[i]? = some l[i]:=List.getElem?_eq_getElem hil;rw [hx] at hn;have hg:=nA hx;have h2:decide ((i:Int)<(l.length:Int))=true:=decide_eq_true (by omega);generalize l[i]=x at hx hg hn;clear hat hl
   repeat' (first|simp only [*,go_sem,Nat.reduceLT,Nat.reduceLeDiff,Nat.reduceEqDiff,↓reduceIte,Nat.reduceAdd,]|((with_reducible refine aQ (zBa) ?_ ?_ ?_);exact rfl;exact rfl)|((with_reducible refine And.intro ?_ ?_);omega))
   all_goals simp only [he.down,KI]
  ·have h2:decide ((i:Int)<(l.length:Int))=false:=decide_eq_false (by omega);rw [List.getElem?_eq_none (Nat.le_of_not_lt hil)] at hn;clear hat hl
   repeat' (simp only [*,go_sem,Nat.reduceLT,Nat.reduceEqDiff,↓reduceIte,])
   all_goals simp only [he.down]
theorem KE {h:aB} {i n:Nat} {l:List Nm} {p:List UInt8} {K:DV→aB→Prop} (hl:l.length≤1000000) (hs:DW l) (hn:n=l.length) (h0:h[i]? = some (.arr 2 (bJ l) false))
  (hk:K (.tup [.c (.p (.i .i64 (oE l p))),.c (.p (.b (PL l p)))]) h):aA Tryz.prog 168 [.c (.own i 0 n),.c (.p (.s p)),.c (.clo 169 [])] h K :=
 zJa rfl rfl (by rw [hn,← eV,List.take_length]) (KD hl hs) h0 (fun d hd=>by subst hd;exact ⟨rfl,hk⟩)
theorem rQ {r:Rm} {s:List UInt8} (hl:r.N.length≤1000000) (hs:DW r.N):aA Tryz.prog 93 [.c (.ptr 0 0),.c (.p (.s s))] (cB r) fun d h=>d=.tup [.c (.p (.i .i64 (oE r.N s))),.c (.p (.b (PL r.N s)))]∧h=cB r:=by
 unfold cB;refine ent aC aK Tryz.func93 rfl rfl fun X0 hX=>?_;simp only [Tryz.f93,go_sem]
 repeat' (first|simp only [*,go_sem,Nat.reduceLT,Nat.reduceEqDiff,↓reduceIte,Nat.reduceAdd,]|refine KE hl hs rfl rfl ?_)
end Go.Proofs.YtlbfnbldeefgmaaGreatDoor
end
section
namespace Go.Proofs.YtlbfnbldeefgmaaGreatDoor
open Go Go.Dm
set_option maxRecDepth 100000
set_option maxHeartbeats 4000000
theorem sort_k {h:aB} {id:Nat} {ss:List (List UInt8)} {K:DV→aB→Prop} (hid:h[id]? = some (.arr 1 (Go.Dm.encS ss) false)) (hsz:ss.length<4611686018427387904)
  (hk:K (.tup []) (h.set id (.arr 1 (Go.Dm.encS (ss.mergeSort fun x y=>decide (x≤y))) false))):aA Tryz.prog 228 [.c (.own id 0 ss.length)] h K :=
 aA.mono (zI1 hid hsz) (by rintro d h' ⟨rfl,rfl⟩;exact hk)
end Go.Proofs.YtlbfnbldeefgmaaGreatDoor
end
section
namespace Go.Proofs.YtlbfnbldeefgmaaGreatDoor
open Go Go.Dm
set_option maxRecDepth 100000
set_option maxHeartbeats 4000000
theorem uF {t:List It} (ht:t.length≤1000000) (hd:∀ x∈t,x.n.d.length≤140737488355328):
  aA Tryz.prog 99 [.c (.p (.sl 5 (aZ t)))] [] fun r h=>r=.c (.own 0 0 t.length)∧h=[.arr 5 (aZ t) false]:=by
 refine zKC aC aK Tryz.func99 rfl rfl fun X0 hX=>?_;simp only [Tryz.f99,go_sem]
 repeat' (simp only [*,go_sem,Nat.reduceLT,Nat.reduceEqDiff,↓reduceIte,])
 refine DL aC aK 3 5 rfl ?_;refine bQ aC aK (α:=Nat) (fun k=>⟨23,[(6,.c (.p (.sl 5 (aZ t)))),(7,.c (.p (.i .i64 t.length))),(8,.c (.p (.i .i64 k))),(3,.c (.own 0 0 k))],[.arr 5 (aZ (t.take k)) false]⟩)
  (fun k=>k≤t.length) (fun k=>t.length-k) 0 (Nat.zero_le _) (.inl (aJ (by rw [hX];rfl) rfl rfl (by simp [aH,aN,aD,aL,aG,BI,]))) ?_
 intro k hk;have hmn:min k t.length=k:=Nat.min_eq_left hk;have hln:(t.take k).length=k:=by rw [List.length_take,hmn]
 by_cases hlt:k<t.length
 ·have hx:t[k]? = some t[k]:=List.getElem?_eq_getElem hlt;have hg:=dD hx;have h1:decide ((k:Int)<(t.length:Int))=true:=decide_eq_true (by omega);have w1:IntKind.i64.wrap ((k:Int)+1)=k+1:=wrap_i64 (by omega) (by omega);have hnx:t.take (k+1)=t.take k++[⟨t[k].p,t[k].n⟩]:=by rw [List.take_add_one,hx];rfl
  have hdx:=hd _ (List.getElem_mem hlt);generalize t[k]=x at hx hg hnx hdx;generalize hrow:t.take k=row at hln hnx;clear hx hrow hd
  repeat' (first|simp only [*,go_sem,Nat.reduceLT,Nat.reduceLeDiff,Nat.reduceEqDiff,↓reduceIte,Nat.reduceAdd,]|((refine aO (id:=5) aC aK [7,8] [1,2,3,4,5,6,7,0,8,9] (by decide +kernel) ?_);(repeat' (first|(refine bC ?_)|((refine dB ?_ ?_ rfl rfl rfl ?_ ?_);(rotate_left 2);(focus ((repeat' (first|simp only [*,go_sem,Nat.reduceLT,Nat.reduceLeDiff,Nat.reduceEqDiff,↓reduceIte,Nat.reduceAdd,Nat.reduceMul,Nat.reduceBEq,]|((with_reducible refine And.intro ?_ ?_);((first|omega|decide)))));((refine And.intro ?_ ?_ <;> exact rfl))));(simp only [aF]))|((refine dA ?_ rfl rfl rfl ?_ ?_);(rotate_left 1);(focus ((repeat' (first|exact bI|refine bA ?_ ?_));(all_goals ((repeat' (first|simp only [*,go_sem,Nat.reduceLT,Nat.reduceLeDiff,Nat.reduceEqDiff,↓reduceIte,Nat.reduceAdd,]|((with_reducible refine cH (EN hdx) ?_ ?_ ?_);exact rfl;exact fun _=>rfl)));(try (exact rfl))))));(simp only [aF])))))|((with_reducible refine And.intro ?_ ?_);omega))
  exact zK (k+1) 0 3 (by omega) (by omega) rfl rfl (aJ rfl (by rw [hnx];rfl) rfl (by simp [aH,aN,aD,aL,aG,zBF,WC,zBD,]))
 ·have h1:decide ((k:Int)<(t.length:Int))=false:=decide_eq_false (by omega);have hk2:k=t.length:=by omega
  subst hk2;rw [List.take_length];clear hln hmn
  repeat' (simp only [*,go_sem,Nat.reduceLT,Nat.reduceEqDiff,↓reduceIte,])
  exact ⟨rfl,Nat.zero_le _,rfl,_,_,rfl,rfl,rfl⟩
def goF (p:List UInt8) (it:Bool) (x:It):Bool:=aM p x.p || (it && x.p == p)
theorem zFp {q p:List UInt8} {it:Bool} {k m:Int} {tt:Nat} {d:List UInt8} {es:List (List PV)} (hp:p.length≤1000000000):
  aA Tryz.prog 299 [.agg [.p (.s q),.p (.i .i64 k),.p (.i .i64 m),.p (.f tt),.p (.sl 1 (bW d))],.c (.ptr 0 0),.c (.ptr 1 0)] [.box [.p (.s p)],.box [.p (.b it)],.arr 5 es false]
   fun r h=>r=.c (.p (.b (aM p q || (it && q == p))))∧h=[.box [.p (.s p)],.box [.p (.b it)],.arr 5 es false]:=by
 refine ent aC aK Tryz.func299 rfl rfl fun X0 hX=>?_;simp only [Tryz.f299,go_sem]
 repeat' (first|simp only [*,go_sem,Nat.reduceLT,Nat.reduceEqDiff,↓reduceIte,Nat.reduceAdd,bK,aG]|((with_reducible refine aQ (cE hp) ?_ ?_ ?_);exact rfl;exact rfl)|with_reducible refine cL (fun _=>?_) (fun _=>?_))
 all_goals simp_all
theorem zFq {q p:List UInt8} {it:Bool} {k m:Int} {tt:Nat} {d:List UInt8} {es:List (List PV)} (hp:p.length≤1000000000):
  aA Tryz.prog 299 [.agg [.p (.s q),.p (.i .i64 k),.p (.i .i64 m),.p (.f tt),.p (.sl 1 (bW d))],.c (.ptr 0 0),.c (.ptr 1 0)] [.box [.p (.s p)],.box [.p (.b it)],.arr 5 es false,.box [.p (.s q),.p (.i .i64 k),.p (.i .i64 m),.p (.f tt),.p (.sl 1 (bW d))]]
   fun r h=>r=.c (.p (.b (aM p q || (it && q == p))))∧h=[.box [.p (.s p)],.box [.p (.b it)],.arr 5 es false,.box [.p (.s q),.p (.i .i64 k),.p (.i .i64 m),.p (.f tt),.p (.sl 1 (bW d))]]:=by
 refine ent aC aK Tryz.func299 rfl rfl fun X0 hX=>?_;simp only [Tryz.f299,go_sem]
 repeat' (first|simp only [*,go_sem,Nat.reduceLT,Nat.reduceEqDiff,↓reduceIte,Nat.reduceAdd,bK,aG]|((with_reducible refine aQ (cE hp) ?_ ?_ ?_);exact rfl;exact rfl)|with_reducible refine cL (fun _=>?_) (fun _=>?_))
 all_goals simp_all
theorem zGL {t:List It} {p:List UInt8} {it:Bool} (hp:p.length≤1000000000) (ht:t.length≤1000000):
  aA Tryz.prog 355 [.c (.own 2 0 t.length),.c (.clo 299 [.ptr 0 0,.ptr 1 0])] [.box [.p (.s p)],.box [.p (.b it)],.arr 5 (aZ t) false]
   fun r h=>(∃ i:Nat,i≤t.length∧(∀ j x,t[j]? = some x→j<i→goF p it x=false)∧((∃ x,t[i]? = some x∧goF p it x=true∧r=.c (.p (.i .i64 i)))∨(i=t.length∧r=.c (.p (.i .i64 (-1))))))∧h=[.box [.p (.s p)],.box [.p (.b it)],.arr 5 (aZ t) false]:=by
 refine ent aC aK Tryz.func355 rfl rfl fun X0 hX=>?_;simp only [Tryz.f355,go_sem]
 repeat' (simp only [*,go_sem,Nat.reduceLT,Nat.reduceEqDiff,↓reduceIte,Nat.reduceAdd,Int.reduceNeg,])
 refine bQ aC aK (α:=Nat) (fun k=>⟨19,[(0,.c (.own 2 0 t.length)),(1,.c (.clo 299 [.ptr 0 0,.ptr 1 0])),(7,.c (.p (.i .i64 t.length))),(8,.c (.p (.i .i64 k)))],[.box [.p (.s p)],.box [.p (.b it)],.arr 5 (aZ t) false]⟩)
  (fun k=>k≤t.length∧∀ j x,t[j]? = some x→j<k→goF p it x=false) (fun k=>t.length-k) 0 ⟨Nat.zero_le _,fun j x _ h=>by omega⟩ (.inl (aJ (by rw [hX];rfl) rfl rfl (by simp [aH,aN,aD,aL,aG,cC]))) ?_
 rintro k ⟨hk,hs⟩;by_cases hlt:k<t.length
 ·have hx:t[k]? = some t[k]:=List.getElem?_eq_getElem hlt;have hg:=dD hx;have h1:decide ((k:Int)<(t.length:Int))=true:=decide_eq_true (by omega);have hli:(k:Int)<(t.length:Int):=by omega
  have w1:IntKind.i64.wrap ((k:Int)+1)=k+1:=wrap_i64 (by omega) (by omega);generalize t[k]=x at hx hg;cases hb:goF p it x
  ·have hs':k+1≤t.length∧∀ j y,t[j]? = some y→j<k+1→goF p it y=false:=⟨by omega,fun j y hy hj=>by
    rcases Nat.lt_or_ge j k with h|h
    ·exact hs j y hy h
    ·have:j=k:=by omega
     subst this;rw [hx] at hy;cases hy;exact hb⟩
   have hb2:(aM p x.p || (it && x.p == p))=false:=hb;clear hs hx hb
   repeat' (first|simp only [*,go_sem,Nat.reduceLT,Nat.reduceLeDiff,Nat.reduceEqDiff,↓reduceIte,Nat.reduceAdd,Int.reduceNeg,]|((with_reducible refine And.intro ?_ ?_);omega))
   refine aA.mono (zFp hp) ?_;rintro _ _ ⟨rfl,rfl⟩;rw [hb2]
   repeat' (simp only [*,go_sem,Nat.reduceLT,Nat.reduceEqDiff,↓reduceIte,Int.reduceNeg,])
   exact jC (k+1) hs' (by omega) (aJ rfl rfl rfl (by simp [aH,aN,aD,aL,aG,cC]))
  ·have hb2:(aM p x.p || (it && x.p == p))=true:=hb
   repeat' (first|simp only [*,go_sem,Nat.reduceLT,Nat.reduceLeDiff,Nat.reduceEqDiff,↓reduceIte,Nat.reduceAdd,Int.reduceNeg,]|((with_reducible refine And.intro ?_ ?_);omega))
   refine aA.mono (zFp hp) ?_;rintro _ _ ⟨rfl,rfl⟩;rw [hb2];clear hb2
   repeat' (simp only [*,go_sem,Nat.reduceLT,Nat.reduceEqDiff,↓reduceIte,Int.reduceNeg,bK,aG])
   exact ⟨k,hk,hs,.inl ⟨x,hx,hb,rfl⟩⟩
 ·have h1:decide ((k:Int)<(t.length:Int))=false:=decide_eq_false (by omega);have hk2:k=t.length:=by omega
  subst hk2
  repeat' (simp only [*,go_sem,Nat.reduceLT,Nat.reduceEqDiff,↓reduceIte,Nat.reduceAdd,Int.reduceNeg,bK,aG])
  refine ⟨t.length,Nat.le_refl _,hs,.inr ?_⟩
  first|exact ⟨rfl,rfl⟩|rfl
theorem pK (t:List It) (i:Nat) (x:It):(aZ t).set i [.s x.p,.i .i64 x.n.k,.i .i64 x.n.m,.f x.n.t,.sl 1 (bW x.n.d)]=aZ (t.set i x):=by
 unfold aZ;rw [List.map_set];rfl
theorem NS {t:List It} {p:List UInt8} {it:Bool} {K:DV→aB→Prop} (hp:p.length≤1000000000) (ht:t.length≤1000000)
  (hk:∀ es:List (List PV),es.take (t.filter fun x=>!goF p it x).length=aZ (t.filter fun x=>!goF p it x)→K (.c (.own 2 0 (t.filter fun x=>!goF p it x).length)) [.box [.p (.s p)],.box [.p (.b it)],.arr 5 es false]):
  aA Tryz.prog 298 [.c (.own 2 0 t.length),.c (.clo 299 [.ptr 0 0,.ptr 1 0])] [.box [.p (.s p)],.box [.p (.b it)],.arr 5 (aZ t) false] K:=by
 refine PC aC aK Tryz.func298 rfl rfl fun X0 hX=>?_;simp only [Tryz.f298,go_sem]
 repeat' (simp only [*,go_sem,Nat.reduceLT,Nat.reduceEqDiff,↓reduceIte,Int.reduceNeg,])
 refine aA.mono (zGL hp ht) ?_;rintro _ _ ⟨⟨i0,hi0,hbef,hcase⟩,rfl⟩;rcases hcase with ⟨x0,hx0,hg0,rfl⟩|⟨rfl,rfl⟩
 ·have hil:i0<t.length:=(List.getElem?_eq_some_iff.1 hx0).1;have q:((i0:Int) == -1)=false:=by rw [beq_eq_false_iff_ne];omega
  have w0:IntKind.i64.wrap ((i0:Int)+1)=(i0+1:Nat):=wrap_i64 (by omega) (by omega)
  repeat' (simp only [*,go_sem,Nat.reduceLT,Nat.reduceEqDiff,↓reduceIte,Int.reduceNeg,])
  have hself:(t.take i0).filter (fun x=>!goF p it x)=t.take i0:=List.filter_eq_self.2 fun x hx=>by
   obtain ⟨j,hj,rfl⟩:=List.mem_iff_getElem.1 hx;rw [List.getElem_take];have hj2:j<i0:=by simp at hj;omega
   rw [hbef j _ (List.getElem?_eq_getElem (by omega)) hj2];rfl
  have h0:(t.take (i0+1)).filter (fun x=>!goF p it x)=t.take i0:=by
   rw [eB hx0,hself,hg0];simp
  refine bQ aC aK (α:=Nat × Nat × List It) (fun x=>⟨42,[(0,.c (.own 2 0 t.length)),(1,.c (.clo 299 [.ptr 0 0,.ptr 1 0])),(5,.c (.p (.i .i64 x.2.1))),(6,.c (.p (.i .i64 x.1)))],[.box [.p (.s p)],.box [.p (.b it)],.arr 5 (aZ x.2.2) false]⟩)
   (fun x=>x.1≤t.length∧x.2.1<x.1∧x.2.2.length=t.length∧x.2.2.take x.2.1=(t.take x.1).filter (fun x=>!goF p it x)∧x.2.2.drop x.1=t.drop x.1) (fun x=>t.length-x.1) (i0+1,i0,t)
   ⟨by omega,by simp,rfl,by rw [h0],rfl⟩ (.inl (aJ (by rw [hX];rfl) rfl rfl (by simp [aH,aN,aD,aL,aG,cC]))) ?_
  clear hself h0 hbef hx0 hg0 q w0 hil hi0;rintro ⟨j,i,R⟩ ⟨hj,hij,hRl,hRt,hRd⟩;simp only at hj hij hRl hRt hRd;by_cases hlt:j<t.length
  ·have hx:t[j]? = some t[j]:=List.getElem?_eq_getElem hlt;have hxR:R[j]? = some t[j]:=by
    have h3:R[j]? = t[j]? := by
     have:=congrArg (·[0]?) hRd
     simpa [List.getElem?_drop] using this
    exact h3.trans hx
   have hg:=dD hxR;have h1:decide ((j:Int)<(t.length:Int))=true:=decide_eq_true (by omega);have hli:(j:Int)<(t.length:Int):=by omega
   have hli2:(i:Int)<(t.length:Int):=by omega
   have w1:IntKind.i64.wrap ((j:Int)+1)=(j+1:Nat):=wrap_i64 (by omega) (by omega);have w2:IntKind.i64.wrap ((i:Int)+1)=(i+1:Nat):=wrap_i64 (by omega) (by omega);have hnx:=eB (g:=fun x=>!goF p it x) hx;generalize t[j]=x at hx hxR hg hnx;have hRd2:R.drop (j+1)=t.drop (j+1):=by rw [← List.drop_drop,← List.drop_drop,hRd]
   cases hb:goF p it x
   ·rw [hb] at hnx;have hJ:j+1≤t.length∧i+1<j+1∧(R.set i x).length=t.length∧(R.set i x).take (i+1)=(t.take (j+1)).filter (fun x=>!goF p it x)∧(R.set i x).drop (j+1)=t.drop (j+1):=by
     refine ⟨by omega,by omega,by simp [hRl],?_,?_⟩
     ·rw [hnx,List.take_add_one,List.getElem?_set_self (by omega),List.take_set,List.set_eq_of_length_le (by rw [List.length_take];omega),hRt];rfl
     ·rw [List.drop_set,if_pos (by omega),hRd2]
    have hb2:(aM p x.p || (it && x.p == p))=false:=hb;have hgi:=dD (t:=R) (k:=i) (List.getElem?_eq_getElem (by omega));generalize (R[i]'(by omega))=y at hgi;clear hnx hRt hRd hRd2 hx hxR hb
    repeat' (first|simp only [*,go_sem,Nat.reduceLT,Nat.reduceLeDiff,Nat.reduceEqDiff,↓reduceIte,Nat.reduceAdd,]|((with_reducible refine And.intro ?_ ?_);omega))
    refine aA.mono (zFq hp) ?_;rintro _ _ ⟨rfl,rfl⟩;rw [hb2]
    repeat' (first|simp only [*,go_sem,Nat.reduceLT,Nat.reduceLeDiff,Nat.reduceEqDiff,↓reduceIte,Nat.reduceAdd,]|((with_reducible refine And.intro ?_ ?_);omega))
    exact jC (j+1,i+1,R.set i x) hJ (by simp only;omega) (aJ rfl (by simp only [← pK];rfl) rfl (by simp [aH,aN,aD,aL,aG,cC]))
   ·rw [hb] at hnx;have hJ:j+1≤t.length∧i<j+1∧R.length=t.length∧R.take i=(t.take (j+1)).filter (fun x=>!goF p it x)∧R.drop (j+1)=t.drop (j+1):=⟨by omega,by omega,hRl,by rw [hnx,hRt];simp,hRd2⟩
    have hb2:(aM p x.p || (it && x.p == p))=true:=hb;clear hnx hRt hRd hRd2 hx hxR hb
    repeat' (first|simp only [*,go_sem,Nat.reduceLT,Nat.reduceLeDiff,Nat.reduceEqDiff,↓reduceIte,Nat.reduceAdd,]|((with_reducible refine And.intro ?_ ?_);omega))
    refine aA.mono (zFq hp) ?_;rintro _ _ ⟨rfl,rfl⟩;rw [hb2]
    repeat' (simp only [*,go_sem,Nat.reduceLT,Nat.reduceEqDiff,↓reduceIte,])
    exact jC (j+1,i,R) hJ (by simp only;omega) (aJ rfl rfl rfl (by simp [aH,aN,aD,aL,aG,cC]))
  ·have h1:decide ((j:Int)<(t.length:Int))=false:=decide_eq_false (by omega);have htt:t.take j=t:=List.take_of_length_le (by omega);rw [htt] at hRt;have hil:(t.filter fun x=>!goF p it x).length=i:=by
    rw [← hRt,List.length_take];omega
   have hli:(i:Int)≤(t.length:Int):=by omega
   have hi0:(0:Int)≤i:=by omega
   have hni:i+(t.length-i)=R.length:=by omega
   rw [hil] at hk;clear htt hRd hij
   repeat' (first|simp only [*,go_sem,Nat.reduceLT,Nat.reduceEqDiff,↓reduceIte,Nat.reduceAdd,Int.reduceLE,Int.reduceToNat,]|((with_reducible refine And.intro ?_ ?_);omega))
   all_goals first|refine hk _ ?_|refine ⟨by omega,hk _ ?_⟩
   all_goals exact List.take_left' (by simp [aZ,hil])
 ·have hself:t.filter (fun x=>!goF p it x)=t:=List.filter_eq_self.2 fun x hx=>by
   obtain ⟨j,hj,rfl⟩:=List.mem_iff_getElem.1 hx;rw [hbef j _ (List.getElem?_eq_getElem hj) hj];rfl
  rw [hself] at hk;clear hself
  repeat' (simp only [*,go_sem,Nat.reduceLT,Nat.reduceEqDiff,↓reduceIte,Int.reduceNeg,beq_self_eq_true])
  all_goals exact hk _ (List.take_of_length_le (by simp))
theorem zCp {t:List It} {p:List UInt8} {it:Bool} (hp:p.length≤1000000000) (ht:t.length≤1000000) (hd:∀ x∈t,x.n.d.length≤140737488355328):
  aA Tryz.prog 248 [.c (.p (.sl 5 (aZ t))),.c (.p (.s p)),.c (.p (.b it))] [] fun r h=>r=.c (.p (.sl 5 (aZ (t.filter fun x=>!goF p it x))))∧h=[]:=by
 have hc:=uF ht hd;refine ent aC aK Tryz.func248 rfl rfl fun X0 hX=>?_;simp only [Tryz.f248,go_sem]
 repeat' (first|simp only [*,go_sem,Nat.reduceLT,Nat.reduceEqDiff,↓reduceIte,Nat.reduceAdd,]|refine zCc hc rfl ?_)
 refine NS hp ht fun es hes=>?_
 repeat' (simp only [*,go_sem,Nat.reduceLT,↓reduceIte,])
 all_goals rw [hes]
theorem mR {t:List It} {p:List UInt8} (hp:p.length≤1000000000) (ht:t.length≤1000000) (hd:∀ x∈t,x.n.d.length≤140737488355328):
  aA Tryz.prog 187 [.c (.p (.sl 5 (aZ t))),.c (.p (.s p))] [] fun r h=>r=.c (.p (.sl 5 (aZ (bR t p))))∧h=[]:=by
 have hr:bR t p=t.filter fun x=>!goF p true x:=by
  rw [eW]
  congr 1
  funext x
  simp only [goF,Bool.true_and];cases aM p x.p <;> cases x.p == p <;> rfl
 have hw:=zCp (p:=p) (it:=true) hp ht hd;rw [← hr] at hw;refine ent aC aK Tryz.func187 rfl rfl fun X0 hX=>?_;simp only [Tryz.f187,go_sem]
 repeat' (first|simp only [*,go_sem,Nat.reduceLT,Nat.reduceEqDiff,↓reduceIte,]|((with_reducible refine cH (hw) ?_ ?_ ?_);exact rfl;exact fun _=>rfl))
theorem CI {t:List It} {p:List UInt8} (h:OkT t):aA Tryz.prog 179 [.c (.p (.sl 5 (aZ t))),.c (.p (.s p))] [] fun r h=>r=.c (.p (.sl 1 (Go.Dm.encS (gA t p))))∧h=[]:=by
 have hl:=h.len;have hpl:=h.plen;have hne:=h.ne;clear h;unfold gA;refine ent aC aK Tryz.func179 rfl rfl fun X0 hX=>?_;simp only [Tryz.f179,go_sem]
 repeat' (simp only [*,go_sem,Nat.reduceLT,Nat.reduceEqDiff,↓reduceIte,])
 refine DL aC aK 5 1 rfl ?_;refine bQ aC aK (α:=Nat × List (List UInt8)) (fun x=>⟨34,[(1,.c (.p (.s p))),(8,.c (.p (.sl 5 (aZ t)))),(9,.c (.p (.i .i64 t.length))),(10,.c (.p (.i .i64 x.1))),(5,.c (.own 0 0 x.2.length))],[.arr 1 (Go.Dm.encS x.2) false]⟩)
  (fun x=>x.1≤t.length∧x.2.length≤x.1∧(((t.take x.1).filter fun x=>aP x.p == p).map fun x=>sS x.p)=x.2) (fun x=>t.length-x.1) (0,[]) ⟨Nat.zero_le _,Nat.le_refl _,rfl⟩ (.inl (aJ (by rw [hX];rfl) rfl rfl (by simp [aH,aN,aD,aL,aG,BG]))) ?_
 rintro ⟨k,out⟩ ⟨hk,hol,hout⟩;simp only at hk hol hout;by_cases hlt:k<t.length
 ·have hx:t[k]? = some t[k]:=List.getElem?_eq_getElem hlt;have hg:=dD hx;have h1:decide ((k:Int)<(t.length:Int))=true:=decide_eq_true (by omega);have w1:IntKind.i64.wrap ((k:Int)+1)=k+1:=wrap_i64 (by omega) (by omega);have hnx:=eB (g:=fun x=>aP x.p == p) hx;have hxl:=hpl _ (List.getElem_mem hlt);have hxn:(t[k].p == [])=false:=by
   have:=hne _ (List.getElem_mem hlt);simpa using this
  generalize t[k]=x at hx hg hnx hxl hxn;cases hb:(aP x.p == p)
  ·have hJ:k+1≤t.length∧out.length≤k+1∧(((t.take (k+1)).filter fun x=>aP x.p == p).map fun x=>sS x.p)=out:=⟨by omega,by omega,by rw [hnx,hb,List.map_append,hout];simp⟩
   clear hnx hx hout hpl hne
   repeat' (first|simp only [*,go_sem,Nat.reduceLT,Nat.reduceLeDiff,Nat.reduceEqDiff,↓reduceIte,Nat.reduceAdd,]|((with_reducible refine aQ (dQ (by omega)) ?_ ?_ ?_);exact rfl;exact rfl)|((with_reducible refine And.intro ?_ ?_);omega))
   exact jC (k+1,out) hJ (by simp only;omega) (aJ rfl rfl rfl (by simp [aH,aN,aD,aL,aG,]))
  ·have hJ:k+1≤t.length∧(out++[sS x.p]).length≤k+1∧(((t.take (k+1)).filter fun x=>aP x.p == p).map fun x=>sS x.p)=out++[sS x.p]:=⟨by omega,by simp;omega,by rw [hnx,hb,List.map_append,hout];simp⟩
   clear hnx hx hout hpl hne
   repeat' (first|simp only [*,go_sem,Nat.reduceLT,Nat.reduceLeDiff,Nat.reduceEqDiff,↓reduceIte,Nat.reduceAdd,Nat.reduceBEq,]|((with_reducible refine aQ (dQ (by omega)) ?_ ?_ ?_);exact rfl;exact rfl)|((with_reducible refine aQ (SQ (by omega)) ?_ ?_ ?_);exact rfl;exact rfl)|((with_reducible refine And.intro ?_ ?_);((first|omega|decide))))
   exact zK (k+1,out++[sS x.p]) 0 3 hJ (by simp only;omega) rfl rfl (aJ rfl rfl rfl (by simp [aH,aN,aD,aL,aG,zBF,WC,zBD,]))
 ·have h1:decide ((k:Int)<(t.length:Int))=false:=decide_eq_false (by omega);rw [List.take_of_length_le (by omega)] at hout;unfold BD;rw [hout];have hsl:(out.mergeSort fun x y=>decide (x≤y)).length=out.length:=List.length_mergeSort ..;clear hout
  repeat' (first|simp only [*,go_sem,Nat.reduceLT,Nat.reduceEqDiff,↓reduceIte,List.set_cons_zero]|refine sort_k (id:=0) (ss:=out) (by rfl) (by omega) ?_)
  all_goals rw [List.take_of_length_le (by simp)]
def t3:List It:=[⟨[97],⟨2,493,0,[]⟩⟩,⟨[97,47,98],⟨1,0,0,[]⟩⟩,⟨[99],⟨2,493,0,[]⟩⟩]
end Go.Proofs.YtlbfnbldeefgmaaGreatDoor
end
