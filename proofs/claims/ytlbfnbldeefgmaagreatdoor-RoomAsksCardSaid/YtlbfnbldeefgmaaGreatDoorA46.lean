/- Part 47 of the proof of roomAsks_card, set without needless blanks. No condition. -/
import Derived.Test.YtlbfnbldeefgmaaGreatDoorA42
import Derived.Maps.RangeRun
set_option linter.all false
section
set_option maxRecDepth 100000
namespace Go.Dm
open Go
def Ctx.subC (X:Ctx) (tb:List Nat) (h0:aC):Ctx:=⟨X.w,X.S,fun i=>X.G (rn tb 0 i),h0⟩
def zKT (tb:List Nat) (h h0:aC):Bool:=Nat.beq tb.length h0.length && (nO tb && (tb.all (fun t=>Nat.blt t h.length) && h0.all (bN h0.length)))
section
variable {X:Ctx} {tb:List Nat} {h0:aC}
theorem HE (ht:AP tb X.h 0 h0):Pull X (X.subC tb h0) tb 0 :=
 ⟨rfl,rfl,fun i db hd hl=>by
  have:=ht.at_ hd hl
  rwa [Nat.zero_add] at this,fun i _=>rfl⟩
theorem zKj (hi:HInv X) (hb:zKT tb X.h h0=true) (ht:AP tb X.h 0 h0):HInv (X.subC tb h0):=by
 simp only [zKT,Bool.and_eq_true] at hb;obtain ⟨b1,b2,b3,b4⟩:=hb;have b1:=Nat.eq_of_beq_eq_true b1;exact hi.pull (HE ht) b4 fun i j db db' hd _ hd' _ he=>zEl (nP b2) (b1▸aM hd) (b1▸aM hd') he
theorem zHx (hi:HInv X) (hb:zKT tb X.h h0=true) (ht:AP tb X.h 0 h0) {Z:Ctx} (h2:HInv Z) (h3:Step (X.subC tb h0) Z):
  ∃ F:Ctx,F.w=Z.w∧F.h=fS tb X.h.length X.h tb Z.h∧HInv F∧Step X F∧Push Z F tb X.h.length∧h0.length≤Z.h.length:=by
 simp only [zKT,Bool.and_eq_true] at hb;obtain ⟨b1,b2,b3,b4⟩:=hb;have b1:=Nat.eq_of_beq_eq_true b1;have hnd:=nP b2;have hlt:∀ t∈tb,t<X.h.length:=fun t hm=>Nat.blt_eq.mp (List.all_eq_true.1 b3 t hm)
 let Y:Ctx:=⟨X.w,X.S,fun i=>X.G (rn tb 0 i),h0⟩
 have hp:Pull X Y tb 0:=HE ht;have hlen:h0.length≤Z.h.length:=h3.len;have hlen':tb.length≤Z.h.length:=by omega
 obtain ⟨q1,q2,q3,q4⟩:=zC (tb:=tb) (N:=X.h.length) (ts:=tb) (zs:=Z.h) (h:=X.h) hlen' hnd hlt
 let F:Ctx:=⟨Z.w,Z.S,fun j=>if j<X.h.length then (if j∈tb then Z.G (tb.idxOf j) else X.G j) else Z.G (tb.length+(j-X.h.length)),fS tb X.h.length X.h tb Z.h⟩
 have gat:∀ i,i<tb.length→∃ t,tb[i]? = some t∧rn tb X.h.length i=t∧t<X.h.length∧t∈tb∧tb.idxOf t=i:=fun i hi=>by
  have hm:tb[i]∈tb:=List.getElem_mem hi;exact ⟨tb[i],List.getElem?_eq_getElem hi,tZ hi,hlt _ hm,hm,hnd.idxOf_getElem i hi⟩
 have hpu:Push Z F tb X.h.length:=by
  refine ⟨rfl,rfl,fun i hi=>?_,fun i hi=>?_,fun i hi=>?_⟩
  ·show _<(fS tb X.h.length X.h tb Z.h).length;rw [q1];rcases Nat.lt_or_ge i tb.length with hlt2|hge
   ·obtain ⟨t,_,e2,e3,_⟩:=gat i hlt2;rw [e2];omega
   ·rw [MU hge];omega
  ·rcases Nat.lt_or_ge i tb.length with hlt2|hge
   ·obtain ⟨t,e1,e2,_⟩:=gat i hlt2;rw [e2];exact q3 i t e1
   ·rw [MU hge];have:=q4 (i-tb.length);rw [show tb.length+(i-tb.length)=i by omega] at this
    exact this
  ·rcases Nat.lt_or_ge i tb.length with hlt2|hge
   ·obtain ⟨t,_,e2,e3,e4,e5⟩:=gat i hlt2;rw [e2];show (if t<X.h.length then (if t∈tb then Z.G (tb.idxOf t) else X.G t) else _)=_
    rw [if_pos e3,if_pos e4,e5]
   ·rw [MU hge];show (if X.h.length+(i-tb.length)<X.h.length then _ else Z.G (tb.length+(X.h.length+(i-tb.length)-X.h.length)))=_
    rw [if_neg (by omega)]
    congr 1;omega
 have fo:∀ j,j<X.h.length→j ∉ tb→F.h[j]? = X.h[j]?∧F.G j=X.G j:=fun j hj hn=>⟨q2 j hj hn,by
  show (if j<X.h.length then (if j∈tb then Z.G (tb.idxOf j) else X.G j) else _)=_
  rw [if_pos hj,if_neg hn]⟩
 have fi:∀ j,j<F.h.length→(j<X.h.length∧j ∉ tb)∨∃ i,i<Z.h.length∧j=rn tb X.h.length i:=fun j hj=>by
  have hjl:j<X.h.length+(Z.h.length-tb.length):=by rw [← q1];exact hj
  by_cases hx:j<X.h.length
  ·by_cases hm:j∈tb
   ·have hx:=List.idxOf_lt_length_iff.2 hm;exact .inr ⟨tb.idxOf j,by omega,by rw [tZ hx,List.getElem_idxOf]⟩
   ·exact .inl ⟨hx,hm⟩
  ·exact .inr ⟨tb.length+(j-X.h.length),by omega,by rw [MU (by omega)];omega⟩
 have yx:∀ (k:Nat) (db:DB),Y.h[k]? = some db→db.live=true→X.h[rn tb 0 k]? = some (db.rn tb 0)∧rn tb 0 k∈tb:=fun k db hd hl=>by
  have hk:k<tb.length:=by have:=aM hd;simp only [Y] at this;omega
  exact ⟨hp.h k db hd hl,by rw [tZ hk];exact List.getElem_mem hk⟩
 have away:∀ (j:Nat) (db:DB) (g:Nat × Nat),X.h[j]? = some db→db.live=true→X.G j=some g→j ∉ tb→Z.w.heap[g.1]? = X.w.heap[g.1]? := fun j db g hd hl hg hn=>by
  refine h3.frame g.1 (hi.block_lt hd hl hg) fun k db' g' hd' hl' hf' hg' e=>?_;obtain ⟨e1,e2⟩:=yx k db' hd' hl';exact hn ((hi.inj (rn tb 0 k) _ j db g' g e1 (by rw [DB.rn_live];exact hl') (by rw [DB.rn_fix];exact hf') hd hl hg' hg e)▸e2)
 have hst:Step X F:=by
  refine ⟨h3.size,h3.os,h3.tape,h3.output,h3.kept,?_,fun j db' hj hd hl=>?_,fun b hb hno=>?_,fun j db g hd hl hf hg=>?_,fun b hb=>?_⟩
  ·show _≤(fS tb X.h.length X.h tb Z.h).length;rw [q1];omega
  ·by_cases hm:j∈tb
   ·have hx:=List.idxOf_lt_length_iff.2 hm;have hj':j=rn tb X.h.length (tb.idxOf j):=by rw [tZ hx,List.getElem_idxOf]
    have hj0:j=rn tb 0 (tb.idxOf j):=by rw [tZ hx,List.getElem_idxOf]
    rw [hj'] at hd;obtain ⟨db1,e1,e2⟩:=hpu.inv (i:=tb.idxOf j) (by omega) hd;subst e2;rw [DB.rn_live] at hl;obtain ⟨db0,k1,k2,k3,k4⟩:=h3.ids (tb.idxOf j) db1 (by show _<h0.length;omega) e1 hl;obtain ⟨e3,_⟩:=yx _ _ k1 k2.live;rw [← hj0] at e3;have hG:Z.G (tb.idxOf j)=X.G j:=by rw [k3];show X.G (rn tb 0 (tb.idxOf j))=_;rw [← hj0]
    refine ⟨_,e3,?_,?_,fun g hg=>k4 g ?_⟩
    ·exact k2.rn_lr
    ·have e5:=hpu.G (tb.idxOf j) (by omega);rw [← hj'] at e5;rw [e5,hG]
    ·show X.G (rn tb 0 (tb.idxOf j))=_;rw [← hj0];exact hg
   ·obtain ⟨e1,e2⟩:=fo j hj hm;rw [e1] at hd;refine ⟨db',hd,cD.refl hl,e2,fun g hg=>?_⟩;rw [show F.w.heap[g.1]? = X.w.heap[g.1]? from away j db' g hd hl hg hm]
    exact (hi.blk j db' hd).same hl g hg
  ·exact h3.frame b hb fun k db g hd hl hf hg=>by
    obtain ⟨e1,_⟩:=yx k db hd hl;exact hno _ _ g e1 (by rw [DB.rn_live];exact hl) (by rw [DB.rn_fix];exact hf) hg
  ·rcases fi j (aM hd) with ⟨f1,f2⟩|⟨i,f1,rfl⟩
   ·obtain ⟨e1,e2⟩:=fo j f1 f2;rw [e1] at hd;rw [e2] at hg;exact .inr ⟨j,db,g,hd,hl,hf,hg,rfl⟩
   ·obtain ⟨db1,e1,rfl⟩:=hpu.inv f1 hd;rw [hpu.G _ f1] at hg;rw [DB.rn_live] at hl;rw [DB.rn_fix] at hf;rcases h3.mine i db1 g e1 hl hf hg with h|⟨k,db0,g0,k1,k2,k3,k4,k5⟩
    ·exact .inl h
    ·obtain ⟨e3,_⟩:=yx k db0 k1 k2;exact .inr ⟨_,_,g0,e3,by rw [DB.rn_live];exact k2,by rw [DB.rn_fix];exact k3,k4,k5⟩
  ·rcases h3.upper b hb with h|h|⟨k,db0,g0,k1,k2,k4,k5⟩
   ·exact .inl h
   ·exact .inr (.inl h)
   ·obtain ⟨e3,_⟩:=yx k db0 k1 k2;exact .inr (.inr ⟨_,_,g0,e3,by rw [DB.rn_live];exact k2,k4,k5⟩)
 have noS:∀ (j:Nat) (db:DB) (g:Nat × Nat),X.h[j]? = some db→db.live=true→db.fix=false→X.G j=some g→j ∉ tb→¬ Z.S g.1:=fun j db g hd hl hf hg hn hS=>by
  rcases h3.upper g.1 hS with h|h|⟨k,db0,g0,k1,k2,k4,k5⟩
  ·exact (hi.own j db g hd hl hg).1 hf h
  ·have h6:=hi.block_lt hd hl hg;have h7:(X.subC tb h0).w.heap.size=X.w.heap.size:=rfl;omega
  ·obtain ⟨e1,e2⟩:=yx k db0 k1 k2;exact hn ((hi.inj j db (rn tb 0 k) _ g g0 hd hl hf e1 (by rw [DB.rn_live];exact k2) hg k4 k5.symm)▸e2)
 have hiF:HInv F:=by
  refine ⟨h2.slt,fun j db hd=>?_,fun j db g hd hl hg=>?_,fun j db j' db' g g' hd hl hf hd' hl' hg hg' he=>?_⟩
  ·rcases fi j (aM hd) with ⟨f1,f2⟩|⟨i,f1,rfl⟩
   ·obtain ⟨e1,e2⟩:=fo j f1 f2;rw [e1] at hd;by_cases hl:db.live=true
    ·exact (hi.blk j db hd).move hst e2 fun g hg=>away j db g hd hl hg f2
    ·cases db <;> simp_all [DB.live,dU]
   ·obtain ⟨db1,e1,rfl⟩:=hpu.inv f1 hd;exact dU.push hpu f1 (h2.blk i db1 e1)
  ·rcases fi j (aM hd) with ⟨f1,f2⟩|⟨i,f1,rfl⟩
   ·obtain ⟨e1,e2⟩:=fo j f1 f2;rw [e1] at hd;rw [e2] at hg;exact ⟨fun hf=>noS j db g hd hl hf hg f2,fun hf=>(h3.kept _ ((hi.own j db g hd hl hg).2 hf)).1⟩
   ·obtain ⟨db1,e1,rfl⟩:=hpu.inv f1 hd;rw [hpu.G _ f1] at hg;rw [DB.rn_live] at hl;rw [DB.rn_fix];exact h2.own i db1 g e1 hl hg
  ·
   have cross:∀ (j:Nat) (db:DB) (g:Nat × Nat) (i:Nat) (db1:DB) (g1:Nat × Nat),X.h[j]? = some db→db.live=true→X.G j=some g→j ∉ tb→Z.h[i]? = some db1→db1.live=true→Z.G i=some g1→g.1=g1.1→(db.fix=false∨db1.fix=false)→False:=by
    intro j db g i db1 g1 k1 k2 k3 k4 k5 k6 k7 k8 k9;by_cases hf1:db1.fix=false
    ·rcases h3.mine i db1 g1 k5 k6 hf1 k7 with h|⟨k,db0,g0,m1,m2,m3,m4,m5⟩
     ·have h6:=hi.block_lt k1 k2 k3;have h7:(X.subC tb h0).w.heap.size=X.w.heap.size:=rfl;omega
     ·obtain ⟨e1,e2⟩:=yx k db0 m1 m2;exact k4 ((hi.inj (rn tb 0 k) _ j db g0 g e1 (by rw [DB.rn_live];exact m2) (by rw [DB.rn_fix];exact m3) k1 k2 m4 k3 (m5.trans k8.symm))▸e2)
    ·have hS:=(h2.own i db1 g1 k5 k6 k7).2 (by simpa using hf1);rw [← k8] at hS;rcases k9 with k9|k9
     ·exact noS j db g k1 k2 k9 k3 k4 hS
     ·exact hf1 k9
   rcases fi j (aM hd) with ⟨f1,f2⟩|⟨i,f1,rfl⟩ <;> rcases fi j' (aM hd') with ⟨f1',f2'⟩|⟨i',f1',rfl⟩
   ·obtain ⟨e1,e2⟩:=fo j f1 f2;obtain ⟨e1',e2'⟩:=fo j' f1' f2';rw [e1] at hd;rw [e2] at hg;rw [e1'] at hd';rw [e2'] at hg';exact hi.inj j db j' db' g g' hd hl hf hd' hl' hg hg' he
   ·obtain ⟨e1,e2⟩:=fo j f1 f2;rw [e1] at hd;rw [e2] at hg;obtain ⟨db1,e3,rfl⟩:=hpu.inv f1' hd';rw [hpu.G _ f1'] at hg';rw [DB.rn_live] at hl';exact (cross j db g i' db1 g' hd hl hg f2 e3 hl' hg' he (.inl hf)).elim
   ·obtain ⟨e1',e2'⟩:=fo j' f1' f2';rw [e1'] at hd';rw [e2'] at hg';obtain ⟨db1,e3,rfl⟩:=hpu.inv f1 hd;rw [hpu.G _ f1] at hg;rw [DB.rn_live] at hl;rw [DB.rn_fix] at hf;exact (cross j' db' g' i db1 g hd' hl' hg' f2' e3 hl hg he.symm (.inr hf)).elim
   ·obtain ⟨db1,e3,rfl⟩:=hpu.inv f1 hd;rw [hpu.G _ f1] at hg;rw [DB.rn_live] at hl;rw [DB.rn_fix] at hf;obtain ⟨db2,e4,rfl⟩:=hpu.inv f1' hd';rw [hpu.G _ f1'] at hg';rw [DB.rn_live] at hl';rw [h2.inj i db1 i' db2 g g' e3 hl hf e4 hl' hg hg' he]
 exact ⟨F,rfl,rfl,hiF,hst,hpu,hlen⟩
end
def DS.rnF (s:DS) (tb:List Nat) (h:aC):DS:=⟨s.n,s.t.map fun p=>(p.1,p.2.rn tb h.length),fS tb h.length h tb s.h⟩
theorem WE (tb:List Nat) (N:Nat):∀ (t:Fr) (i:Nat),look (t.map fun p=>(p.1,p.2.rn tb N)) i=(look t i).rn tb N
 | [],_=>rfl
 | p::t,i=>by
  simp only [List.map_cons,look];split
  ·rfl
  ·exact WE tb N t i
end Go.Dm
end
section
set_option maxRecDepth 100000
namespace Go.Dm
open Go
structure ItAt (b m:Nat) (ms:Array MapEntry) (c since:Nat) (es:List (Int × PV)) (k:Array Nat × Nat) (X:Ctx):Prop where
 ab:mR X b
 am:mR X m
 ne:b≠m
 it:X.w.heap[b]? = some (.mapIter (some m) since k.1 k.2)
 mp:X.w.heap[m]? = some (.map ms c)
 rel:wM X.w X.S es ms.toList
theorem ItAt.step {b m:Nat} {ms:Array MapEntry} {c since:Nat} {es:List (Int × PV)} {k:Array Nat × Nat} {X X':Ctx} (h:ItAt b m ms c since es k X) (hi':HInv X') (hs:Step X X'):ItAt b m ms c since es k X':=by
 obtain ⟨h1,h2⟩:=h.ab.step hi' hs;obtain ⟨h3,h4⟩:=h.am.step hi' hs;exact ⟨h1,h3,h.ne,h2.trans h.it,h4.trans h.mp,h.rel.kept hs.kept⟩
theorem ItAt.cut {b m:Nat} {ms:Array MapEntry} {c since:Nat} {es:List (Int × PV)} {k:Array Nat × Nat} {X:Ctx} (h:ItAt b m ms c since es k X) (n:Nat):ItAt b m ms c since es k (X.cut n) :=
 ⟨h.ab.cut n,h.am.cut n,h.ne,h.it,h.mp,h.rel⟩
section rules
variable {P:Program} {T:Tab} {X0:Ctx} {b m:Nat} {ms:Array MapEntry} {c since:Nat} {es:List (Int × PV)}
def zMG (b m:Nat) (ms:Array MapEntry) (c since:Nat) (es:List (Int × PV)) (X0:Ctx) (Q:Array Nat × Nat→Exit→DS→Prop):Exit→Act→World→Prop:=fun e a w =>
 ∃ s X k,Q k e s∧X.w=w∧X.h=s.h∧HInv X∧Step X0 X∧TInv X s a∧ItAt b m ms c since es k X
def PM (P:Program) (b m:Nat) (ms:Array MapEntry) (c since:Nat) (es:List (Int × PV)) (X0:Ctx) (cd:Code) (s:DS) (k:Array Nat × Nat) (Q:Array Nat × Nat→Exit→DS→Prop):Prop :=
 Gnd P X0→X0.w.heap.size≤b→∀ (X:Ctx) (a:Act),X.h=s.h→HInv X→Step X0 X→TInv X s a→ItAt b m ms c since es k X→cd.wp P (zMG b m ms c since es X0 Q) a X.w
def qit (P:Program) (b m:Nat) (ms:Array MapEntry) (c since:Nat) (es:List (Int × PV)) (X0:Ctx) (y:Code) (k:Array Nat × Nat) (Q:Array Nat × Nat→Exit→DS→Prop):Exit→DS→Prop:=fun e s'=>match e with
 | .normal=>PM P b m ms c since es X0 y s' k Q
 | e=>Q k e s'
variable {s:DS} {k:Array Nat × Nat} {Q:Array Nat × Nat→Exit→DS→Prop}
theorem zMz {y:Code} {s:DS}:qit P b m ms c since es X0 y k Q .normal s=PM P b m ms c since es X0 y s k Q:=nr rfl
theorem qi_r {y:Code} {s:DS}:qit P b m ms c since es X0 y k Q .ret s=Q k .ret s:=nr rfl
theorem qi_e {y:Code} {id:Nat} {s:DS}:qit P b m ms c since es X0 y k Q (.exit id) s=Q k (.exit id) s:=nr rfl
theorem zKo {cd:Code} (h:∀ X1:Ctx,X1.h=s.h→SWP P X1 cd s (Q k)):PM P b m ms c since es X0 cd s k Q:=fun gd _ X a hh hi hs ht ha =>
 wp_mono (h X hh (gd.step hs) X a hh hi (Step.refl hi) ht) fun e a w ⟨s',X',h1,h2,h3,h4,h5,h6⟩ =>
  ⟨s',X',k,h1,h2,h3,h4,hs.trans hi h5,h6,ha.step h4 h5⟩
theorem TD (hT:bD P T) (hm:P.follows .mixedOrders=true) {cd:Code} (h:∀ X1:Ctx,X1.h=s.h→vc P T X1 cd s (Q k)):PM P b m ms c since es X0 cd s k Q :=
 zKo fun X1 h1=>dG hT hm cd (h X1 h1)
theorem HG {x y:Code} (h:PM P b m ms c since es X0 x s k fun k'=>qit P b m ms c since es X0 y k' Q):PM P b m ms c since es X0 (.seq x y) s k Q:=by
 intro gd hb X a hh hi hs ht ha;refine wp_seq (wp_mono (h gd hb X a hh hi hs ht ha) fun e a w hp=>?_);obtain ⟨s',X',k,h1,rfl,h3,h4,h5,h6,h7⟩:=hp;cases e <;> simp only [Exit.then,qit] at h1 ⊢
 case normal=>exact h1 gd hb X' a h3 h4 h5 h6 h7
 all_goals exact ⟨s',X',k,h1,rfl,h3,h4,h5,h6,h7⟩
theorem zAI (hT:bD P T) (hm:P.follows .mixedOrders=true) {x y:Code} (h:∀ X1:Ctx,X1.h=s.h→vc P T X1 x s (qit P b m ms c since es X0 y k Q)):PM P b m ms c since es X0 (.seq x y) s k Q :=
 HG (TD hT hm h)
theorem DP {id:Nat} {cd:Code} (h:PM P b m ms c since es X0 cd s k fun k'=>kZ id (Q k')):PM P b m ms c since es X0 (.block id cd) s k Q:=by
 intro gd hb X a hh hi hs ht ha;refine wp_block (wp_mono (h gd hb X a hh hi hs ht ha) fun e a w hp=>?_);obtain ⟨s',X',k,h1,rfl,h3,h4,h5,h6,h7⟩:=hp;cases e <;> simp only [Exit.inBlock,kZ] at h1 ⊢
 case exit id' =>
  split
  ·rename_i he;rw [if_pos he] at h1;exact ⟨s',X',k,h1,rfl,h3,h4,h5,h6,h7⟩
  ·rename_i he;rw [if_neg he] at h1;exact ⟨s',X',k,h1,rfl,h3,h4,h5,h6,h7⟩
 all_goals exact ⟨s',X',k,h1,rfl,h3,h4,h5,h6,h7⟩
theorem zEC {cd:Code} {Q':Exit→DS→Prop} (h:PM P b m ms c since es X0 cd s k fun _=>Q'):Gnd P X0→X0.w.heap.size≤b→∀ (X:Ctx) (a:Act),X.h=s.h→HInv X→Step X0 X→TInv X s a→ItAt b m ms c since es k X→cd.wp P (zAT X0 Q') a X.w:=fun gd hb X a hh hi hs ht ha =>
 wp_mono (h gd hb X a hh hi hs ht ha) fun _ _ _ ⟨s',X',_,h1,h2,h3,h4,h5,h6,_⟩=>⟨s',X',h1,h2,h3,h4,h5,h6⟩
theorem EC.useI {n0:Nat} {s s':DS} (h:EC n0 s s') {X0 X:Ctx} {a:Act} (hn:X0.h.length=n0) (hh:X.h=s.h) (hi:HInv X) (hs:Step X0 X) (ht:TInv X s a) (ha:ItAt b m ms c since es k X):∃ X',X'.w=X.w∧X'.h=s'.h∧HInv X'∧Step X0 X'∧TInv X' s' a∧ItAt b m ms c since es k X':=by
 obtain ⟨h0,h1,h2,h3,h4⟩:=h;have hcut:(X.cut s'.h.length).h=s'.h:=by simp only [Ctx.cut];rw [hh];exact h2.symm
 refine ⟨X.cut s'.h.length,rfl,hcut,hi.cut (by rw [hh,← h2];exact h3),hs.cut (by omega),⟨ht.size.trans h0.symm,fun i=>?_,ht.defs⟩,ha.cut _⟩;rcases h4.look i with h5|⟨h5,h6⟩
 ·rw [h5];exact True.intro
 ·have:=ht.rel i;rw [← h5] at this;exact this.cut h6
def MG {α:Type} (n0:Nat) (I:α→DS) (Kf:α→Array Nat × Nat) (J:α→Prop) (μ:α→Nat) (x:α) (Q:Array Nat × Nat→Exit→DS→Prop) (k:Array Nat × Nat):Exit→DS→Prop:=fun e s'=>match e with
 | .normal=>∃ y,J y∧μ y < μ x∧k=Kf y∧EC n0 s' (I y)
 | e=>Q k e s'
theorem zEE {α:Type} {cd:Code} (I:α→DS) (Kf:α→Array Nat × Nat) (J:α→Prop) (μ:α→Nat) (x0:α) (hJ:J x0) (hk:k=Kf x0) (hw:EC X0.h.length s (I x0))
  (h:∀ x,J x→PM P b m ms c since es X0 cd (I x) (Kf x) (MG X0.h.length I Kf J μ x Q)):PM P b m ms c since es X0 (.loop cd) s k Q:=by
 intro gd hb X a hh hi hs ht ha;obtain ⟨X',h1,h2,h3,h4,h5,h6⟩:=hw.useI rfl hh hi hs ht ha;rw [← h1];refine wp_loop_ghost (fun n a w=>∃ x X,μ x=n∧J x∧X.w=w∧X.h=(I x).h∧HInv X∧Step X0 X∧TInv X (I x) a∧ItAt b m ms c since es (Kf x) X) (μ x0) ⟨x0,X',rfl,hJ,rfl,h2,h3,h4,h5,hk▸h6⟩ ?_;rintro n a' w' ⟨x,Y,rfl,k1,rfl,k2,k3,k4,k5,k6⟩;refine wp_mono (h x k1 gd hb Y a' k2 k3 k4 k5 k6) fun e a w hp=>?_;obtain ⟨s',Z,k,p1,rfl,p3,p4,p5,p6,p7⟩:=hp;cases e <;> simp only [Exit.then,MG] at p1 ⊢
 case normal =>
  obtain ⟨y,q1,q2,rfl,q3⟩:=p1;obtain ⟨Z',r1,r2,r3,r4,r5,r6⟩:=q3.useI rfl p3 p4 p5 p6 p7;exact ⟨μ y,q2,y,Z',rfl,q1,r1,r2,r3,r4,r5,r6⟩
 all_goals exact ⟨s',Z,k,p1,rfl,p3,p4,p5,p6,p7⟩
theorem zNd {α:Type} {n0:Nat} {I:α→DS} {Kf:α→Array Nat × Nat} {J:α→Prop} {μ:α→Nat} {x:α} {s:DS} (y:α) (h1:J y) (h2:μ y < μ x) (h3:k=Kf y) (h4:EC n0 s (I y)):MG n0 I Kf J μ x Q k .normal s:=⟨y,h1,h2,h3,h4⟩
theorem zNe {α:Type} {n0:Nat} {I:α→DS} {Kf:α→Array Nat × Nat} {J:α→Prop} {μ:α→Nat} {x:α} {s:DS}:MG n0 I Kf J μ x Q k .ret s=Q k .ret s:=nr rfl
theorem zNc {α:Type} {n0:Nat} {I:α→DS} {Kf:α→Array Nat × Nat} {J:α→Prop} {μ:α→Nat} {x:α} {id:Nat} {s:DS}:MG n0 I Kf J μ x Q k (.exit id) s=Q k (.exit id) s:=nr rfl
theorem ItAt.turn {X:Ctx} {k k':Array Nat × Nat} (h:ItAt b m ms c since es k X) (hi:HInv X) {w1:World} (hw:w1=X.w∨w1=X.w.drew):∃ X',X'.w = { w1 with heap:=w1.heap.setIfInBounds b (.mapIter (some m) since k'.1 k'.2) }∧X'.h=X.h∧HInv X'∧(∀ X0:Ctx,X0.w.heap.size≤b→Step X0 X→Step X0 X')∧(∀ s a,TInv X s a→TInv X' s a)∧ItAt b m ms c since es k' X':=by
 have hd:∃ X1:Ctx,X1.w=w1∧X1.h=X.h∧HInv X1∧Step X X1:=by
  rcases hw with rfl|rfl
  ·exact ⟨X,rfl,rfl,hi,Step.refl hi⟩
  ·exact ⟨X.at_ X.w.drew,rfl,rfl,HInv.alike hi ⟨rfl,rfl,rfl,⟨rfl,Nat.le_succ _⟩⟩,Step.alike hi ⟨rfl,rfl,rfl,⟨rfl,Nat.le_succ _⟩⟩⟩
 obtain ⟨X1,e1,e2,h1,h2⟩:=hd;have ha:=h.step h1 h2;refine ⟨X1.setB b (.mapIter (some m) since k'.1 k'.2),by rw [← e1];rfl,e2,h1.setB ha.ab,fun X0 hb hs=>(hs.trans hi h2).setB hb ha.ab,fun s a ht=>TInv.setB ha.ab (ht.step h2),?_⟩
 have hlt:b<X1.w.heap.size:=ha.ab.1;refine ⟨ha.ab.setB,?_,ha.ne,?_,?_,ha.rel.kept (jI ha.ab)⟩
 ·exact ⟨by show m<(X1.w.heap.setIfInBounds b _).size;rw [Array.size_setIfInBounds];exact ha.am.1,ha.am.2⟩
 ·show (X1.w.heap.setIfInBounds b _)[b]? = _;rw [Array.getElem?_setIfInBounds_self_of_lt hlt]
 ·rw [lX (show m≠b from fun e=>ha.ne e.symm)]
  exact ha.mp
theorem wM.at_ {w:World} {S:Nat→Prop}:∀ {es:List (Int × PV)} {l:List MapEntry} {j:Nat} {e:MapEntry},wM w S es l→l[j]? = some e→∃ y,es[j]? = some y∧e.key=.int .i64 y.1∧cT w S y.2 e.val
 | [],[],j,e,_,h=>by simp at h
 | y::es,e0::l,0,e,hr,h=>by
  simp only [List.getElem?_cons_zero,Option.some.injEq] at h;subst h;exact ⟨y,rfl,hr.1.1,hr.1.2⟩
 | y::es,e0::l,j+1,e,hr,h=>by
  simp only [List.getElem?_cons_succ] at h ⊢;exact wM.at_ hr.2 h
 | [],_::_,_,_,hr,_=>hr.elim
 | _::_,[],_,_,hr,_=>hr.elim
theorem zEF (hT:bD P T) {id:Nat} {o:Oper} {l2:List Oper} {it:Operand} {i n0:Nat} {t0:Fr} {h0:aC} (ho:o.op=.next it false) (hg:o.guard=none) (hd:o.dst=some i) (hin:i<n0)
  (hit:evD t0 it=.c (.p (.o (.pointer (some ⟨b,0,none⟩))))) (hold:∀ x∈ms.toList,x.born<since) (hsc:since≤k.2)
  (hz:(leftOf ms k.1).size=0→∀ K:DS→Prop,(∀ s2,Q k .normal s2→K s2)→hZ P T (o::l2).toArray l2 ⟨n0,(i,.tup [.c (.p (.b false))])::t0,h0⟩ K)
  (h1:∀ (j:Nat) (e:MapEntry) (y:Int × PV),ms.toList[j]? = some e→es[j]? = some y→k.1.contains e.born=false→∀ K:DS→Prop,(∀ s2,Q (k.1.push e.born,c) .normal s2→K s2)→hZ P T (o::l2).toArray l2 ⟨n0,(i,.tup [.c (.p (.b true)),.c (.p (.i .i64 y.1)),.c (.p y.2)])::t0,h0⟩ K):
  PM P b m ms c since es X0 (.region id (o::l2).toArray false) ⟨n0,t0,h0⟩ k Q:=by
 intro gd hb X a hh hi hs ht ha;refine wp_region_list ?_;show wpList P _ _ (o::l2) a X.w;refine wpList_plain hg fun K hK=>?_;unfold Oper.wp execOp;rcases run_next_at (P:=P) X.w o.type b m since k.2 k.1 ms c ha.it ha.mp hold hsc with ⟨e0,hrun⟩|⟨e,he,w1,hal,hrun⟩
 ·simp only [ho,KJ ht hit,Sem.run_bind,hrun,Result.andThen_ok,Sem.run_pure];rw [Oper.upon_value];refine hK _ _ ?_;rw [← List.append_nil l2];refine fB hT (gd.step hs) l2 (s:=⟨n0,(i,.tup [.c (.p (.b false))])::t0,h0⟩) hh hi (Step.refl hi) ?_ (by rw [List.append_nil];exact hz e0 _ fun s2 hs2 X2 a2 hh2 hi2 hst2 ht2=>wpList_nil ⟨s2,X2,k,hs2,rfl,hh2,hi2,hs.trans hi hst2,ht2,ha.step hi2 hst2⟩);have:=ht.put (d:=.tup [.c (.p (.b false))]) (v:=.tuple #[.bool false]) ⟨[.bool false],rfl,rfl,True.intro⟩ o.dst h0;rw [hd,show (⟨n0,t0,h0⟩:DS).put (some i) (.tup [.c (.p (.b false))]) h0=⟨n0,(i,.tup [.c (.p (.b false))])::t0,h0⟩ from if_pos hin] at this
  rw [hd];exact this
 ·obtain ⟨hem,hes⟩:=mem_left he;obtain ⟨j,hj⟩:=List.mem_iff_getElem?.1 hem;obtain ⟨y,hy,hk1,hk2⟩:=ha.rel.at_ hj;obtain ⟨X1,r1,r2,r3,r4,r5,r6⟩:=ha.turn (k':=(k.1.push e.born,c)) hi hal;simp only [ho,KJ ht hit,Sem.run_bind,hrun,Result.andThen_ok,Sem.run_pure];rw [Oper.upon_value];refine hK _ _ ?_;have hw1:ChangeMaps.setBlock w1 b (.mapIter (some m) since (k.1.push e.born) c)=X1.w:=by rw [r1];rfl
  rw [hw1];rw [← List.append_nil l2];have hs1:=r4 X0 hb hs;refine fB hT (gd.step hs1) l2 (s:=⟨n0,(i,.tup [.c (.p (.b true)),.c (.p (.i .i64 y.1)),.c (.p y.2)])::t0,h0⟩) (r2.trans hh) r3 (Step.refl r3) ?_ (by rw [List.append_nil];exact h1 j e y hj hy hes _ fun s2 hs2 X2 a2 hh2 hi2 hst2 ht2=>wpList_nil ⟨s2,X2,_,hs2,rfl,hh2,hi2,hs1.trans r3 hst2,ht2,r6.step hi2 hst2⟩);obtain ⟨y',hy',_,hk3⟩:=r6.rel.at_ hj;rw [hy] at hy';cases hy';have:=(r5 _ _ ht).put (d:=.tup [.c (.p (.b true)),.c (.p (.i .i64 y.1)),.c (.p y.2)]) (v:=.tuple #[.bool true,e.key,e.val]) ⟨[.bool true,e.key,e.val],rfl,rfl,hk1,hk3,True.intro⟩ o.dst h0;rw [hd,show (⟨n0,t0,h0⟩:DS).put (some i) (.tup [.c (.p (.b true)),.c (.p (.i .i64 y.1)),.c (.p y.2)]) h0=⟨n0,(i,.tup [.c (.p (.b true)),.c (.p (.i .i64 y.1)),.c (.p y.2)])::t0,h0⟩ from if_pos hin] at this
  rw [hd];exact this
theorem zAH (hT:bD P T) {id:Nat} {o:Oper} {l2:List Oper} {it:Operand} {i n0:Nat} {t0:Fr} {h0:aC} {seen:Array Nat} {j:Nat} {e:MapEntry} {y:Int × PV} (ho:o.op=.entry it) (hg:o.guard=none) (hd:o.dst=some i) (hin:i<n0)
  (hit:evD t0 it=.c (.p (.o (.pointer (some ⟨b,0,none⟩))))) (hk:k=(seen.push e.born,c)) (hj:ms.toList[j]? = some e) (hy:es[j]? = some y) (hn:(ms.toList.map (·.born)).Nodup)
  (h1:∀ K:DS→Prop,(∀ s2,Q k .normal s2→K s2)→hZ P T (o::l2).toArray l2 ⟨n0,(i,.tup [.c (.p (.i .i64 y.1)),.c (.p y.2)])::t0,h0⟩ K):
  PM P b m ms c since es X0 (.region id (o::l2).toArray false) ⟨n0,t0,h0⟩ k Q:=by
 intro gd hb X a hh hi hs ht ha;refine wp_region_list ?_;show wpList P _ _ (o::l2) a X.w;refine wpList_plain hg fun K hK=>?_;unfold Oper.wp execOp;have hit2:=ha.it;rw [hk] at hit2;have hrun:=run_entry_at (P:=P) X.w b m since seen ms c e hit2 ha.mp (List.mem_of_getElem? hj) hn;simp only [ho,KJ ht hit,Sem.run_bind,hrun,Result.andThen_ok,Sem.run_pure];rw [Oper.upon_value];refine hK _ _ ?_;obtain ⟨y',hy',hk1,hk3⟩:=ha.rel.at_ hj;rw [hy] at hy';cases hy';rw [← List.append_nil l2];refine fB hT (gd.step hs) l2 (s:=⟨n0,(i,.tup [.c (.p (.i .i64 y.1)),.c (.p y.2)])::t0,h0⟩) hh hi (Step.refl hi) ?_ (by rw [List.append_nil];exact h1 _ fun s2 hs2 X2 a2 hh2 hi2 hst2 ht2=>wpList_nil ⟨s2,X2,k,hs2,rfl,hh2,hi2,hs.trans hi hst2,ht2,ha.step hi2 hst2⟩);have:=ht.put (d:=.tup [.c (.p (.i .i64 y.1)),.c (.p y.2)]) (v:=.tuple #[e.key,e.val]) ⟨[e.key,e.val],rfl,hk1,hk3,True.intro⟩ o.dst h0;rw [hd,show (⟨n0,t0,h0⟩:DS).put (some i) (.tup [.c (.p (.i .i64 y.1)),.c (.p y.2)]) h0=⟨n0,(i,.tup [.c (.p (.i .i64 y.1)),.c (.p y.2)])::t0,h0⟩ from if_pos hin] at this
 rw [hd];exact this
theorem zED (hT:bD P T) {id:Nat} {l:List Oper} (n:Nat) {o:Oper} {t kt et:TypeId} {x:Operand} {i n0 mid:Nat} {t0:Fr} {h0:aC} {y:Code} {Q:Exit→DS→Prop} (tb:List Nat) (hs:aC) (ts:Fr) (es:List (Int × PV))
  (hl:l.drop n=[o]) (ho:o.op=.range t x) (hg:o.guard=none) (hd:o.dst=some i) (hu:P.underlying t=some (.map kt et)) (hmid:mid ∉ tb)
  (h:∀ K:DS→Prop,(∀ n' t' h',i<n'→evD t' x=.c (.mp mid)→h'[mid]? = some (.mp es)→zKT tb h' hs=true→AP tb h' 0 hs→WkP tb hs.length t' ts →
   (∀ b m ms c es' Y0,es'.Perm es→(es'.map (·.1)).Nodup→es'.length=ms.toList.length→zAS ms.toList c→Y0.h=hs→PM P b m ms c c es' Y0 y ⟨n',(i,.c (.p (.o (.pointer (some ⟨b,0,none⟩)))))::ts,hs⟩ (#[],c) (fun _ e s'=>Q e (s'.rnF tb h')))→K ⟨n',t',h'⟩)→hZ P T l.toArray (l.take n) ⟨n0,t0,h0⟩ K):
  SWP P X0 (.seq (.region id l.toArray false) y) ⟨n0,t0,h0⟩ Q:=by
 intro gd X a hh hi hs0 hti;refine wp_seq (wp_region_list ?_);rw [show l.toArray.toList=l.take n++[o] by rw [← hl];simp]
 refine fB hT (gd.step hs0) (l.take n) hh hi (Step.refl hi) hti (h _ fun n' t' h' hin he hmp hb htb hwk hy=>?_);intro X' a' hh' hi' hst ht';have hh':X'.h=h':=hh';subst hh';have hev:=ht'.ev x;rw [show (⟨n',t',X'.h⟩:DS).t=t' from rfl,he] at hev
 simp only [bA,bS] at hev;obtain ⟨g,hG,hve⟩:=hev.2.2 _ hmp;have hbk:=hi'.blk mid _ hmp;simp only [dU] at hbk;obtain ⟨g',ms,c,q1,q2,⟨es',hpm,hnd,q3⟩,q4⟩:=hbk;rw [hG] at q1;cases q1;have hr:=run_range_map (P:=P) X'.w t kt et g.1 ms c hu q2;refine wpList_plain hg fun K hK=>?_;unfold Oper.wp execOp;simp only [ho,hve,Sem.run_bind,hr,Result.andThen_ok,Sem.run_pure];rw [Oper.upon_value];refine hK _ _ (wpList_nil ?_);show y.wp P (zAT X0 Q) _ _;have hiY:=zKj hi' hb htb;have hgr:Grew (X'.subC tb hs).w (X'.w.alloc (.mapIter (some g.1) c #[] c)) (.mapIter (some g.1) c #[] c):=Grew.alloc X'.w _;obtain ⟨k1,k2,k3⟩:=WG hiY hgr;have htY:TInv (X'.subC tb hs) ⟨n',ts,hs⟩ a':=⟨ht'.size,fun i=>by
  rcases hwk.look i with h7|⟨h7,h8⟩
  ·show bA _ (look ts i) _;rw [h7];exact True.intro
  ·have:=ht'.rel i;rw [show (⟨n',t',X'.h⟩:DS).t=t' from rfl,h7] at this
   exact bA.pull (HE htb) h8 this,ht'.defs⟩
 have htY1:=(htY.step k2).put (d:=.c (.p (.o (.pointer (some ⟨X'.w.heap.size,0,none⟩))))) (v:=.pointer (some ⟨X'.w.heap.size,0,none⟩)) ⟨rfl,rfl⟩ o.dst hs;rw [hd,show (⟨n',ts,hs⟩:DS).put (some i) (.c (.p (.o (.pointer (some ⟨X'.w.heap.size,0,none⟩))))) hs=⟨n',(i,.c (.p (.o (.pointer (some ⟨X'.w.heap.size,0,none⟩)))))::ts,hs⟩ from if_pos hin] at htY1
 rw [hd];have hmlt:=hi'.block_lt hmp rfl hG;have hit:ItAt X'.w.heap.size g.1 ms c c es' (#[],c) ((X'.subC tb hs).at_ (X'.w.alloc (.mapIter (some g.1) c #[] c))):=by
  refine ⟨k3,⟨?_,(hi'.own mid _ g hmp rfl hG).1 rfl,fun id db g2 hdb hlv hg2 e=>?_⟩,fun e=>by omega,hgr.new,(hgr.old hmlt).trans q2,q3.kept k2.kept⟩
  ·have:=k2.size;show g.1<(X'.w.alloc _).heap.size;rw [hgr.size];exact Nat.lt_succ_of_lt hmlt
  ·have hat:=htb.at_ hdb hlv;rw [Nat.zero_add] at hat;have hlt2:id<tb.length:=by
    have h1:=aM hdb;have hb2:=hb;simp only [zKT,Bool.and_eq_true] at hb2;rw [Nat.eq_of_beq_eq_true hb2.1];exact h1
   have:=hi'.inj mid _ (rn tb 0 id) _ g g2 hmp rfl rfl hat (by rw [DB.rn_live];exact hlv) hG hg2 e.symm;rw [tZ hlt2] at this;exact hmid (this▸List.getElem_mem hlt2)
 have gx:Gnd P X':=(gd.step hs0).step hst;have gy:Gnd P (X'.subC tb hs):=gx;refine wp_mono (zEC (hy X'.w.heap.size g.1 ms c es' (X'.subC tb hs) hpm hnd q3.len q4 rfl) gy (Nat.le_refl _) _ _ rfl k1 k2 htY1 hit) fun e a w hp=>?_;obtain ⟨s',Z,p1,rfl,p3,p4,p5,p6⟩:=hp;obtain ⟨F,f1,f2,f3,f4,f5,f6⟩:=zHx hi' hb htb p4 p5;refine ⟨s'.rnF tb X'.h,F,p1,f1,by rw [f2,p3];rfl,f3,(hs0.trans hi hst).trans hi' f4,p6.size,fun i=>?_,p6.defs⟩
 rw [show (s'.rnF tb X'.h).t=s'.t.map (fun p=>(p.1,p.2.rn tb X'.h.length)) from rfl,WE]
 exact bA.push f5 (p6.rel i)
end rules
attribute [go_sem] zMz qi_r qi_e zNe zNc
end Go.Dm
end
