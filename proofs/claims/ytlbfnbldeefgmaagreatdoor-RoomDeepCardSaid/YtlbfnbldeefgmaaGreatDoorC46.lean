/- Part 47 of the proof of roomDeep_card, set without needless blanks. No condition. -/
import Derived.Test.YtlbfnbldeefgmaaGreatDoorC18
set_option linter.all false
section
set_option maxRecDepth 100000
namespace Go.Dm
open Go
def Ctx.subC (X:Ctx) (tb:List Nat) (h0:aB):Ctx:=⟨X.w,X.S,fun i=>X.G (rn tb 0 i),h0⟩
def zHX (tb:List Nat) (h h0:aB):Bool:=Nat.beq tb.length h0.length && (nR tb && (tb.all (fun t=>Nat.blt t h.length) && h0.all (bK h0.length)))
section
variable {X:Ctx} {tb:List Nat} {h0:aB}
theorem DI (ht:xZ tb X.h 0 h0):Pull X (X.subC tb h0) tb 0 :=
 ⟨rfl,rfl,fun i db hd hl=>by
  have:=ht.at_ hd hl
  rwa [Nat.zero_add] at this,fun i _=>rfl⟩
theorem zHr (hi:HInv X) (hb:zHX tb X.h h0=true) (ht:xZ tb X.h 0 h0):HInv (X.subC tb h0):=by
 simp only [zHX,Bool.and_eq_true] at hb;obtain ⟨b1,b2,b3,b4⟩:=hb;have b1:=Nat.eq_of_beq_eq_true b1;exact hi.pull (DI ht) b4 fun i j db db' hd _ hd' _ he=>zBJ (mF b2) (b1▸aI hd) (b1▸aI hd') he
theorem zEO (hi:HInv X) (hb:zHX tb X.h h0=true) (ht:xZ tb X.h 0 h0) {Z:Ctx} (h2:HInv Z) (h3:Step (X.subC tb h0) Z):
  ∃ F:Ctx,F.w=Z.w∧F.h=fT tb X.h.length X.h tb Z.h∧HInv F∧Step X F∧Push Z F tb X.h.length∧h0.length≤Z.h.length:=by
 simp only [zHX,Bool.and_eq_true] at hb;obtain ⟨b1,b2,b3,b4⟩:=hb;have b1:=Nat.eq_of_beq_eq_true b1;have hnd:=mF b2;have hlt:∀ t∈tb,t<X.h.length:=fun t hm=>Nat.blt_eq.mp (List.all_eq_true.1 b3 t hm)
 let Y:Ctx:=⟨X.w,X.S,fun i=>X.G (rn tb 0 i),h0⟩
 have hp:Pull X Y tb 0:=DI ht;have hlen:h0.length≤Z.h.length:=h3.len;have hlen':tb.length≤Z.h.length:=by omega
 obtain ⟨q1,q2,q3,q4⟩:=wI (tb:=tb) (N:=X.h.length) (ts:=tb) (zs:=Z.h) (h:=X.h) hlen' hnd hlt
 let F:Ctx:=⟨Z.w,Z.S,fun j=>if j<X.h.length then (if j∈tb then Z.G (tb.idxOf j) else X.G j) else Z.G (tb.length+(j-X.h.length)),fT tb X.h.length X.h tb Z.h⟩
 have gat:∀ i,i<tb.length→∃ t,tb[i]? = some t∧rn tb X.h.length i=t∧t<X.h.length∧t∈tb∧tb.idxOf t=i:=fun i hi=>by
  have hm:tb[i]∈tb:=List.getElem_mem hi;exact ⟨tb[i],List.getElem?_eq_getElem hi,rP hi,hlt _ hm,hm,hnd.idxOf_getElem i hi⟩
 have hpu:Push Z F tb X.h.length:=by
  refine ⟨rfl,rfl,fun i hi=>?_,fun i hi=>?_,fun i hi=>?_⟩
  ·show _<(fT tb X.h.length X.h tb Z.h).length;rw [q1];rcases Nat.lt_or_ge i tb.length with hlt2|hge
   ·obtain ⟨t,_,e2,e3,_⟩:=gat i hlt2;rw [e2];omega
   ·rw [HP hge];omega
  ·rcases Nat.lt_or_ge i tb.length with hlt2|hge
   ·obtain ⟨t,e1,e2,_⟩:=gat i hlt2;rw [e2];exact q3 i t e1
   ·rw [HP hge];have:=q4 (i-tb.length);rw [show tb.length+(i-tb.length)=i by omega] at this
    exact this
  ·rcases Nat.lt_or_ge i tb.length with hlt2|hge
   ·obtain ⟨t,_,e2,e3,e4,e5⟩:=gat i hlt2;rw [e2];show (if t<X.h.length then (if t∈tb then Z.G (tb.idxOf t) else X.G t) else _)=_
    rw [if_pos e3,if_pos e4,e5]
   ·rw [HP hge];show (if X.h.length+(i-tb.length)<X.h.length then _ else Z.G (tb.length+(X.h.length+(i-tb.length)-X.h.length)))=_
    rw [if_neg (by omega)]
    congr 1;omega
 have fo:∀ j,j<X.h.length→j ∉ tb→F.h[j]? = X.h[j]?∧F.G j=X.G j:=fun j hj hn=>⟨q2 j hj hn,by
  show (if j<X.h.length then (if j∈tb then Z.G (tb.idxOf j) else X.G j) else _)=_
  rw [if_pos hj,if_neg hn]⟩
 have fi:∀ j,j<F.h.length→(j<X.h.length∧j ∉ tb)∨∃ i,i<Z.h.length∧j=rn tb X.h.length i:=fun j hj=>by
  have hjl:j<X.h.length+(Z.h.length-tb.length):=by rw [← q1];exact hj
  by_cases hx:j<X.h.length
  ·by_cases hm:j∈tb
   ·have hx:=List.idxOf_lt_length_iff.2 hm;exact .inr ⟨tb.idxOf j,by omega,by rw [rP hx,List.getElem_idxOf]⟩
   ·exact .inl ⟨hx,hm⟩
  ·exact .inr ⟨tb.length+(j-X.h.length),by omega,by rw [HP (by omega)];omega⟩
 have yx:∀ (k:Nat) (db:DB),Y.h[k]? = some db→db.live=true→X.h[rn tb 0 k]? = some (db.rn tb 0)∧rn tb 0 k∈tb:=fun k db hd hl=>by
  have hk:k<tb.length:=by have:=aI hd;simp only [Y] at this;omega
  exact ⟨hp.h k db hd hl,by rw [rP hk];exact List.getElem_mem hk⟩
 have away:∀ (j:Nat) (db:DB) (g:Nat × Nat),X.h[j]? = some db→db.live=true→X.G j=some g→j ∉ tb→Z.w.heap[g.1]? = X.w.heap[g.1]? := fun j db g hd hl hg hn=>by
  refine h3.frame g.1 (hi.block_lt hd hl hg) fun k db' g' hd' hl' hf' hg' e=>?_;obtain ⟨e1,e2⟩:=yx k db' hd' hl';exact hn ((hi.inj (rn tb 0 k) _ j db g' g e1 (by rw [DB.rn_live];exact hl') (by rw [DB.rn_fix];exact hf') hd hl hg' hg e)▸e2)
 have hst:Step X F:=by
  refine ⟨h3.size,h3.os,h3.tape,h3.output,h3.kept,?_,fun j db' hj hd hl=>?_,fun b hb hno=>?_,fun j db g hd hl hf hg=>?_,fun b hb=>?_⟩
  ·show _≤(fT tb X.h.length X.h tb Z.h).length;rw [q1];omega
  ·by_cases hm:j∈tb
   ·have hx:=List.idxOf_lt_length_iff.2 hm;have hj':j=rn tb X.h.length (tb.idxOf j):=by rw [rP hx,List.getElem_idxOf]
    have hj0:j=rn tb 0 (tb.idxOf j):=by rw [rP hx,List.getElem_idxOf]
    rw [hj'] at hd;obtain ⟨db1,e1,e2⟩:=hpu.inv (i:=tb.idxOf j) (by omega) hd;subst e2;rw [DB.rn_live] at hl;obtain ⟨db0,k1,k2,k3,k4⟩:=h3.ids (tb.idxOf j) db1 (by show _<h0.length;omega) e1 hl;obtain ⟨e3,_⟩:=yx _ _ k1 k2.live;rw [← hj0] at e3;have hG:Z.G (tb.idxOf j)=X.G j:=by rw [k3];show X.G (rn tb 0 (tb.idxOf j))=_;rw [← hj0]
    refine ⟨_,e3,?_,?_,fun g hg=>k4 g ?_⟩
    ·exact k2.rn_lr
    ·have e5:=hpu.G (tb.idxOf j) (by omega);rw [← hj'] at e5;rw [e5,hG]
    ·show X.G (rn tb 0 (tb.idxOf j))=_;rw [← hj0];exact hg
   ·obtain ⟨e1,e2⟩:=fo j hj hm;rw [e1] at hd;refine ⟨db',hd,bX.refl hl,e2,fun g hg=>?_⟩;rw [show F.w.heap[g.1]? = X.w.heap[g.1]? from away j db' g hd hl hg hm]
    exact (hi.blk j db' hd).same hl g hg
  ·exact h3.frame b hb fun k db g hd hl hf hg=>by
    obtain ⟨e1,_⟩:=yx k db hd hl;exact hno _ _ g e1 (by rw [DB.rn_live];exact hl) (by rw [DB.rn_fix];exact hf) hg
  ·rcases fi j (aI hd) with ⟨f1,f2⟩|⟨i,f1,rfl⟩
   ·obtain ⟨e1,e2⟩:=fo j f1 f2;rw [e1] at hd;rw [e2] at hg;exact .inr ⟨j,db,g,hd,hl,hf,hg,rfl⟩
   ·obtain ⟨db1,e1,rfl⟩:=hpu.inv f1 hd;rw [hpu.G _ f1] at hg;rw [DB.rn_live] at hl;rw [DB.rn_fix] at hf;rcases h3.mine i db1 g e1 hl hf hg with h|⟨k,db0,g0,k1,k2,k3,k4,k5⟩
    ·exact .inl h
    ·obtain ⟨e3,_⟩:=yx k db0 k1 k2;exact .inr ⟨_,_,g0,e3,by rw [DB.rn_live];exact k2,by rw [DB.rn_fix];exact k3,k4,k5⟩
  ·rcases h3.upper b hb with h|h|⟨k,db0,g0,k1,k2,k4,k5⟩
   ·exact .inl h
   ·exact .inr (.inl h)
   ·obtain ⟨e3,_⟩:=yx k db0 k1 k2;exact .inr (.inr ⟨_,_,g0,e3,by rw [DB.rn_live];exact k2,k4,k5⟩)
 have noS:∀ (j:Nat) (db:DB) (g:Nat × Nat),X.h[j]? = some db→db.live=true→db.fix=false→X.G j=some g→j ∉ tb→¬ Z.S g.1:=fun j db g hd hl hf hg hn hS=>by
  rcases h3.upper g.1 hS with h|h|⟨k,db0,g0,k1,k2,k4,k5⟩
  ·exact (hi.own j db g hd hl hg).1 hf h
  ·have h6:=hi.block_lt hd hl hg;have h7:(X.subC tb h0).w.heap.size=X.w.heap.size:=rfl;omega
  ·obtain ⟨e1,e2⟩:=yx k db0 k1 k2;exact hn ((hi.inj j db (rn tb 0 k) _ g g0 hd hl hf e1 (by rw [DB.rn_live];exact k2) hg k4 k5.symm)▸e2)
 have hiF:HInv F:=by
  refine ⟨h2.slt,fun j db hd=>?_,fun j db g hd hl hg=>?_,fun j db j' db' g g' hd hl hf hd' hl' hg hg' he=>?_⟩
  ·rcases fi j (aI hd) with ⟨f1,f2⟩|⟨i,f1,rfl⟩
   ·obtain ⟨e1,e2⟩:=fo j f1 f2;rw [e1] at hd;by_cases hl:db.live=true
    ·exact (hi.blk j db hd).move hst e2 fun g hg=>away j db g hd hl hg f2
    ·cases db <;> simp_all [DB.live,dU]
   ·obtain ⟨db1,e1,rfl⟩:=hpu.inv f1 hd;exact dU.push hpu f1 (h2.blk i db1 e1)
  ·rcases fi j (aI hd) with ⟨f1,f2⟩|⟨i,f1,rfl⟩
   ·obtain ⟨e1,e2⟩:=fo j f1 f2;rw [e1] at hd;rw [e2] at hg;exact ⟨fun hf=>noS j db g hd hl hf hg f2,fun hf=>(h3.kept _ ((hi.own j db g hd hl hg).2 hf)).1⟩
   ·obtain ⟨db1,e1,rfl⟩:=hpu.inv f1 hd;rw [hpu.G _ f1] at hg;rw [DB.rn_live] at hl;rw [DB.rn_fix];exact h2.own i db1 g e1 hl hg
  ·
   have cross:∀ (j:Nat) (db:DB) (g:Nat × Nat) (i:Nat) (db1:DB) (g1:Nat × Nat),X.h[j]? = some db→db.live=true→X.G j=some g→j ∉ tb→Z.h[i]? = some db1→db1.live=true→Z.G i=some g1→g.1=g1.1→(db.fix=false∨db1.fix=false)→False:=by
    intro j db g i db1 g1 k1 k2 k3 k4 k5 k6 k7 k8 k9;by_cases hf1:db1.fix=false
    ·rcases h3.mine i db1 g1 k5 k6 hf1 k7 with h|⟨k,db0,g0,m1,m2,m3,m4,m5⟩
     ·have h6:=hi.block_lt k1 k2 k3;have h7:(X.subC tb h0).w.heap.size=X.w.heap.size:=rfl;omega
     ·obtain ⟨e1,e2⟩:=yx k db0 m1 m2;exact k4 ((hi.inj (rn tb 0 k) _ j db g0 g e1 (by rw [DB.rn_live];exact m2) (by rw [DB.rn_fix];exact m3) k1 k2 m4 k3 (m5.trans k8.symm))▸e2)
    ·have hS:=(h2.own i db1 g1 k5 k6 k7).2 (by simpa using hf1);rw [← k8] at hS;rcases k9 with k9|k9
     ·exact noS j db g k1 k2 k9 k3 k4 hS
     ·exact hf1 k9
   rcases fi j (aI hd) with ⟨f1,f2⟩|⟨i,f1,rfl⟩ <;> rcases fi j' (aI hd') with ⟨f1',f2'⟩|⟨i',f1',rfl⟩
   ·obtain ⟨e1,e2⟩:=fo j f1 f2;obtain ⟨e1',e2'⟩:=fo j' f1' f2';rw [e1] at hd;rw [e2] at hg;rw [e1'] at hd';rw [e2'] at hg';exact hi.inj j db j' db' g g' hd hl hf hd' hl' hg hg' he
   ·obtain ⟨e1,e2⟩:=fo j f1 f2;rw [e1] at hd;rw [e2] at hg;obtain ⟨db1,e3,rfl⟩:=hpu.inv f1' hd';rw [hpu.G _ f1'] at hg';rw [DB.rn_live] at hl';exact (cross j db g i' db1 g' hd hl hg f2 e3 hl' hg' he (.inl hf)).elim
   ·obtain ⟨e1',e2'⟩:=fo j' f1' f2';rw [e1'] at hd';rw [e2'] at hg';obtain ⟨db1,e3,rfl⟩:=hpu.inv f1 hd;rw [hpu.G _ f1] at hg;rw [DB.rn_live] at hl;rw [DB.rn_fix] at hf;exact (cross j' db' g' i db1 g hd' hl' hg' f2' e3 hl hg he.symm (.inr hf)).elim
   ·obtain ⟨db1,e3,rfl⟩:=hpu.inv f1 hd;rw [hpu.G _ f1] at hg;rw [DB.rn_live] at hl;rw [DB.rn_fix] at hf;obtain ⟨db2,e4,rfl⟩:=hpu.inv f1' hd';rw [hpu.G _ f1'] at hg';rw [DB.rn_live] at hl';rw [h2.inj i db1 i' db2 g g' e3 hl hf e4 hl' hg hg' he]
 exact ⟨F,rfl,rfl,hiF,hst,hpu,hlen⟩
end
def DS.rnF (s:DS) (tb:List Nat) (h:aB):DS:=⟨s.n,s.t.map fun p=>(p.1,p.2.rn tb h.length),fT tb h.length h tb s.h⟩
theorem PO (tb:List Nat) (N:Nat):∀ (t:Fr) (i:Nat),look (t.map fun p=>(p.1,p.2.rn tb N)) i=(look t i).rn tb N
 | [],_=>rfl
 | p::t,i=>by
  simp only [List.map_cons,look];split
  ·rfl
  ·exact PO tb N t i
end Go.Dm
end
