/- Part 20 of the proof of roomAsks_card, set without needless blanks. No condition. -/
import Derived.Test.YtlbfnbldeefgmaaGreatDoorA18
set_option linter.all false
section
set_option maxRecDepth 100000
namespace Go.Dm
open Go
def fS (tb:List Nat) (N:Nat):aC→List Nat→aC→aC
 | h,[],zs=>h++zs.map (DB.rn tb N)
 | h,t::ts,z::zs=>fS tb N (h.set t (z.rn tb N)) ts zs
 | h,_::_,[]=>h
theorem zC {tb:List Nat} {N:Nat}:∀ {ts:List Nat} {zs h:aC},ts.length≤zs.length→ts.Nodup→(∀ t∈ts,t<h.length) →
  (fS tb N h ts zs).length=h.length+(zs.length-ts.length) ∧
  (∀ (j:Nat),j<h.length→j ∉ ts→(fS tb N h ts zs)[j]? = h[j]?) ∧
  (∀ (k t:Nat),ts[k]? = some t→(fS tb N h ts zs)[t]? = (zs[k]?).map (DB.rn tb N)) ∧
  (∀ (m:Nat),(fS tb N h ts zs)[h.length+m]? = (zs[ts.length+m]?).map (DB.rn tb N))
 | [],zs,h,_,_,_=>by
  simp only [fS,List.length_nil,Nat.sub_zero,List.length_append,List.length_map,Nat.zero_add,true_and];refine ⟨fun j hj _=>List.getElem?_append_left hj,fun k t hk=>by simp at hk,fun m=>?_⟩
  rw [List.getElem?_append_right (by omega),List.getElem?_map]
  congr 2;omega
 | t::ts,[],h,hl,_,_=>by simp at hl
 | t::ts,z::zs,h,hl,hn,hlt=>by
  simp only [List.length_cons] at hl;have hn':=List.nodup_cons.1 hn;obtain ⟨h1,h2,h3,h4⟩:=zC (tb:=tb) (N:=N) (ts:=ts) (zs:=zs) (h:=h.set t (z.rn tb N)) (by omega) hn'.2 (fun x hx=>by rw [List.length_set];exact hlt x (List.mem_cons_of_mem _ hx))
  rw [List.length_set] at h1 h2 h4;have ht:=hlt t List.mem_cons_self;simp only [fS,List.length_cons];refine ⟨by rw [h1];omega,fun j hj hjn=>?_,fun k x hk=>?_,fun m=>?_⟩
  ·rw [h2 j hj (fun hx=>hjn (List.mem_cons_of_mem _ hx)),List.getElem?_set_ne];rintro rfl;exact hjn List.mem_cons_self
  ·cases k with
   | zero =>
    simp only [List.getElem?_cons_zero,Option.some.injEq] at hk;subst hk;rw [h2 t ht hn'.1,List.getElem?_set_self ht];rfl
   | succ k =>
    simp only [List.getElem?_cons_succ] at hk ⊢;exact h3 k x hk
  ·rw [h4 m,show ts.length+1+m=(ts.length+m)+1 by omega,List.getElem?_cons_succ]
section push
variable {Y F:Ctx} {tb:List Nat} {N:Nat}
structure Push (Y F:Ctx) (tb:List Nat) (N:Nat):Prop where
 w:F.w=Y.w
 S:F.S=Y.S
 lt:∀ i,i<Y.h.length→rn tb N i<F.h.length
 h:∀ i,i<Y.h.length→F.h[rn tb N i]? = (Y.h[i]?).map (DB.rn tb N)
 G:∀ i,i<Y.h.length→F.G (rn tb N i)=Y.G i
theorem Push.inv (p:Push Y F tb N) {i:Nat} {db:DB} (hi:i<Y.h.length) (h:F.h[rn tb N i]? = some db):∃ db0,Y.h[i]? = some db0∧db=db0.rn tb N:=by
 rw [p.h _ hi] at h;obtain ⟨db0,h1,h2⟩:=Option.map_eq_some_iff.1 h;exact ⟨db0,h1,h2.symm⟩
theorem pE.push (p:Push Y F tb N) {c:KV} {v:Value} (h:pE Y c v):pE F (c.rn tb N) v:=by
 cases c <;> simp only [pE,KV.rn] at h ⊢
 case p=>rw [p.w,p.S];exact h
 case ptr id off =>
  refine ⟨p.lt _ h.1,h.2.1,fun cells hd=>?_⟩;obtain ⟨db,h1,h2⟩:=p.inv h.1 hd;cases db <;> simp only [DB.rn,reduceCtorEq] at h2;rw [p.G _ h.1];exact h.2.2 _ h1
theorem eQ.push (p:Push Y F tb N):∀ {cs:List KV} {vs:List Value},eQ Y cs vs→eQ F (cs.map (KV.rn tb N)) vs
 | [],[],_=>True.intro
 | _::_,_::_,h=>⟨pE.push p h.1,eQ.push p h.2⟩
 | [],_::_,h=>h.elim
 | _::_,[],h=>h.elim
theorem bS.push (p:Push Y F tb N) {c:CV} {v:Value} (h:bS Y c v):bS F (c.rn tb N) v:=by
 cases c <;> simp only [bS,CV.rn] at h ⊢
 case p=>rw [p.w,p.S];exact h
 case own id off len =>
  refine ⟨p.lt _ h.1,h.2.1,fun k es ro hd=>?_⟩;obtain ⟨db,h1,h2⟩:=p.inv h.1 hd;cases db <;> simp only [DB.rn,reduceCtorEq] at h2;cases h2;rw [p.G _ h.1,p.w];exact h.2.2 _ _ _ h1
 case ptr id off =>
  refine ⟨p.lt _ h.1,h.2.1,fun cells hd=>?_⟩;obtain ⟨db,h1,h2⟩:=p.inv h.1 hd;cases db <;> simp only [DB.rn,reduceCtorEq] at h2;rw [p.G _ h.1];exact h.2.2 _ h1
 case aptr id i j =>
  refine ⟨p.lt _ h.1,h.2.1,fun k es ro hd=>?_⟩;obtain ⟨db,h1,h2⟩:=p.inv h.1 hd;cases db <;> simp only [DB.rn,reduceCtorEq] at h2;cases h2;rw [p.G _ h.1];exact h.2.2 _ _ _ h1
 case bs id n =>
  refine ⟨p.lt _ h.1,h.2.1,fun cells hd=>?_⟩;obtain ⟨db,h1,h2⟩:=p.inv h.1 hd;cases db <;> simp only [DB.rn,reduceCtorEq] at h2;rw [p.G _ h.1];exact h.2.2 _ h1
 case mp id =>
  refine ⟨p.lt _ h.1,h.2.1,fun es hd=>?_⟩;obtain ⟨db,h1,h2⟩:=p.inv h.1 hd;cases db <;> simp only [DB.rn,reduceCtorEq] at h2;rw [p.G _ h.1];exact h.2.2 _ h1
 case eptr=>rw [p.w,p.S];exact h
 case full=>rw [p.w,p.S];exact h
 case clo =>
  obtain ⟨vs,h1,h2⟩:=h;exact ⟨vs,h1,eQ.push p h2⟩
theorem bB.push (p:Push Y F tb N):∀ {cs:List CV} {vs:List Value},bB Y cs vs→bB F (cs.map (CV.rn tb N)) vs
 | [],[],_=>True.intro
 | _::_,_::_,h=>⟨bS.push p h.1,bB.push p h.2⟩
 | [],_::_,h=>h.elim
 | _::_,[],h=>h.elim
theorem dN.push (p:Push Y F tb N) {c:EV} {v:Value} (h:dN Y c v):dN F (c.rn tb N) v:=by
 cases c <;> simp only [dN,EV.rn] at h ⊢
 ·exact bS.push p h
 ·obtain ⟨vs,h1,h2⟩:=h;exact ⟨vs,h1,bB.push p h2⟩
theorem cG.push (p:Push Y F tb N):∀ {cs:List EV} {vs:List Value},cG Y cs vs→cG F (cs.map (EV.rn tb N)) vs
 | [],[],_=>True.intro
 | _::_,_::_,h=>⟨dN.push p h.1,cG.push p h.2⟩
 | [],_::_,h=>h.elim
 | _::_,[],h=>h.elim
theorem bA.push (p:Push Y F tb N) {c:DV} {v:Value} (h:bA Y c v):bA F (c.rn tb N) v:=by
 cases c <;> simp only [bA,DV.rn] at h ⊢
 ·exact bS.push p h
 ·obtain ⟨vs,h1,h2⟩:=h;exact ⟨vs,h1,bB.push p h2⟩
 ·obtain ⟨vs,h1,h2⟩:=h;exact ⟨vs,h1,cG.push p h2⟩
theorem dU.push (p:Push Y F tb N) {id:Nat} {db:DB} (hid:id<Y.h.length) (h:dU Y id db):dU F (rn tb N id) (db.rn tb N):=by
 cases db <;> simp only [dU,DB.rn] at h ⊢
 case box cells =>
  obtain ⟨g,arr,el,fz,h1,h2,h3,h4,h5⟩:=h;refine ⟨g,arr,el,fz,by rw [p.G _ hid];exact h1,by rw [p.w];exact h2,by simpa using h3,h4,cP.mk fun j c hj=>?_⟩
  rw [List.getElem?_map] at hj;obtain ⟨c0,h6,rfl⟩:=Option.map_eq_some_iff.1 hj;obtain ⟨v,h7,h8⟩:=h5.at_ h6;exact ⟨v,by rw [p.w];exact h7,bS.push p h8⟩
 case arr=>rw [p.G _ hid,p.w,p.S];exact h
 case mp=>rw [p.G _ hid,p.w,p.S];exact h
end push
def AP (tb:List Nat) (h:aC):Nat→aC→Prop
 | _,[]=>True
 | i,.dead::l=>AP tb h (i+1) l
 | i,db::l=>h[rn tb 0 i]? = some (db.rn tb 0)∧AP tb h (i+1) l
theorem AP.at_ {tb:List Nat} {h:aC}:∀ {l:aC} {i j:Nat} {db:DB},AP tb h i l→l[j]? = some db→db.live=true→h[rn tb 0 (i+j)]? = some (db.rn tb 0)
 | [],_,_,_,_,hj,_=>by simp at hj
 | x::l,i,0,db,hh,hj,hl=>by
  simp only [List.getElem?_cons_zero,Option.some.injEq] at hj;subst hj;cases x with
  | dead=>simp [DB.live] at hl
  | box _=>exact hh.1
  | arr _ _ _=>exact hh.1
  | mp _=>exact hh.1
 | x::l,i,j+1,db,hh,hj,hl=>by
  simp only [List.getElem?_cons_succ] at hj;have hh':AP tb h (i+1) l:=by
   cases x with
   | dead=>exact hh
   | box _=>exact hh.2
   | arr _ _ _=>exact hh.2
   | mp _=>exact hh.2
  have:=AP.at_ hh' hj hl
  rwa [show i+1+j=i+(j+1) by omega] at this
theorem zL8 {tb:List Nat} {i:Nat} {h:aC}:AP tb h i []=True:=nr rfl
theorem zKt {tb:List Nat} {i:Nat} {h l:aC}:AP tb h i (.dead::l)=AP tb h (i+1) l:=nr rfl
theorem zL7 {tb:List Nat} {i:Nat} {h l:aC} {c:List CV}:AP tb h i (.box c::l)=(h[rn tb 0 i]? = some (DB.rn tb 0 (.box c))∧AP tb h (i+1) l):=nr rfl
theorem zL6 {tb:List Nat} {i k:Nat} {h l:aC} {es:List (List PV)} {ro:Bool}:AP tb h i (.arr k es ro::l)=(h[rn tb 0 i]? = some (DB.rn tb 0 (.arr k es ro))∧AP tb h (i+1) l):=nr rfl
theorem zNo {tb:List Nat} {i:Nat} {h l:aC} {es:List (Int × PV)}:AP tb h i (.mp es::l)=(h[rn tb 0 i]? = some (DB.rn tb 0 (.mp es))∧AP tb h (i+1) l):=nr rfl
theorem aA.sub {P:Program} {f:FuncId} {h h0:aC} {args0:List DV} {R K:DV→aC→Prop} (tb:List Nat) (hc:aA P f args0 h0 R)
  (hb:(Nat.beq tb.length h0.length && (nO tb && (tb.all (fun t=>Nat.blt t h.length) && (h0.all (bN h0.length) && args0.all (aJ h0.length)))))=true) (ht:AP tb h 0 h0)
  (hk:∀ d h',h0.length≤h'.length→R d h'→K (d.rn tb h.length) (fS tb h.length h tb h')):aA P f (args0.map (DV.rn tb 0)) h K:=by
 simp only [Bool.and_eq_true] at hb;obtain ⟨b1,b2,b3,b4,b5⟩:=hb;have b1:=Nat.eq_of_beq_eq_true b1;have hnd:=nP b2;have hlt:∀ t∈tb,t<h.length:=fun t hm=>Nat.blt_eq.mp (List.all_eq_true.1 b3 t hm);intro X vals hh hi gd hr;subst hh
 let Y:Ctx:=⟨X.w,X.S,fun i=>X.G (rn tb 0 i),h0⟩
 have hp:Pull X Y tb 0:=⟨rfl,rfl,fun i db hd hl=>by
  have:=ht.at_ hd hl
  rwa [Nat.zero_add] at this,fun i _=>rfl⟩
 have hiY:HInv Y:=hi.pull hp b4 fun i j db db' hd _ hd' _ he=>zEl hnd (b1▸aM hd) (b1▸aM hd') he;have hrY:dC Y args0 vals:=dC.pull hp b5 hr;have key:∀ v w',Ret Y R v w'→Ret X K v w':=by
  rintro v w' ⟨d,Z,h1,h2,h3,h4,h5⟩;have hlen:h0.length≤Z.h.length:=h3.len;have hlen':tb.length≤Z.h.length:=by omega
  obtain ⟨q1,q2,q3,q4⟩:=zC (tb:=tb) (N:=X.h.length) (ts:=tb) (zs:=Z.h) (h:=X.h) hlen' hnd hlt
  let F:Ctx:=⟨Z.w,Z.S,fun j=>if j<X.h.length then (if j∈tb then Z.G (tb.idxOf j) else X.G j) else Z.G (tb.length+(j-X.h.length)),fS tb X.h.length X.h tb Z.h⟩
  have gat:∀ i,i<tb.length→∃ t,tb[i]? = some t∧rn tb X.h.length i=t∧t<X.h.length∧t∈tb∧tb.idxOf t=i:=fun i hi=>by
   have hm:tb[i]∈tb:=List.getElem_mem hi;exact ⟨tb[i],List.getElem?_eq_getElem hi,tZ hi,hlt _ hm,hm,hnd.idxOf_getElem i hi⟩
  have hpu:Push Z F tb X.h.length:=by
   refine ⟨rfl,rfl,fun i hi=>?_,fun i hi=>?_,fun i hi=>?_⟩
   ·show _<(fS tb X.h.length X.h tb Z.h).length;rw [q1];rcases Nat.lt_or_ge i tb.length with hlt2|hge
    ·obtain ⟨t,_,e2,e3,_⟩:=gat i hlt2;rw [e2];omega
    ·rw [MU hge];omega
   ·rcases Nat.lt_or_ge i tb.length with hlt2|hge
    ·obtain ⟨t,e1,e2,_⟩:=gat i hlt2;rw [e2];exact q3 i t e1
    ·rw [MU hge];have:=q4 (i-tb.length);rw [show tb.length+(i-tb.length)=i by omega] at this
     exact this
   ·rcases Nat.lt_or_ge i tb.length with hlt2|hge
    ·obtain ⟨t,_,e2,e3,e4,e5⟩:=gat i hlt2;rw [e2];show (if t<X.h.length then (if t∈tb then Z.G (tb.idxOf t) else X.G t) else _)=_
     rw [if_pos e3,if_pos e4,e5]
    ·rw [MU hge];show (if X.h.length+(i-tb.length)<X.h.length then _ else Z.G (tb.length+(X.h.length+(i-tb.length)-X.h.length)))=_
     rw [if_neg (by omega)]
     congr 1;omega
  have fo:∀ j,j<X.h.length→j ∉ tb→F.h[j]? = X.h[j]?∧F.G j=X.G j:=fun j hj hn=>⟨q2 j hj hn,by
   show (if j<X.h.length then (if j∈tb then Z.G (tb.idxOf j) else X.G j) else _)=_
   rw [if_pos hj,if_neg hn]⟩
  have fi:∀ j,j<F.h.length→(j<X.h.length∧j ∉ tb)∨∃ i,i<Z.h.length∧j=rn tb X.h.length i:=fun j hj=>by
   have hjl:j<X.h.length+(Z.h.length-tb.length):=by rw [← q1];exact hj
   by_cases hx:j<X.h.length
   ·by_cases hm:j∈tb
    ·have hx:=List.idxOf_lt_length_iff.2 hm;exact .inr ⟨tb.idxOf j,by omega,by rw [tZ hx,List.getElem_idxOf]⟩
    ·exact .inl ⟨hx,hm⟩
   ·exact .inr ⟨tb.length+(j-X.h.length),by omega,by rw [MU (by omega)];omega⟩
  have yx:∀ (k:Nat) (db:DB),Y.h[k]? = some db→db.live=true→X.h[rn tb 0 k]? = some (db.rn tb 0)∧rn tb 0 k∈tb:=fun k db hd hl=>by
   have hk:k<tb.length:=by have:=aM hd;simp only [Y] at this;omega
   exact ⟨hp.h k db hd hl,by rw [tZ hk];exact List.getElem_mem hk⟩
  have away:∀ (j:Nat) (db:DB) (g:Nat × Nat),X.h[j]? = some db→db.live=true→X.G j=some g→j ∉ tb→Z.w.heap[g.1]? = X.w.heap[g.1]? := fun j db g hd hl hg hn=>by
   refine h3.frame g.1 (hi.block_lt hd hl hg) fun k db' g' hd' hl' hf' hg' e=>?_;obtain ⟨e1,e2⟩:=yx k db' hd' hl';exact hn ((hi.inj (rn tb 0 k) _ j db g' g e1 (by rw [DB.rn_live];exact hl') (by rw [DB.rn_fix];exact hf') hd hl hg' hg e)▸e2)
  have hst:Step X F:=by
   refine ⟨h3.size,h3.os,h3.tape,h3.output,h3.kept,?_,fun j db' hj hd hl=>?_,fun b hb hno=>?_,fun j db g hd hl hf hg=>?_,fun b hb=>?_⟩
   ·show _≤(fS tb X.h.length X.h tb Z.h).length;rw [q1];omega
   ·by_cases hm:j∈tb
    ·have hx:=List.idxOf_lt_length_iff.2 hm;have hj':j=rn tb X.h.length (tb.idxOf j):=by rw [tZ hx,List.getElem_idxOf]
     have hj0:j=rn tb 0 (tb.idxOf j):=by rw [tZ hx,List.getElem_idxOf]
     rw [hj'] at hd;obtain ⟨db1,e1,e2⟩:=hpu.inv (i:=tb.idxOf j) (by omega) hd;subst e2;rw [DB.rn_live] at hl;obtain ⟨db0,k1,k2,k3,k4⟩:=h3.ids (tb.idxOf j) db1 (by simp only [Y];omega) e1 hl;obtain ⟨e3,_⟩:=yx _ _ k1 k2.live;rw [← hj0] at e3;have hG:Z.G (tb.idxOf j)=X.G j:=by rw [k3];show X.G (rn tb 0 (tb.idxOf j))=_;rw [← hj0]
     refine ⟨_,e3,?_,?_,fun g hg=>k4 g ?_⟩
     ·exact k2.rn_lr
     ·have e5:=hpu.G (tb.idxOf j) (by omega);rw [← hj'] at e5;rw [e5,hG]
     ·show X.G (rn tb 0 (tb.idxOf j))=_;rw [← hj0];exact hg
    ·obtain ⟨e1,e2⟩:=fo j hj hm;rw [e1] at hd;refine ⟨db',hd,cD.refl hl,e2,fun g hg=>?_⟩;rw [show F.w.heap[g.1]? = X.w.heap[g.1]? from away j db' g hd hl hg hm]
     exact (hi.blk j db' hd).same hl g hg
   ·exact h3.frame b hb fun k db g hd hl hf hg=>by
     obtain ⟨e1,_⟩:=yx k db hd hl;exact hno _ _ g e1 (by rw [DB.rn_live];exact hl) (by rw [DB.rn_fix];exact hf) hg
   ·rcases fi j (aM hd) with ⟨f1,f2⟩|⟨i,f1,rfl⟩
    ·obtain ⟨e1,e2⟩:=fo j f1 f2;rw [e1] at hd;rw [e2] at hg;exact .inr ⟨j,db,g,hd,hl,hf,hg,rfl⟩
    ·obtain ⟨db1,e1,rfl⟩:=hpu.inv f1 hd;rw [hpu.G _ f1] at hg;rw [DB.rn_live] at hl;rw [DB.rn_fix] at hf;rcases h3.mine i db1 g e1 hl hf hg with h|⟨k,db0,g0,k1,k2,k3,k4,k5⟩
     ·exact .inl h
     ·obtain ⟨e3,_⟩:=yx k db0 k1 k2;exact .inr ⟨_,_,g0,e3,by rw [DB.rn_live];exact k2,by rw [DB.rn_fix];exact k3,k4,k5⟩
   ·rcases h3.upper b hb with h|h|⟨k,db0,g0,k1,k2,k4,k5⟩
    ·exact .inl h
    ·exact .inr (.inl h)
    ·obtain ⟨e3,_⟩:=yx k db0 k1 k2;exact .inr (.inr ⟨_,_,g0,e3,by rw [DB.rn_live];exact k2,k4,k5⟩)
  have noS:∀ (j:Nat) (db:DB) (g:Nat × Nat),X.h[j]? = some db→db.live=true→db.fix=false→X.G j=some g→j ∉ tb→¬ Z.S g.1:=fun j db g hd hl hf hg hn hS=>by
   rcases h3.upper g.1 hS with h|h|⟨k,db0,g0,k1,k2,k4,k5⟩
   ·exact (hi.own j db g hd hl hg).1 hf h
   ·have h6:=hi.block_lt hd hl hg;have h7:Y.w.heap.size=X.w.heap.size:=rfl;omega
   ·obtain ⟨e1,e2⟩:=yx k db0 k1 k2;exact hn ((hi.inj j db (rn tb 0 k) _ g g0 hd hl hf e1 (by rw [DB.rn_live];exact k2) hg k4 k5.symm)▸e2)
  have hiF:HInv F:=by
   refine ⟨h2.slt,fun j db hd=>?_,fun j db g hd hl hg=>?_,fun j db j' db' g g' hd hl hf hd' hl' hg hg' he=>?_⟩
   ·rcases fi j (aM hd) with ⟨f1,f2⟩|⟨i,f1,rfl⟩
    ·obtain ⟨e1,e2⟩:=fo j f1 f2;rw [e1] at hd;by_cases hl:db.live=true
     ·exact (hi.blk j db hd).move hst e2 fun g hg=>away j db g hd hl hg f2
     ·cases db <;> simp_all [DB.live,dU]
    ·obtain ⟨db1,e1,rfl⟩:=hpu.inv f1 hd;exact dU.push hpu f1 (h2.blk i db1 e1)
   ·rcases fi j (aM hd) with ⟨f1,f2⟩|⟨i,f1,rfl⟩
    ·obtain ⟨e1,e2⟩:=fo j f1 f2;rw [e1] at hd;rw [e2] at hg;exact ⟨fun hf=>noS j db g hd hl hf hg f2,fun hf=>(h3.kept _ ((hi.own j db g hd hl hg).2 hf)).1⟩
    ·obtain ⟨db1,e1,rfl⟩:=hpu.inv f1 hd;rw [hpu.G _ f1] at hg;rw [DB.rn_live] at hl;rw [DB.rn_fix];exact h2.own i db1 g e1 hl hg
   ·
    have cross:∀ (j:Nat) (db:DB) (g:Nat × Nat) (i:Nat) (db1:DB) (g1:Nat × Nat),X.h[j]? = some db→db.live=true→X.G j=some g→j ∉ tb→Z.h[i]? = some db1→db1.live=true→Z.G i=some g1→g.1=g1.1→(db.fix=false∨db1.fix=false)→False:=by
     intro j db g i db1 g1 k1 k2 k3 k4 k5 k6 k7 k8 k9;by_cases hf1:db1.fix=false
     ·rcases h3.mine i db1 g1 k5 k6 hf1 k7 with h|⟨k,db0,g0,m1,m2,m3,m4,m5⟩
      ·have h6:=hi.block_lt k1 k2 k3;have h7:Y.w.heap.size=X.w.heap.size:=rfl;omega
      ·obtain ⟨e1,e2⟩:=yx k db0 m1 m2;exact k4 ((hi.inj (rn tb 0 k) _ j db g0 g e1 (by rw [DB.rn_live];exact m2) (by rw [DB.rn_fix];exact m3) k1 k2 m4 k3 (m5.trans k8.symm))▸e2)
     ·have hS:=(h2.own i db1 g1 k5 k6 k7).2 (by simpa using hf1);rw [← k8] at hS;rcases k9 with k9|k9
      ·exact noS j db g k1 k2 k9 k3 k4 hS
      ·exact hf1 k9
    rcases fi j (aM hd) with ⟨f1,f2⟩|⟨i,f1,rfl⟩ <;> rcases fi j' (aM hd') with ⟨f1',f2'⟩|⟨i',f1',rfl⟩
    ·obtain ⟨e1,e2⟩:=fo j f1 f2;obtain ⟨e1',e2'⟩:=fo j' f1' f2';rw [e1] at hd;rw [e2] at hg;rw [e1'] at hd';rw [e2'] at hg';exact hi.inj j db j' db' g g' hd hl hf hd' hl' hg hg' he
    ·obtain ⟨e1,e2⟩:=fo j f1 f2;rw [e1] at hd;rw [e2] at hg;obtain ⟨db1,e3,rfl⟩:=hpu.inv f1' hd';rw [hpu.G _ f1'] at hg';rw [DB.rn_live] at hl';exact (cross j db g i' db1 g' hd hl hg f2 e3 hl' hg' he (.inl hf)).elim
    ·obtain ⟨e1',e2'⟩:=fo j' f1' f2';rw [e1'] at hd';rw [e2'] at hg';obtain ⟨db1,e3,rfl⟩:=hpu.inv f1 hd;rw [hpu.G _ f1] at hg;rw [DB.rn_live] at hl;rw [DB.rn_fix] at hf;exact (cross j' db' g' i db1 g hd' hl' hg' f2' e3 hl hg he.symm (.inr hf)).elim
    ·obtain ⟨db1,e3,rfl⟩:=hpu.inv f1 hd;rw [hpu.G _ f1] at hg;rw [DB.rn_live] at hl;rw [DB.rn_fix] at hf;obtain ⟨db2,e4,rfl⟩:=hpu.inv f1' hd';rw [hpu.G _ f1'] at hg';rw [DB.rn_live] at hl';rw [h2.inj i db1 i' db2 g g' e3 hl hf e4 hl' hg hg' he]
  exact ⟨d.rn tb X.h.length,F,h1,hiF,hst,bA.push hpu h4,hk d Z.h hlen h5⟩
 have gdY:Gnd P Y:=gd;rcases hc Y vals rfl hiY gdY hrY with ⟨h1,h2⟩|⟨v,w',h1,h2⟩
 ·exact .inl ⟨h1,h2.mono fun e w' ⟨v,he,hv⟩=>⟨v,he,key v w' hv⟩⟩
 ·exact .inr ⟨v,w',h1,key v w' h2⟩
theorem bW {P:Program} {f:FuncId} {h h0 h1:aC} {args args0:List DV} {r:DV} {K:DV→aC→Prop} (tb:List Nat) (hc:aA P f args0 h0 fun d h'=>d=r∧h'=h1) (ha:args0.map (DV.rn tb 0)=args)
  (hb:(Nat.beq tb.length h0.length && (nO tb && (tb.all (fun t=>Nat.blt t h.length) && (h0.all (bN h0.length) && args0.all (aJ h0.length)))))=true) (ht:AP tb h 0 h0)
  (hk:K (r.rn tb h.length) (fS tb h.length h tb h1)):aA P f args h K:=by
 subst ha;refine aA.sub tb hc hb ht fun d h' _ hd=>?_;obtain ⟨rfl,rfl⟩:=hd;exact hk
attribute [go_sem] DV.rn CV.rn EV.rn KV.rn DB.rn fS Dm.rn zL8 zKt zL7 zL6 zNo
theorem uS {P:Program} {f:FuncId} {h h0 h1:aC} {args args0:List DV} {r:DV} {K:DV→aC→Prop} (tb:List Nat) (hc:aA P f args0 h0 fun d h'=>d=r∧h'=h1) (hk:K (r.rn tb h.length) (fS tb h.length h tb h1)) (ha:args0.map (DV.rn tb 0)=args:=by exact rfl)
  (hb:(Nat.beq tb.length h0.length && (nO tb && (tb.all (fun t=>Nat.blt t h.length) && (h0.all (bN h0.length) && args0.all (aJ h0.length)))))=true:=by exact rfl) (ht:AP tb h 0 h0:=by (simp only [go_sem];done)):aA P f args h K:=bW tb hc ha hb ht hk
end Go.Dm
end
section
namespace Go.Dm
open Go
theorem zJZ (l:List Ly):(cZ l).all (fun e=>e.all sF)=true:=List.all_eq_true.2 fun e he=>by
 obtain ⟨x,_,rfl⟩:=List.mem_map.1 he;rfl
theorem zJ0 (l:List Int):(cW l).all (fun e=>e.all sF)=true:=List.all_eq_true.2 fun e he=>by
 obtain ⟨x,_,rfl⟩:=List.mem_map.1 he;rfl
theorem zHe (l:List Nm):(bM l).all (fun e=>e.all sF)=true:=List.all_eq_true.2 fun e he=>by
 obtain ⟨x,_,rfl⟩:=List.mem_map.1 he;rfl
theorem zHb (l:List Ly):iZ (.arr 4 (cZ l) false)=true:=by simp only [iZ,zJZ];rfl
theorem zHc (l:List Int):iZ (.arr 1 (cW l) false)=true:=by simp only [iZ,zJ0];rfl
theorem zD1 (l:List Nm):iZ (.arr 2 (bM l) false)=true:=by simp only [iZ,zHe];rfl
def zC0:List Ly→Int→Int
 | [],_=>-1
 | x::l,a=>if x.i == a then 0 else if zC0 l a == -1 then -1 else zC0 l a+1
theorem KX {a:Int}:∀ {l:List Ly},(∀ (k:Nat) (x:Ly),l[k]? = some x→(x.i == a)=false)→zC0 l a = -1
 | [],_=>rfl
 | x::l,h=>by
  simp only [zC0];rw [h 0 x rfl,KX (l:=l) fun k y hy=>h (k+1) y (by simpa using hy)];rfl
theorem zC1 {a:Int}:∀ {l:List Ly} {i:Nat} {x:Ly},(∀ (k:Nat) (y:Ly),k<i→l[k]? = some y→(y.i == a)=false)→l[i]? = some x→(x.i == a)=true→zC0 l a=i∧eF l a=some x
 | [],_,_,_,h,_=>by simp at h
 | y::l,0,x,_,h,hx=>by
  simp only [List.getElem?_cons_zero,Option.some.injEq] at h;subst h;simp only [zC0,oO];rw [hx];exact ⟨rfl,rfl⟩
 | y::l,i+1,x,hn,h,hx=>by
  simp only [List.getElem?_cons_succ] at h;obtain ⟨h1,h2⟩:=zC1 (l:=l) (i:=i) (fun k z hk hz=>hn (k+1) z (by omega) (by simpa using hz)) h hx;simp only [zC0,oO];rw [hn 0 y (by omega) rfl,h1];simp only [Bool.false_eq_true,if_false];rw [if_neg (by first|(simp;done)|(simp;omega))];exact ⟨by omega,h2⟩
theorem zGu (l:List Ly) (a:Int):(eF l a=none∧zC0 l a = -1)∨∃ (k:Nat) (x:Ly),eF l a=some x∧zC0 l a=k∧l[k]? = some x:=by
 induction l with
 | nil=>exact .inl ⟨rfl,rfl⟩
 | cons y l ih =>
  rw [oO];simp only [zC0];cases hy:y.i == a
  ·simp only [Bool.false_eq_true,if_false];rcases ih with ⟨h1,h2⟩|⟨k,x,h1,h2,h3⟩
   ·exact .inl ⟨h1,by rw [h2];rfl⟩
   ·refine .inr ⟨k+1,x,h1,?_,by simpa using h3⟩
    rw [h2,if_neg (by first|(simp;done)|(simp;omega))];omega
  ·exact .inr ⟨0,y,by simp,by simp,rfl⟩
attribute [go_sem] zHb zHc zD1
end Go.Dm
end
section
namespace Go.Dm
open Go
theorem aA.boxA {P:Program} {f:FuncId} {h:aC} {i:Nat} {c0 c1:List CV} {a:DV} {r:DV} {K:DV→aC→Prop}
  (hc:aA P f [a,.c (.ptr 0 0)] [.box c0] fun d h'=>d=r∧h'=[.box c1])
  (ha:zBu a=true) (h0:h[i]? = some (.box c0)) (hd:(c0.all EO && (c1.all EO && zBu r))=true) (hk:K r (h.set i (.box c1))):
  aA P f [a,.c (.ptr i 0)] h K:=by
 simp only [Bool.and_eq_true] at hd;obtain ⟨hd0,hd1,hdr⟩:=hd;intro X vals hh hi gd hr;subst hh;have hlt:=aM h0;obtain ⟨g,arr,el,fz,hg,hb1,hb2,hb3,hb4⟩:=hi.blk i _ h0
 let Y:Ctx:=⟨X.w,X.S,fun j=>if j=0 then some g else none,[.box c0]⟩
 have hiY:HInv Y:=by
  refine ⟨hi.slt,fun id db hdb=>?_,fun id db g' hdb hl hg'=>?_,fun id db id' db' g1 g2 hdb _ _ hdb' _ _ _ _=>?_⟩
  ·cases id with
   | zero =>
    simp only [Y,List.getElem?_cons_zero,Option.some.injEq] at hdb;subst hdb;exact ⟨g,arr,el,fz,rfl,hb1,hb2,hb3,qV hd0 hb4⟩
   | succ n=>simp [Y] at hdb
  ·cases id with
   | zero =>
    simp only [Y,List.getElem?_cons_zero,Option.some.injEq,if_true] at hdb hg';subst hdb;subst hg';exact hi.own i _ g h0 rfl hg
   | succ n=>simp [Y] at hdb
  ·have e1:=aM hdb;have e2:=aM hdb';simp only [Y,List.length_cons,List.length_nil] at e1 e2;omega
 match vals,hr with
 | [va,v0],hr =>
  obtain ⟨hra,⟨_,hv1,hv2⟩,_⟩:=hr;obtain ⟨g',hg',rfl⟩:=hv2 _ h0;rw [hg] at hg';cases hg';have hrY:dC Y [a,.c (.ptr 0 0)] [va,.pointer (some ⟨g.1,g.2+0,none⟩)] :=
   ⟨vW (X:=X) (Y:=Y) rfl rfl ha hra,⟨Nat.zero_lt_one,rfl,fun cells hcells=>⟨g,rfl,rfl⟩⟩,True.intro⟩
  have key:∀ v w',Ret Y (fun d h'=>d=r∧h'=[.box c1]) v w'→Ret X K v w':=by
   rintro v w' ⟨d,Z,h1,h2,h3,h4,rfl,h5⟩;have hZ0:Z.h[0]? = some (.box c1):=by rw [h5];rfl
   obtain ⟨db,e1,e2,e3,e4⟩:=h3.ids 0 _ (by simp [Y]) hZ0 rfl;have hGZ:Z.G 0=some g:=e3;have e4:=e4 g rfl;have hfr:∀ b,b<X.w.heap.size→b≠g.1→Z.w.heap[b]? = X.w.heap[b]? := fun b hb hne=>h3.frame b hb fun id db g' hdb hl hf hg'=>by
    have e1:=aM hdb;simp only [Y,List.length_cons,List.length_nil] at e1;have:id=0:=by omega
    subst this;simp only [Y,if_true,Option.some.injEq] at hg';subst hg';exact fun e=>hne e.symm
   have hst:Step X ⟨Z.w,Z.S,X.G,X.h.set i (.box c1)⟩:=by
    refine ⟨h3.size,h3.os,h3.tape,h3.output,h3.kept,by simp,fun id db' hl' hdb' hlv=>?_,fun b hb hno=>?_,fun id db g' hdb hl hf hg'=>?_,fun b hb=>?_⟩
    ·rcases cA hdb' with ⟨rfl,rfl,_⟩|⟨hne,h'⟩
     ·exact ⟨_,h0,True.intro,rfl,fun g' hg'=>by rw [hg] at hg';cases hg';exact e4⟩
     ·refine ⟨db',h',cD.refl hlv,rfl,fun g' hg'=>?_⟩;rw [show Z.w.heap[g'.1]? = X.w.heap[g'.1]? from hfr _ (hi.block_lt h' hlv hg') fun e=>hne (hi.inj i _ id db' g g' h0 rfl rfl h' hlv hg hg' e.symm).symm]
      exact (hi.blk id db' h').same hlv g' hg'
    ·exact hfr b hb fun e=>hno i _ g h0 rfl rfl hg e.symm
    ·rcases cA hdb with ⟨rfl,rfl,_⟩|⟨hne,h'⟩
     ·exact .inr ⟨id,_,g',h0,rfl,rfl,hg',rfl⟩
     ·exact .inr ⟨id,db,g',h',hl,hf,hg',rfl⟩
    ·rcases h3.upper b hb with h|h|⟨id,db,g',hdb,hl,hg',e⟩
     ·exact .inl h
     ·exact .inr (.inl h)
     ·have e1:=aM hdb;simp only [Y,List.length_cons,List.length_nil] at e1;have:id=0:=by omega
      subst this;simp only [Y,if_true,Option.some.injEq] at hg';subst hg';exact .inr (.inr ⟨i,_,g,h0,rfl,hg,e⟩)
   refine ⟨d,⟨Z.w,Z.S,X.G,X.h.set i (.box c1)⟩,h1,⟨h2.slt,fun id db hdb=>?_,fun id db g' hdb hl hg'=>?_,fun id db id' db' g1 g2 hdb hl hf hdb' hl' hg1 hg2 he=>?_⟩,hst,QE hdr h4,hk⟩
   ·rcases cA hdb with ⟨rfl,rfl,_⟩|⟨hne,h'⟩
    ·obtain ⟨g',arr',el',fz',k1,k2,k3,k4,k5⟩:=h2.blk 0 _ hZ0;rw [hGZ] at k1;cases k1;exact ⟨g,arr',el',fz',hg,k2,k3,k4,qV hd1 k5⟩
    ·by_cases hl:db.live=true
     ·exact (hi.blk id db h').move hst rfl fun g' hg'=>hfr _ (hi.block_lt h' hl hg') fun e=>hne (hi.inj i _ id db g g' h0 rfl rfl h' hl hg hg' e.symm).symm
     ·cases db <;> simp_all [DB.live,dU]
   ·rcases cA hdb with ⟨rfl,rfl,_⟩|⟨hne,h'⟩
    ·have hgg:g'=g:=by
      have:X.G id=some g':=hg';rw [hg] at this;cases this;rfl
     subst hgg;exact h2.own 0 _ g' hZ0 rfl hGZ
    ·have ho:=hi.own id db g' h' hl hg';refine ⟨fun hf hS=>?_,fun hf=>(h3.kept _ (ho.2 hf)).1⟩;rcases h3.upper _ hS with h|h|⟨j,d',g2,hdb2,hl2,hg2,e⟩
     ·exact ho.1 hf h
     ·have:=hi.block_lt h' hl hg';have hYw:Y.w.heap.size=X.w.heap.size:=rfl;omega
     ·have e1:=aM hdb2;simp only [Y,List.length_cons,List.length_nil] at e1;have:j=0:=by omega
      subst this;simp only [Y,if_true,Option.some.injEq] at hg2;subst hg2;exact hne (hi.inj i _ id db g g' h0 rfl rfl h' hl hg hg' e).symm
   ·rcases cA hdb with ⟨rfl,rfl,_⟩|⟨hne,h1'⟩ <;> rcases cA hdb' with ⟨rfl,rfl,_⟩|⟨hne',h2'⟩
    ·rfl
    ·exact hi.inj id _ id' db' g1 g2 h0 rfl rfl h2' hl' hg1 hg2 he
    ·exact hi.inj id db id' _ g1 g2 h1' hl hf h0 rfl hg1 hg2 he
    ·exact hi.inj id db id' db' g1 g2 h1' hl hf h2' hl' hg1 hg2 he
  have gdY:Gnd P Y:=gd;rcases hc Y _ rfl hiY gdY hrY with ⟨h1,h2⟩|⟨v,w',h1,h2⟩
  ·exact .inl ⟨h1,h2.mono fun e w' ⟨v,he,hv⟩=>⟨v,he,key v w' hv⟩⟩
  ·exact .inr ⟨v,w',h1,key v w' h2⟩
theorem zMb {P:Program} {f:FuncId} {h:aC} {i:Nat} {c0 c1:List CV} {a:DV} {r:DV} {K:DV→aC→Prop}
  (hc:aA P f [a,.c (.ptr 0 0)] [.box c0] fun d h'=>d=r∧h'=[.box c1]) (ha:zBu a=true)
  (h0:h[i]? = some (.box c0)) (hd:(c0.all EO && (c1.all EO && zBu r))=true) (hk:K r (h.set i (.box c1))):
  aA P f [a,.c (.ptr i 0)] h K:=aA.boxA hc ha h0 hd hk
end Go.Dm
end
section
namespace Go.Dm
open Go
section
variable {P:Program} {T:Tab} {X0:Ctx} {c:Code} {Q:Exit→DS→Prop}
def zIN (n0:Nat) (s s':DS):Prop:=vH n0 s s'∨∃ i id off len x,look s.t i=.c (.own id off len)∧zAW s.h (.own id off len)=some x∧EC n0 ⟨s.n,(i,.c (.p x))::s.t,tK s.h [id]⟩ s'
theorem zIN.use {n0:Nat} {s s':DS} (h:zIN n0 s s') {X0 X:Ctx} {a:Act} (hn:X0.h.length=n0) (hh:X.h=s.h) (hi:HInv X) (hs:Step X0 X) (ht:TInv X s a):∃ X',X'.w=X.w∧X'.h=s'.h∧HInv X'∧Step X0 X'∧TInv X' s' a:=by
 rcases h with h|⟨i,id,off,len,x,hl,hp,hw⟩
 ·exact h.use hn hh hi hs ht
 ·obtain ⟨X',h1,h2,h3,h4,h5,h6⟩:=iR [id] hi;obtain ⟨X2,e1,e2,e3,e4,e5⟩:=hw.use (X:=X') hn (by rw [h2,hh]) h5 (hs.trans hi h4) ⟨ht.size,fun j=>by
   simp only [look];split
   ·rename_i hij;subst hij;have:=ht.rel j;rw [hl] at this;simp only [bA] at this;simp only [bA,bS];exact rV hi h4 h1 this (by rw [hh];exact hp) h6
   ·exact (ht.rel j).step h4,ht.defs⟩
  exact ⟨X2,e1.trans h1,e2,e3,e4,e5⟩
def zIs {α:Type} (n0:Nat) (I:α→DS) (J:α→Prop) (μ:α→Nat) (x:α) (Q:Exit→DS→Prop):Exit→DS→Prop:=fun e s'=>match e with
 | .normal=>∃ y,J y∧μ y < μ x∧zIN n0 s' (I y)
 | e=>Q e s'
theorem qd_e {α:Type} {n0:Nat} {I:α→DS} {J:α→Prop} {μ:α→Nat} {x:α} {id:Nat} {s:DS}:zIs n0 I J μ x Q (.exit id) s=Q (.exit id) s:=nr rfl
theorem qd_r {α:Type} {n0:Nat} {I:α→DS} {J:α→Prop} {μ:α→Nat} {x:α} {s:DS}:zIs n0 I J μ x Q .ret s=Q .ret s:=nr rfl
attribute [go_sem] qd_e qd_r
end
end Go.Dm
end
