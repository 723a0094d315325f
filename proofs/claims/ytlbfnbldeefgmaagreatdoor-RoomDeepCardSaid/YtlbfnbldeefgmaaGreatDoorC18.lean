/- Part 19 of the proof of roomDeep_card, set without needless blanks. No condition. -/
import Derived.Test.YtlbfnbldeefgmaaGreatDoorC17
set_option linter.all false
section
set_option maxRecDepth 100000
namespace Go.Dm
open Go
def fT (tb:List Nat) (N:Nat):aB→List Nat→aB→aB
 | h,[],zs=>h++zs.map (DB.rn tb N)
 | h,t::ts,z::zs=>fT tb N (h.set t (z.rn tb N)) ts zs
 | h,_::_,[]=>h
theorem wI {tb:List Nat} {N:Nat}:∀ {ts:List Nat} {zs h:aB},ts.length≤zs.length→ts.Nodup→(∀ t∈ts,t<h.length) →
  (fT tb N h ts zs).length=h.length+(zs.length-ts.length) ∧
  (∀ (j:Nat),j<h.length→j ∉ ts→(fT tb N h ts zs)[j]? = h[j]?) ∧
  (∀ (k t:Nat),ts[k]? = some t→(fT tb N h ts zs)[t]? = (zs[k]?).map (DB.rn tb N)) ∧
  (∀ (m:Nat),(fT tb N h ts zs)[h.length+m]? = (zs[ts.length+m]?).map (DB.rn tb N))
 | [],zs,h,_,_,_=>by
  simp only [fT,List.length_nil,Nat.sub_zero,List.length_append,List.length_map,Nat.zero_add,true_and];refine ⟨fun j hj _=>List.getElem?_append_left hj,fun k t hk=>by simp at hk,fun m=>?_⟩
  rw [List.getElem?_append_right (by omega),List.getElem?_map]
  congr 2;omega
 | t::ts,[],h,hl,_,_=>by simp at hl
 | t::ts,z::zs,h,hl,hn,hlt=>by
  simp only [List.length_cons] at hl;have hn':=List.nodup_cons.1 hn;obtain ⟨h1,h2,h3,h4⟩:=wI (tb:=tb) (N:=N) (ts:=ts) (zs:=zs) (h:=h.set t (z.rn tb N)) (by omega) hn'.2 (fun x hx=>by rw [List.length_set];exact hlt x (List.mem_cons_of_mem _ hx))
  rw [List.length_set] at h1 h2 h4;have ht:=hlt t List.mem_cons_self;simp only [fT,List.length_cons];refine ⟨by rw [h1];omega,fun j hj hjn=>?_,fun k x hk=>?_,fun m=>?_⟩
  ·rw [h2 j hj (fun hx=>hjn (List.mem_cons_of_mem _ hx)),List.getElem?_set_ne];rintro rfl;exact hjn List.mem_cons_self
  ·cases k with
   | zero =>
    simp only [List.getElem?_cons_zero,Option.some.injEq] at hk;subst hk;rw [h2 t ht hn'.1,List.getElem?_set_self ht];rfl
   | succ k =>
    simp only [List.getElem?_cons_succ] at hk ⊢;exact h3 k x hk
  ·rw [h4 m,show ts.length+1+m=(ts.length+m)+1 by omega,List.getElem?_cons_succ]
section push
variable {Y F:Ctx} {tb:List Nat} {N:Nat}
structure Push (Y F:Ctx) (tb:List Nat) (N:Nat):Prop where
 w:F.w=Y.w
 S:F.S=Y.S
 lt:∀ i,i<Y.h.length→rn tb N i<F.h.length
 h:∀ i,i<Y.h.length→F.h[rn tb N i]? = (Y.h[i]?).map (DB.rn tb N)
 G:∀ i,i<Y.h.length→F.G (rn tb N i)=Y.G i
theorem Push.inv (p:Push Y F tb N) {i:Nat} {db:DB} (hi:i<Y.h.length) (h:F.h[rn tb N i]? = some db):∃ db0,Y.h[i]? = some db0∧db=db0.rn tb N:=by
 rw [p.h _ hi] at h;obtain ⟨db0,h1,h2⟩:=Option.map_eq_some_iff.1 h;exact ⟨db0,h1,h2.symm⟩
theorem nT.push (p:Push Y F tb N) {c:KV} {v:Value} (h:nT Y c v):nT F (c.rn tb N) v:=by
 cases c <;> simp only [nT,KV.rn] at h ⊢
 case p=>rw [p.w,p.S];exact h
 case ptr id off =>
  refine ⟨p.lt _ h.1,h.2.1,fun cells hd=>?_⟩;obtain ⟨db,h1,h2⟩:=p.inv h.1 hd;cases db <;> simp only [DB.rn,reduceCtorEq] at h2;rw [p.G _ h.1];exact h.2.2 _ h1
theorem eJ.push (p:Push Y F tb N):∀ {cs:List KV} {vs:List Value},eJ Y cs vs→eJ F (cs.map (KV.rn tb N)) vs
 | [],[],_=>True.intro
 | _::_,_::_,h=>⟨nT.push p h.1,eJ.push p h.2⟩
 | [],_::_,h=>h.elim
 | _::_,[],h=>h.elim
theorem bP.push (p:Push Y F tb N) {c:CV} {v:Value} (h:bP Y c v):bP F (c.rn tb N) v:=by
 cases c <;> simp only [bP,CV.rn] at h ⊢
 case p=>rw [p.w,p.S];exact h
 case own id off len =>
  refine ⟨p.lt _ h.1,h.2.1,fun k es ro hd=>?_⟩;obtain ⟨db,h1,h2⟩:=p.inv h.1 hd;cases db <;> simp only [DB.rn,reduceCtorEq] at h2;cases h2;rw [p.G _ h.1,p.w];exact h.2.2 _ _ _ h1
 case ptr id off =>
  refine ⟨p.lt _ h.1,h.2.1,fun cells hd=>?_⟩;obtain ⟨db,h1,h2⟩:=p.inv h.1 hd;cases db <;> simp only [DB.rn,reduceCtorEq] at h2;rw [p.G _ h.1];exact h.2.2 _ h1
 case aptr id i j =>
  refine ⟨p.lt _ h.1,h.2.1,fun k es ro hd=>?_⟩;obtain ⟨db,h1,h2⟩:=p.inv h.1 hd;cases db <;> simp only [DB.rn,reduceCtorEq] at h2;cases h2;rw [p.G _ h.1];exact h.2.2 _ _ _ h1
 case bs id n =>
  refine ⟨p.lt _ h.1,h.2.1,fun cells hd=>?_⟩;obtain ⟨db,h1,h2⟩:=p.inv h.1 hd;cases db <;> simp only [DB.rn,reduceCtorEq] at h2;rw [p.G _ h.1];exact h.2.2 _ h1
 case mp id =>
  refine ⟨p.lt _ h.1,h.2.1,fun es hd=>?_⟩;obtain ⟨db,h1,h2⟩:=p.inv h.1 hd;cases db <;> simp only [DB.rn,reduceCtorEq] at h2;rw [p.G _ h.1];exact h.2.2 _ h1
 case eptr=>rw [p.w,p.S];exact h
 case full=>rw [p.w,p.S];exact h
 case clo =>
  obtain ⟨vs,h1,h2⟩:=h;exact ⟨vs,h1,eJ.push p h2⟩
theorem aY.push (p:Push Y F tb N):∀ {cs:List CV} {vs:List Value},aY Y cs vs→aY F (cs.map (CV.rn tb N)) vs
 | [],[],_=>True.intro
 | _::_,_::_,h=>⟨bP.push p h.1,aY.push p h.2⟩
 | [],_::_,h=>h.elim
 | _::_,[],h=>h.elim
theorem dL.push (p:Push Y F tb N) {c:EV} {v:Value} (h:dL Y c v):dL F (c.rn tb N) v:=by
 cases c <;> simp only [dL,EV.rn] at h ⊢
 ·exact bP.push p h
 ·obtain ⟨vs,h1,h2⟩:=h;exact ⟨vs,h1,aY.push p h2⟩
theorem cA.push (p:Push Y F tb N):∀ {cs:List EV} {vs:List Value},cA Y cs vs→cA F (cs.map (EV.rn tb N)) vs
 | [],[],_=>True.intro
 | _::_,_::_,h=>⟨dL.push p h.1,cA.push p h.2⟩
 | [],_::_,h=>h.elim
 | _::_,[],h=>h.elim
theorem aX.push (p:Push Y F tb N) {c:DV} {v:Value} (h:aX Y c v):aX F (c.rn tb N) v:=by
 cases c <;> simp only [aX,DV.rn] at h ⊢
 ·exact bP.push p h
 ·obtain ⟨vs,h1,h2⟩:=h;exact ⟨vs,h1,aY.push p h2⟩
 ·obtain ⟨vs,h1,h2⟩:=h;exact ⟨vs,h1,cA.push p h2⟩
theorem dU.push (p:Push Y F tb N) {id:Nat} {db:DB} (hid:id<Y.h.length) (h:dU Y id db):dU F (rn tb N id) (db.rn tb N):=by
 cases db <;> simp only [dU,DB.rn] at h ⊢
 case box cells =>
  obtain ⟨g,arr,el,fz,h1,h2,h3,h4,h5⟩:=h;refine ⟨g,arr,el,fz,by rw [p.G _ hid];exact h1,by rw [p.w];exact h2,by simpa using h3,h4,cI.mk fun j c hj=>?_⟩
  rw [List.getElem?_map] at hj;obtain ⟨c0,h6,rfl⟩:=Option.map_eq_some_iff.1 hj;obtain ⟨v,h7,h8⟩:=h5.at_ h6;exact ⟨v,by rw [p.w];exact h7,bP.push p h8⟩
 case arr=>rw [p.G _ hid,p.w,p.S];exact h
 case mp=>rw [p.G _ hid,p.w,p.S];exact h
end push
def xZ (tb:List Nat) (h:aB):Nat→aB→Prop
 | _,[]=>True
 | i,.dead::l=>xZ tb h (i+1) l
 | i,db::l=>h[rn tb 0 i]? = some (db.rn tb 0)∧xZ tb h (i+1) l
theorem xZ.at_ {tb:List Nat} {h:aB}:∀ {l:aB} {i j:Nat} {db:DB},xZ tb h i l→l[j]? = some db→db.live=true→h[rn tb 0 (i+j)]? = some (db.rn tb 0)
 | [],_,_,_,_,hj,_=>by simp at hj
 | x::l,i,0,db,hh,hj,hl=>by
  simp only [List.getElem?_cons_zero,Option.some.injEq] at hj;subst hj;cases x with
  | dead=>simp [DB.live] at hl
  | box _=>exact hh.1
  | arr _ _ _=>exact hh.1
  | mp _=>exact hh.1
 | x::l,i,j+1,db,hh,hj,hl=>by
  simp only [List.getElem?_cons_succ] at hj;have hh':xZ tb h (i+1) l:=by
   cases x with
   | dead=>exact hh
   | box _=>exact hh.2
   | arr _ _ _=>exact hh.2
   | mp _=>exact hh.2
  have:=xZ.at_ hh' hj hl
  rwa [show i+1+j=i+(j+1) by omega] at this
theorem zI6 {tb:List Nat} {i:Nat} {h:aB}:xZ tb h i []=True:=nr rfl
theorem zHA {tb:List Nat} {i:Nat} {h l:aB}:xZ tb h i (.dead::l)=xZ tb h (i+1) l:=nr rfl
theorem zI5 {tb:List Nat} {i:Nat} {h l:aB} {c:List CV}:xZ tb h i (.box c::l)=(h[rn tb 0 i]? = some (DB.rn tb 0 (.box c))∧xZ tb h (i+1) l):=nr rfl
theorem zI4 {tb:List Nat} {i k:Nat} {h l:aB} {es:List (List PV)} {ro:Bool}:xZ tb h i (.arr k es ro::l)=(h[rn tb 0 i]? = some (DB.rn tb 0 (.arr k es ro))∧xZ tb h (i+1) l):=nr rfl
theorem zKj {tb:List Nat} {i:Nat} {h l:aB} {es:List (Int × PV)}:xZ tb h i (.mp es::l)=(h[rn tb 0 i]? = some (DB.rn tb 0 (.mp es))∧xZ tb h (i+1) l):=nr rfl
theorem aA.sub {P:Program} {f:FuncId} {h h0:aB} {args0:List DV} {R K:DV→aB→Prop} (tb:List Nat) (hc:aA P f args0 h0 R)
  (hb:(Nat.beq tb.length h0.length && (nR tb && (tb.all (fun t=>Nat.blt t h.length) && (h0.all (bK h0.length) && args0.all (aL h0.length)))))=true) (ht:xZ tb h 0 h0)
  (hk:∀ d h',h0.length≤h'.length→R d h'→K (d.rn tb h.length) (fT tb h.length h tb h')):aA P f (args0.map (DV.rn tb 0)) h K:=by
 simp only [Bool.and_eq_true] at hb;obtain ⟨b1,b2,b3,b4,b5⟩:=hb;have b1:=Nat.eq_of_beq_eq_true b1;have hnd:=mF b2;have hlt:∀ t∈tb,t<h.length:=fun t hm=>Nat.blt_eq.mp (List.all_eq_true.1 b3 t hm);intro X vals hh hi gd hr;subst hh
 let Y:Ctx:=⟨X.w,X.S,fun i=>X.G (rn tb 0 i),h0⟩
 have hp:Pull X Y tb 0:=⟨rfl,rfl,fun i db hd hl=>by
  have:=ht.at_ hd hl
  rwa [Nat.zero_add] at this,fun i _=>rfl⟩
 have hiY:HInv Y:=hi.pull hp b4 fun i j db db' hd _ hd' _ he=>zBJ hnd (b1▸aI hd) (b1▸aI hd') he;have hrY:cZ Y args0 vals:=cZ.pull hp b5 hr;have key:∀ v w',Ret Y R v w'→Ret X K v w':=by
  rintro v w' ⟨d,Z,h1,h2,h3,h4,h5⟩;have hlen:h0.length≤Z.h.length:=h3.len;have hlen':tb.length≤Z.h.length:=by omega
  obtain ⟨q1,q2,q3,q4⟩:=wI (tb:=tb) (N:=X.h.length) (ts:=tb) (zs:=Z.h) (h:=X.h) hlen' hnd hlt
  let F:Ctx:=⟨Z.w,Z.S,fun j=>if j<X.h.length then (if j∈tb then Z.G (tb.idxOf j) else X.G j) else Z.G (tb.length+(j-X.h.length)),fT tb X.h.length X.h tb Z.h⟩
  have gat:∀ i,i<tb.length→∃ t,tb[i]? = some t∧rn tb X.h.length i=t∧t<X.h.length∧t∈tb∧tb.idxOf t=i:=fun i hi=>by
   have hm:tb[i]∈tb:=List.getElem_mem hi;exact ⟨tb[i],List.getElem?_eq_getElem hi,rP hi,hlt _ hm,hm,hnd.idxOf_getElem i hi⟩
  have hpu:Push Z F tb X.h.length:=by
   refine ⟨rfl,rfl,fun i hi=>?_,fun i hi=>?_,fun i hi=>?_⟩
   ·show _<(fT tb X.h.length X.h tb Z.h).length;rw [q1];rcases Nat.lt_or_ge i tb.length with hlt2|hge
    ·obtain ⟨t,_,e2,e3,_⟩:=gat i hlt2;rw [e2];omega
    ·rw [HP hge];omega
   ·rcases Nat.lt_or_ge i tb.length with hlt2|hge
    ·obtain ⟨t,e1,e2,_⟩:=gat i hlt2;rw [e2];exact q3 i t e1
    ·rw [HP hge];have:=q4 (i-tb.length);rw [show tb.length+(i-tb.length)=i by omega] at this
     exact this
   ·rcases Nat.lt_or_ge i tb.length with hlt2|hge
    ·obtain ⟨t,_,e2,e3,e4,e5⟩:=gat i hlt2;rw [e2];show (if t<X.h.length then (if t∈tb then Z.G (tb.idxOf t) else X.G t) else _)=_
     rw [if_pos e3,if_pos e4,e5]
    ·rw [HP hge];show (if X.h.length+(i-tb.length)<X.h.length then _ else Z.G (tb.length+(X.h.length+(i-tb.length)-X.h.length)))=_
     rw [if_neg (by omega)]
     congr 1;omega
  have fo:∀ j,j<X.h.length→j ∉ tb→F.h[j]? = X.h[j]?∧F.G j=X.G j:=fun j hj hn=>⟨q2 j hj hn,by
   show (if j<X.h.length then (if j∈tb then Z.G (tb.idxOf j) else X.G j) else _)=_
   rw [if_pos hj,if_neg hn]⟩
  have fi:∀ j,j<F.h.length→(j<X.h.length∧j ∉ tb)∨∃ i,i<Z.h.length∧j=rn tb X.h.length i:=fun j hj=>by
   have hjl:j<X.h.length+(Z.h.length-tb.length):=by rw [← q1];exact hj
   by_cases hx:j<X.h.length
   ·by_cases hm:j∈tb
    ·have hx:=List.idxOf_lt_length_iff.2 hm;exact .inr ⟨tb.idxOf j,by omega,by rw [rP hx,List.getElem_idxOf]⟩
    ·exact .inl ⟨hx,hm⟩
   ·exact .inr ⟨tb.length+(j-X.h.length),by omega,by rw [HP (by omega)];omega⟩
  have yx:∀ (k:Nat) (db:DB),Y.h[k]? = some db→db.live=true→X.h[rn tb 0 k]? = some (db.rn tb 0)∧rn tb 0 k∈tb:=fun k db hd hl=>by
   have hk:k<tb.length:=by have:=aI hd;simp only [Y] at this;omega
   exact ⟨hp.h k db hd hl,by rw [rP hk];exact List.getElem_mem hk⟩
  have away:∀ (j:Nat) (db:DB) (g:Nat × Nat),X.h[j]? = some db→db.live=true→X.G j=some g→j ∉ tb→Z.w.heap[g.1]? = X.w.heap[g.1]? := fun j db g hd hl hg hn=>by
   refine h3.frame g.1 (hi.block_lt hd hl hg) fun k db' g' hd' hl' hf' hg' e=>?_;obtain ⟨e1,e2⟩:=yx k db' hd' hl';exact hn ((hi.inj (rn tb 0 k) _ j db g' g e1 (by rw [DB.rn_live];exact hl') (by rw [DB.rn_fix];exact hf') hd hl hg' hg e)▸e2)
  have hst:Step X F:=by
   refine ⟨h3.size,h3.os,h3.tape,h3.output,h3.kept,?_,fun j db' hj hd hl=>?_,fun b hb hno=>?_,fun j db g hd hl hf hg=>?_,fun b hb=>?_⟩
   ·show _≤(fT tb X.h.length X.h tb Z.h).length;rw [q1];omega
   ·by_cases hm:j∈tb
    ·have hx:=List.idxOf_lt_length_iff.2 hm;have hj':j=rn tb X.h.length (tb.idxOf j):=by rw [rP hx,List.getElem_idxOf]
     have hj0:j=rn tb 0 (tb.idxOf j):=by rw [rP hx,List.getElem_idxOf]
     rw [hj'] at hd;obtain ⟨db1,e1,e2⟩:=hpu.inv (i:=tb.idxOf j) (by omega) hd;subst e2;rw [DB.rn_live] at hl;obtain ⟨db0,k1,k2,k3,k4⟩:=h3.ids (tb.idxOf j) db1 (by simp only [Y];omega) e1 hl;obtain ⟨e3,_⟩:=yx _ _ k1 k2.live;rw [← hj0] at e3;have hG:Z.G (tb.idxOf j)=X.G j:=by rw [k3];show X.G (rn tb 0 (tb.idxOf j))=_;rw [← hj0]
     refine ⟨_,e3,?_,?_,fun g hg=>k4 g ?_⟩
     ·exact k2.rn_lr
     ·have e5:=hpu.G (tb.idxOf j) (by omega);rw [← hj'] at e5;rw [e5,hG]
     ·show X.G (rn tb 0 (tb.idxOf j))=_;rw [← hj0];exact hg
    ·obtain ⟨e1,e2⟩:=fo j hj hm;rw [e1] at hd;refine ⟨db',hd,bX.refl hl,e2,fun g hg=>?_⟩;rw [show F.w.heap[g.1]? = X.w.heap[g.1]? from away j db' g hd hl hg hm]
     exact (hi.blk j db' hd).same hl g hg
   ·exact h3.frame b hb fun k db g hd hl hf hg=>by
     obtain ⟨e1,_⟩:=yx k db hd hl;exact hno _ _ g e1 (by rw [DB.rn_live];exact hl) (by rw [DB.rn_fix];exact hf) hg
   ·rcases fi j (aI hd) with ⟨f1,f2⟩|⟨i,f1,rfl⟩
    ·obtain ⟨e1,e2⟩:=fo j f1 f2;rw [e1] at hd;rw [e2] at hg;exact .inr ⟨j,db,g,hd,hl,hf,hg,rfl⟩
    ·obtain ⟨db1,e1,rfl⟩:=hpu.inv f1 hd;rw [hpu.G _ f1] at hg;rw [DB.rn_live] at hl;rw [DB.rn_fix] at hf;rcases h3.mine i db1 g e1 hl hf hg with h|⟨k,db0,g0,k1,k2,k3,k4,k5⟩
     ·exact .inl h
     ·obtain ⟨e3,_⟩:=yx k db0 k1 k2;exact .inr ⟨_,_,g0,e3,by rw [DB.rn_live];exact k2,by rw [DB.rn_fix];exact k3,k4,k5⟩
   ·rcases h3.upper b hb with h|h|⟨k,db0,g0,k1,k2,k4,k5⟩
    ·exact .inl h
    ·exact .inr (.inl h)
    ·obtain ⟨e3,_⟩:=yx k db0 k1 k2;exact .inr (.inr ⟨_,_,g0,e3,by rw [DB.rn_live];exact k2,k4,k5⟩)
  have noS:∀ (j:Nat) (db:DB) (g:Nat × Nat),X.h[j]? = some db→db.live=true→db.fix=false→X.G j=some g→j ∉ tb→¬ Z.S g.1:=fun j db g hd hl hf hg hn hS=>by
   rcases h3.upper g.1 hS with h|h|⟨k,db0,g0,k1,k2,k4,k5⟩
   ·exact (hi.own j db g hd hl hg).1 hf h
   ·have h6:=hi.block_lt hd hl hg;have h7:Y.w.heap.size=X.w.heap.size:=rfl;omega
   ·obtain ⟨e1,e2⟩:=yx k db0 k1 k2;exact hn ((hi.inj j db (rn tb 0 k) _ g g0 hd hl hf e1 (by rw [DB.rn_live];exact k2) hg k4 k5.symm)▸e2)
  have hiF:HInv F:=by
   refine ⟨h2.slt,fun j db hd=>?_,fun j db g hd hl hg=>?_,fun j db j' db' g g' hd hl hf hd' hl' hg hg' he=>?_⟩
   ·rcases fi j (aI hd) with ⟨f1,f2⟩|⟨i,f1,rfl⟩
    ·obtain ⟨e1,e2⟩:=fo j f1 f2;rw [e1] at hd;by_cases hl:db.live=true
     ·exact (hi.blk j db hd).move hst e2 fun g hg=>away j db g hd hl hg f2
     ·cases db <;> simp_all [DB.live,dU]
    ·obtain ⟨db1,e1,rfl⟩:=hpu.inv f1 hd;exact dU.push hpu f1 (h2.blk i db1 e1)
   ·rcases fi j (aI hd) with ⟨f1,f2⟩|⟨i,f1,rfl⟩
    ·obtain ⟨e1,e2⟩:=fo j f1 f2;rw [e1] at hd;rw [e2] at hg;exact ⟨fun hf=>noS j db g hd hl hf hg f2,fun hf=>(h3.kept _ ((hi.own j db g hd hl hg).2 hf)).1⟩
    ·obtain ⟨db1,e1,rfl⟩:=hpu.inv f1 hd;rw [hpu.G _ f1] at hg;rw [DB.rn_live] at hl;rw [DB.rn_fix];exact h2.own i db1 g e1 hl hg
   ·
    have cross:∀ (j:Nat) (db:DB) (g:Nat × Nat) (i:Nat) (db1:DB) (g1:Nat × Nat),X.h[j]? = some db→db.live=true→X.G j=some g→j ∉ tb→Z.h[i]? = some db1→db1.live=true→Z.G i=some g1→g.1=g1.1→(db.fix=false∨db1.fix=false)→False:=by
     intro j db g i db1 g1 k1 k2 k3 k4 k5 k6 k7 k8 k9;by_cases hf1:db1.fix=false
     ·rcases h3.mine i db1 g1 k5 k6 hf1 k7 with h|⟨k,db0,g0,m1,m2,m3,m4,m5⟩
      ·have h6:=hi.block_lt k1 k2 k3;have h7:Y.w.heap.size=X.w.heap.size:=rfl;omega
      ·obtain ⟨e1,e2⟩:=yx k db0 m1 m2;exact k4 ((hi.inj (rn tb 0 k) _ j db g0 g e1 (by rw [DB.rn_live];exact m2) (by rw [DB.rn_fix];exact m3) k1 k2 m4 k3 (m5.trans k8.symm))▸e2)
     ·have hS:=(h2.own i db1 g1 k5 k6 k7).2 (by simpa using hf1);rw [← k8] at hS;rcases k9 with k9|k9
      ·exact noS j db g k1 k2 k9 k3 k4 hS
      ·exact hf1 k9
    rcases fi j (aI hd) with ⟨f1,f2⟩|⟨i,f1,rfl⟩ <;> rcases fi j' (aI hd') with ⟨f1',f2'⟩|⟨i',f1',rfl⟩
    ·obtain ⟨e1,e2⟩:=fo j f1 f2;obtain ⟨e1',e2'⟩:=fo j' f1' f2';rw [e1] at hd;rw [e2] at hg;rw [e1'] at hd';rw [e2'] at hg';exact hi.inj j db j' db' g g' hd hl hf hd' hl' hg hg' he
    ·obtain ⟨e1,e2⟩:=fo j f1 f2;rw [e1] at hd;rw [e2] at hg;obtain ⟨db1,e3,rfl⟩:=hpu.inv f1' hd';rw [hpu.G _ f1'] at hg';rw [DB.rn_live] at hl';exact (cross j db g i' db1 g' hd hl hg f2 e3 hl' hg' he (.inl hf)).elim
    ·obtain ⟨e1',e2'⟩:=fo j' f1' f2';rw [e1'] at hd';rw [e2'] at hg';obtain ⟨db1,e3,rfl⟩:=hpu.inv f1 hd;rw [hpu.G _ f1] at hg;rw [DB.rn_live] at hl;rw [DB.rn_fix] at hf;exact (cross j' db' g' i db1 g hd' hl' hg' f2' e3 hl hg he.symm (.inr hf)).elim
    ·obtain ⟨db1,e3,rfl⟩:=hpu.inv f1 hd;rw [hpu.G _ f1] at hg;rw [DB.rn_live] at hl;rw [DB.rn_fix] at hf;obtain ⟨db2,e4,rfl⟩:=hpu.inv f1' hd';rw [hpu.G _ f1'] at hg';rw [DB.rn_live] at hl';rw [h2.inj i db1 i' db2 g g' e3 hl hf e4 hl' hg hg' he]
  exact ⟨d.rn tb X.h.length,F,h1,hiF,hst,aX.push hpu h4,hk d Z.h hlen h5⟩
 have gdY:Gnd P Y:=gd;rcases hc Y vals rfl hiY gdY hrY with ⟨h1,h2⟩|⟨v,w',h1,h2⟩
 ·exact .inl ⟨h1,h2.mono fun e w' ⟨v,he,hv⟩=>⟨v,he,key v w' hv⟩⟩
 ·exact .inr ⟨v,w',h1,key v w' h2⟩
theorem aS {P:Program} {f:FuncId} {h h0 h1:aB} {args args0:List DV} {r:DV} {K:DV→aB→Prop} (tb:List Nat) (hc:aA P f args0 h0 fun d h'=>d=r∧h'=h1) (ha:args0.map (DV.rn tb 0)=args)
  (hb:(Nat.beq tb.length h0.length && (nR tb && (tb.all (fun t=>Nat.blt t h.length) && (h0.all (bK h0.length) && args0.all (aL h0.length)))))=true) (ht:xZ tb h 0 h0)
  (hk:K (r.rn tb h.length) (fT tb h.length h tb h1)):aA P f args h K:=by
 subst ha;refine aA.sub tb hc hb ht fun d h' _ hd=>?_;obtain ⟨rfl,rfl⟩:=hd;exact hk
attribute [go_sem] DV.rn CV.rn EV.rn KV.rn DB.rn fT Dm.rn zI6 zHA zI5 zI4 zKj
end Go.Dm
end
section
namespace Go.Dm
open Go
theorem zG7 (l:List Ly):(cY l).all (fun e=>e.all qH)=true:=List.all_eq_true.2 fun e he=>by
 obtain ⟨x,_,rfl⟩:=List.mem_map.1 he;rfl
theorem zG8 (l:List Int):(cQ l).all (fun e=>e.all qH)=true:=List.all_eq_true.2 fun e he=>by
 obtain ⟨x,_,rfl⟩:=List.mem_map.1 he;rfl
theorem zEv (l:List Nm):(bJ l).all (fun e=>e.all qH)=true:=List.all_eq_true.2 fun e he=>by
 obtain ⟨x,_,rfl⟩:=List.mem_map.1 he;rfl
theorem zEt (l:List Ly):iK (.arr 4 (cY l) false)=true:=by simp only [iK,zG7];rfl
theorem zEu (l:List Int):iK (.arr 1 (cQ l) false)=true:=by simp only [iK,zG8];rfl
theorem zBq (l:List Nm):iK (.arr 2 (bJ l) false)=true:=by simp only [iK,zEv];rfl
def zAx:List Ly→Int→Int
 | [],_=>-1
 | x::l,a=>if x.i == a then 0 else if zAx l a == -1 then -1 else zAx l a+1
theorem GG {a:Int}:∀ {l:List Ly},(∀ (k:Nat) (x:Ly),l[k]? = some x→(x.i == a)=false)→zAx l a = -1
 | [],_=>rfl
 | x::l,h=>by
  simp only [zAx];rw [h 0 x rfl,GG (l:=l) fun k y hy=>h (k+1) y (by simpa using hy)];rfl
theorem zAy {a:Int}:∀ {l:List Ly} {i:Nat} {x:Ly},(∀ (k:Nat) (y:Ly),k<i→l[k]? = some y→(y.i == a)=false)→l[i]? = some x→(x.i == a)=true→zAx l a=i∧eA l a=some x
 | [],_,_,_,h,_=>by simp at h
 | y::l,0,x,_,h,hx=>by
  simp only [List.getElem?_cons_zero,Option.some.injEq] at h;subst h;simp only [zAx,nC];rw [hx];exact ⟨rfl,rfl⟩
 | y::l,i+1,x,hn,h,hx=>by
  simp only [List.getElem?_cons_succ] at h;obtain ⟨h1,h2⟩:=zAy (l:=l) (i:=i) (fun k z hk hz=>hn (k+1) z (by omega) (by simpa using hz)) h hx;simp only [zAx,nC];rw [hn 0 y (by omega) rfl,h1];simp only [Bool.false_eq_true,if_false];rw [if_neg (by first|(simp;done)|(simp;omega))];exact ⟨by omega,h2⟩
theorem zDO (l:List Ly) (a:Int):(eA l a=none∧zAx l a = -1)∨∃ (k:Nat) (x:Ly),eA l a=some x∧zAx l a=k∧l[k]? = some x:=by
 induction l with
 | nil=>exact .inl ⟨rfl,rfl⟩
 | cons y l ih =>
  rw [nC];simp only [zAx];cases hy:y.i == a
  ·simp only [Bool.false_eq_true,if_false];rcases ih with ⟨h1,h2⟩|⟨k,x,h1,h2,h3⟩
   ·exact .inl ⟨h1,by rw [h2];rfl⟩
   ·refine .inr ⟨k+1,x,h1,?_,by simpa using h3⟩
    rw [h2,if_neg (by first|(simp;done)|(simp;omega))];omega
  ·exact .inr ⟨0,y,by simp,by simp,rfl⟩
attribute [go_sem] zEt zEu zBq
end Go.Dm
end
section
namespace Go.Dm
open Go
theorem aA.boxA {P:Program} {f:FuncId} {h:aB} {i:Nat} {c0 c1:List CV} {a:DV} {r:DV} {K:DV→aB→Prop}
  (hc:aA P f [a,.c (.ptr 0 0)] [.box c0] fun d h'=>d=r∧h'=[.box c1])
  (ha:XJ a=true) (h0:h[i]? = some (.box c0)) (hd:(c0.all BC && (c1.all BC && XJ r))=true) (hk:K r (h.set i (.box c1))):
  aA P f [a,.c (.ptr i 0)] h K:=by
 simp only [Bool.and_eq_true] at hd;obtain ⟨hd0,hd1,hdr⟩:=hd;intro X vals hh hi gd hr;subst hh;have hlt:=aI h0;obtain ⟨g,arr,el,fz,hg,hb1,hb2,hb3,hb4⟩:=hi.blk i _ h0
 let Y:Ctx:=⟨X.w,X.S,fun j=>if j=0 then some g else none,[.box c0]⟩
 have hiY:HInv Y:=by
  refine ⟨hi.slt,fun id db hdb=>?_,fun id db g' hdb hl hg'=>?_,fun id db id' db' g1 g2 hdb _ _ hdb' _ _ _ _=>?_⟩
  ·cases id with
   | zero =>
    simp only [Y,List.getElem?_cons_zero,Option.some.injEq] at hdb;subst hdb;exact ⟨g,arr,el,fz,rfl,hb1,hb2,hb3,pF hd0 hb4⟩
   | succ n=>simp [Y] at hdb
  ·cases id with
   | zero =>
    simp only [Y,List.getElem?_cons_zero,Option.some.injEq,if_true] at hdb hg';subst hdb;subst hg';exact hi.own i _ g h0 rfl hg
   | succ n=>simp [Y] at hdb
  ·have e1:=aI hdb;have e2:=aI hdb';simp only [Y,List.length_cons,List.length_nil] at e1 e2;omega
 match vals,hr with
 | [va,v0],hr =>
  obtain ⟨hra,⟨_,hv1,hv2⟩,_⟩:=hr;obtain ⟨g',hg',rfl⟩:=hv2 _ h0;rw [hg] at hg';cases hg';have hrY:cZ Y [a,.c (.ptr 0 0)] [va,.pointer (some ⟨g.1,g.2+0,none⟩)] :=
   ⟨tG (X:=X) (Y:=Y) rfl rfl ha hra,⟨Nat.zero_lt_one,rfl,fun cells hcells=>⟨g,rfl,rfl⟩⟩,True.intro⟩
  have key:∀ v w',Ret Y (fun d h'=>d=r∧h'=[.box c1]) v w'→Ret X K v w':=by
   rintro v w' ⟨d,Z,h1,h2,h3,h4,rfl,h5⟩;have hZ0:Z.h[0]? = some (.box c1):=by rw [h5];rfl
   obtain ⟨db,e1,e2,e3,e4⟩:=h3.ids 0 _ (by simp [Y]) hZ0 rfl;have hGZ:Z.G 0=some g:=e3;have e4:=e4 g rfl;have hfr:∀ b,b<X.w.heap.size→b≠g.1→Z.w.heap[b]? = X.w.heap[b]? := fun b hb hne=>h3.frame b hb fun id db g' hdb hl hf hg'=>by
    have e1:=aI hdb;simp only [Y,List.length_cons,List.length_nil] at e1;have:id=0:=by omega
    subst this;simp only [Y,if_true,Option.some.injEq] at hg';subst hg';exact fun e=>hne e.symm
   have hst:Step X ⟨Z.w,Z.S,X.G,X.h.set i (.box c1)⟩:=by
    refine ⟨h3.size,h3.os,h3.tape,h3.output,h3.kept,by simp,fun id db' hl' hdb' hlv=>?_,fun b hb hno=>?_,fun id db g' hdb hl hf hg'=>?_,fun b hb=>?_⟩
    ·rcases bV hdb' with ⟨rfl,rfl,_⟩|⟨hne,h'⟩
     ·exact ⟨_,h0,True.intro,rfl,fun g' hg'=>by rw [hg] at hg';cases hg';exact e4⟩
     ·refine ⟨db',h',bX.refl hlv,rfl,fun g' hg'=>?_⟩;rw [show Z.w.heap[g'.1]? = X.w.heap[g'.1]? from hfr _ (hi.block_lt h' hlv hg') fun e=>hne (hi.inj i _ id db' g g' h0 rfl rfl h' hlv hg hg' e.symm).symm]
      exact (hi.blk id db' h').same hlv g' hg'
    ·exact hfr b hb fun e=>hno i _ g h0 rfl rfl hg e.symm
    ·rcases bV hdb with ⟨rfl,rfl,_⟩|⟨hne,h'⟩
     ·exact .inr ⟨id,_,g',h0,rfl,rfl,hg',rfl⟩
     ·exact .inr ⟨id,db,g',h',hl,hf,hg',rfl⟩
    ·rcases h3.upper b hb with h|h|⟨id,db,g',hdb,hl,hg',e⟩
     ·exact .inl h
     ·exact .inr (.inl h)
     ·have e1:=aI hdb;simp only [Y,List.length_cons,List.length_nil] at e1;have:id=0:=by omega
      subst this;simp only [Y,if_true,Option.some.injEq] at hg';subst hg';exact .inr (.inr ⟨i,_,g,h0,rfl,hg,e⟩)
   refine ⟨d,⟨Z.w,Z.S,X.G,X.h.set i (.box c1)⟩,h1,⟨h2.slt,fun id db hdb=>?_,fun id db g' hdb hl hg'=>?_,fun id db id' db' g1 g2 hdb hl hf hdb' hl' hg1 hg2 he=>?_⟩,hst,KN hdr h4,hk⟩
   ·rcases bV hdb with ⟨rfl,rfl,_⟩|⟨hne,h'⟩
    ·obtain ⟨g',arr',el',fz',k1,k2,k3,k4,k5⟩:=h2.blk 0 _ hZ0;rw [hGZ] at k1;cases k1;exact ⟨g,arr',el',fz',hg,k2,k3,k4,pF hd1 k5⟩
    ·by_cases hl:db.live=true
     ·exact (hi.blk id db h').move hst rfl fun g' hg'=>hfr _ (hi.block_lt h' hl hg') fun e=>hne (hi.inj i _ id db g g' h0 rfl rfl h' hl hg hg' e.symm).symm
     ·cases db <;> simp_all [DB.live,dU]
   ·rcases bV hdb with ⟨rfl,rfl,_⟩|⟨hne,h'⟩
    ·have hgg:g'=g:=by
      have:X.G id=some g':=hg';rw [hg] at this;cases this;rfl
     subst hgg;exact h2.own 0 _ g' hZ0 rfl hGZ
    ·have ho:=hi.own id db g' h' hl hg';refine ⟨fun hf hS=>?_,fun hf=>(h3.kept _ (ho.2 hf)).1⟩;rcases h3.upper _ hS with h|h|⟨j,d',g2,hdb2,hl2,hg2,e⟩
     ·exact ho.1 hf h
     ·have:=hi.block_lt h' hl hg';have hYw:Y.w.heap.size=X.w.heap.size:=rfl;omega
     ·have e1:=aI hdb2;simp only [Y,List.length_cons,List.length_nil] at e1;have:j=0:=by omega
      subst this;simp only [Y,if_true,Option.some.injEq] at hg2;subst hg2;exact hne (hi.inj i _ id db g g' h0 rfl rfl h' hl hg hg' e).symm
   ·rcases bV hdb with ⟨rfl,rfl,_⟩|⟨hne,h1'⟩ <;> rcases bV hdb' with ⟨rfl,rfl,_⟩|⟨hne',h2'⟩
    ·rfl
    ·exact hi.inj id _ id' db' g1 g2 h0 rfl rfl h2' hl' hg1 hg2 he
    ·exact hi.inj id db id' _ g1 g2 h1' hl hf h0 rfl hg1 hg2 he
    ·exact hi.inj id db id' db' g1 g2 h1' hl hf h2' hl' hg1 hg2 he
  have gdY:Gnd P Y:=gd;rcases hc Y _ rfl hiY gdY hrY with ⟨h1,h2⟩|⟨v,w',h1,h2⟩
  ·exact .inl ⟨h1,h2.mono fun e w' ⟨v,he,hv⟩=>⟨v,he,key v w' hv⟩⟩
  ·exact .inr ⟨v,w',h1,key v w' h2⟩
theorem zI9 {P:Program} {f:FuncId} {h:aB} {i:Nat} {c0 c1:List CV} {a:DV} {r:DV} {K:DV→aB→Prop}
  (hc:aA P f [a,.c (.ptr 0 0)] [.box c0] fun d h'=>d=r∧h'=[.box c1]) (ha:XJ a=true)
  (h0:h[i]? = some (.box c0)) (hd:(c0.all BC && (c1.all BC && XJ r))=true) (hk:K r (h.set i (.box c1))):
  aA P f [a,.c (.ptr i 0)] h K:=aA.boxA hc ha h0 hd hk
end Go.Dm
end
