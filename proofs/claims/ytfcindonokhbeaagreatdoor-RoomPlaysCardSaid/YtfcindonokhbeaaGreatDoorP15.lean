/- Part 16 of roomPlays_card. No condition. -/
import Derived.Test.YtfcindonokhbeaaGreatDoorP14
set_option linter.all false
set_option maxRecDepth 100000
set_option maxHeartbeats 0
section
namespace Go.Dm
open Go
section
def nB(tb:List Nat)(N:Nat):aF->List Nat->aF->aF
 | h,[],a=>h++a.map (DB.rn tb N)
 | h,t::b,z::a=>nB tb N (h.set t (z.rn tb N)) b a
 | h,_::_,[]=>h
def XU{tb:List Nat}{N:Nat}:∀{ts:List Nat} {zs h:aF},ts.length<=zs.length->ts.Nodup->(∀t∈ts,t<h.length) ->
  (nB tb N h ts zs).length=h.length+(zs.length-ts.length) /\
  (∀(j:Nat),j<h.length->j ∉ ts->(nB tb N h ts zs)[j]?=h[j]?) /\
  (∀(k t:Nat),ts[k]?=some t->(nB tb N h ts zs)[t]?=(zs[k]?).map (DB.rn tb N)) /\
  (∀(m:Nat),(nB tb N h ts zs)[h.length+m]?=(zs[ts.length+m]?).map (DB.rn tb N))
 | [],zs,h,_,_,_=>by
  simp only[nB,da,kx,bo,di,fm,i6];refine⟨λj e _=>fu e,λk t a=>by simp at a,λm=>?_⟩
  rw[gv qd,dv]
  congr 2;omega
 | t::ts,[],h,g,_,_=>by simp at g
 | t::ts,z::zs,h,g,s,b=>by
  simp only[bw] at g;have c:=ja.1 s;obtain⟨p,n,u,q⟩:=XU (tb:=tb) (N:=N) (ts:=ts) (zs:=zs) (h:=h.set t (z.rn tb N)) qd c.2 (λx o=>by rw[ff];exact b x (cu _ o))
  rw[ff] at p n q;have r:=b t cz;simp only[nB,bw];refine⟨by rw[p];omega,λj e d=>?_,λk x a=>?_,λm=>?_⟩
  .rw[n j e (λo=>d (cu _ o)),il];rintro rfl;exact d cz
  .cases k with
   | zero =>
    simp only[eu,b0] at a;subst a;rw[n t r c.1,j6 r];rfl
   | succ k =>
    simp only[fp] at a ⊢;exact u k x a
  .rw[q m,show ts.length+1+m=(ts.length+m)+1 by omega,fp]
section push
variable {Y F:Ctx}{tb:List Nat}{N:Nat}
variable {db:DB}{v:Value}
structure Push (Y F:Ctx) (tb:List Nat) (N:Nat):Prop where
 w:F.w=Y.w
 S:F.S=Y.S
 lt:∀i,i<Y.h.length->rn tb N i<F.h.length
 h:∀i,i<Y.h.length->F.h[rn tb N i]?=(Y.h[i]?).map (DB.rn tb N)
 G:∀i,i<Y.h.length->F.G (rn tb N i)=Y.G i
theorem Push.inv(p:Push Y F tb N){i:Nat}(hi:i<Y.h.length)(h:F.h[rn tb N i]?=some db):∃a,Y.h[i]?=some a/\db=a.rn tb N:=by
 rw[p.h _ hi] at h;obtain⟨a,b,c⟩:=du.1 h;exact⟨a,b,c.symm⟩
theorem rO.push(p:Push Y F tb N){c:KV}(h:rO Y c v):rO F (c.rn tb N) v:=by
 cases c<;>simp only[rO,KV.rn] at h ⊢
 case p=>rw[p.w,p.S];exact h
 case ptr id a =>
  refine⟨p.lt _ h.1,h.2.1,λcells b=>?_⟩;obtain⟨db,d,e⟩:=p.inv h.1 b;cases db<;>simp only[DB.rn,reduceCtorEq] at e;rw[p.G _ h.1];exact h.2.2 _ d
theorem gI.push(p:Push Y F tb N):∀{cs:List KV} {vs:Bb},gI Y cs vs->gI F (cs.map (KV.rn tb N)) vs
 | [],[],_=>True.intro
 | _::_,_::_,h=>⟨rO.push p h.1,gI.push p h.2⟩
 | [],_::_,h=>h.elim
 | _::_,[],h=>h.elim
theorem cJ.push(p:Push Y F tb N){c:CV}(h:cJ Y c v):cJ F (c.rn tb N) v:=by
 cases c<;>simp only[cJ,CV.rn] at h ⊢
 case p=>rw[p.w,p.S];exact h
 case own id e len =>
  refine⟨p.lt _ h.1,h.2.1,λk g m d=>?_⟩;obtain⟨db,b,a⟩:=p.inv h.1 d;cases db<;>simp only[DB.rn,reduceCtorEq] at a;cases a;rw[p.G _ h.1,p.w];exact h.2.2 _ _ _ b
 case ptr id e =>
  refine⟨p.lt _ h.1,h.2.1,λcells d=>?_⟩;obtain⟨db,b,a⟩:=p.inv h.1 d;cases db<;>simp only[DB.rn,reduceCtorEq] at a;rw[p.G _ h.1];exact h.2.2 _ b
 case aptr id i j =>
  refine⟨p.lt _ h.1,h.2.1,λk g m d=>?_⟩;obtain⟨db,b,a⟩:=p.inv h.1 d;cases db<;>simp only[DB.rn,reduceCtorEq] at a;cases a;rw[p.G _ h.1];exact h.2.2 _ _ _ b
 case bs id n =>
  refine⟨p.lt _ h.1,h.2.1,λcells d=>?_⟩;obtain⟨db,b,a⟩:=p.inv h.1 d;cases db<;>simp only[DB.rn,reduceCtorEq] at a;rw[p.G _ h.1];exact h.2.2 _ b
 case mp id =>
  refine⟨p.lt _ h.1,h.2.1,λg d=>?_⟩;obtain⟨db,b,a⟩:=p.inv h.1 d;cases db<;>simp only[DB.rn,reduceCtorEq] at a;rw[p.G _ h.1];exact h.2.2 _ b
 case eptr=>rw[p.w,p.S];exact h
 case full=>rw[p.w,p.S];exact h
 case clo =>
  obtain⟨o,b,a⟩:=h;exact⟨o,b,gI.push p a⟩
theorem bP.push(p:Push Y F tb N):∀{cs:Bf} {vs:Bb},bP Y cs vs->bP F (cs.map (CV.rn tb N)) vs
 | [],[],_=>True.intro
 | _::_,_::_,h=>⟨cJ.push p h.1,bP.push p h.2⟩
 | [],_::_,h=>h.elim
 | _::_,[],h=>h.elim
theorem fK.push(p:Push Y F tb N){c:EV}(h:fK Y c v):fK F (c.rn tb N) v:=by
 cases c<;>simp only[fK,EV.rn] at h ⊢
 .exact cJ.push p h
 .obtain⟨a,b,d⟩:=h;exact⟨a,b,bP.push p d⟩
theorem cY.push(p:Push Y F tb N):∀{cs:Bj} {vs:Bb},cY Y cs vs->cY F (cs.map (EV.rn tb N)) vs
 | [],[],_=>True.intro
 | _::_,_::_,h=>⟨fK.push p h.1,cY.push p h.2⟩
 | [],_::_,h=>h.elim
 | _::_,[],h=>h.elim
theorem bH.push(p:Push Y F tb N){c:DV}(h:bH Y c v):bH F (c.rn tb N) v:=by
 cases c<;>simp only[bH,DV.rn] at h ⊢
 .exact cJ.push p h
 .obtain⟨a,b,d⟩:=h;exact⟨a,b,bP.push p d⟩
 .obtain⟨a,b,d⟩:=h;exact⟨a,b,cY.push p d⟩
theorem fI.push(p:Push Y F tb N){id:Nat}(hid:id<Y.h.length)(h:fI Y id db):fI F (rn tb N id) (db.rn tb N):=by
 cases db<;>simp only[fI,DB.rn] at h ⊢
 case box cells =>
  obtain⟨g,arr,b,d,e,k,m,n,o⟩:=h;refine⟨g,arr,b,d,by rw[p.G _ hid];exact e,by rw[p.w];exact k,by simpa using m,n,cR.mk λj c a=>?_⟩
  rw[dv] at a;obtain⟨t,q,rfl⟩:=du.1 a;obtain⟨v,r,s⟩:=o.at_ q;exact⟨v,by rw[p.w];exact r,cJ.push p s⟩
 case arr=>rw[p.G _ hid,p.w,p.S];exact h
 case mp=>rw[p.G _ hid,p.w,p.S];exact h
end push
variable {tb:List Nat}{h l h0:aF}{i:Nat}{P:Program}{f:FuncId}{args0:Bi}{K:Bd}
def SK(tb:List Nat)(h:aF):Nat->aF->Prop
 | _,[]=>True
 | i,.dead::l=>SK tb h (i+1) l
 | i,db::l=>h[rn tb 0 i]?=some (db.rn tb 0)/\SK tb h (i+1) l
theorem SK.at_: ∀{l:aF} {i j:Nat} {db:DB},SK tb h i l->l[j]?=some db->db.live=true->h[rn tb 0 (i+j)]?=some (db.rn tb 0)
 | [],_,_,_,_,b,_=>by simp at b
 | x::l,i,0,db,a,b,c=>by
  simp only[eu,b0] at b;subst b;cases x with
  | dead=>simp[DB.live] at c
  | box _=>exact a.1
  | arr _ _ _=>exact a.1
  | mp _=>exact a.1
 | x::l,i,j+1,db,a,b,c=>by
  simp only[fp] at b;have d:SK tb h (i+1) l:=by
   cases x with
   | dead=>exact a
   | box _=>exact a.2
   | arr _ _ _=>exact a.2
   | mp _=>exact a.2
  have:=SK.at_ d b c
  rwa[show i+1+j=i+(j+1) by omega] at this
theorem zSO: SK tb h i []=True:=nr rfl
theorem zQT: SK tb h i (.dead::l)=SK tb h (i+1) l:=nr rfl
theorem zSN{c:Bf}:SK tb h i (.box c::l)=(h[rn tb 0 i]?=some (DB.rn tb 0 (.box c))/\SK tb h (i+1) l):=nr rfl
theorem zSM{k:Nat}{es:Bc}{a:Bool}:SK tb h i (.arr k es a::l)=(h[rn tb 0 i]?=some (DB.rn tb 0 (.arr k es a))/\SK tb h (i+1) l):=nr rfl
theorem zT2{es:List (Int × PV)}:SK tb h i (.mp es::l)=(h[rn tb 0 i]?=some (DB.rn tb 0 (.mp es))/\SK tb h (i+1) l):=nr rfl
theorem aA.sub{R:Bd}(tb:List Nat)(hc:aA P f args0 h0 R)
 (hb:(Nat.beq tb.length h0.length && (uY tb && (tb.all (λt=>Nat.blt t h.length) && (h0.all (cG h0.length) && args0.all (bD h0.length)))))=true)(ht:SK tb h 0 h0)
 (hk:∀d h',h0.length<=h'.length->R d h'->K (d.rn tb h.length) (nB tb h.length h tb h')):aA P f (args0.map (DV.rn tb 0)) h K:=by
 simp only[bn] at hb;obtain⟨b1,b2,b3,b4,b5⟩:=hb;have b1:=pc b1;have hnd:=FR b2;have hlt:∀t∈tb,t<h.length:=λt I=>Nat.blt_eq.mp (fb.1 b3 t I);intro X vals hh u gd hr;subst hh
 let Y:Ctx:=⟨X.w,X.S,λi=>X.G (rn tb 0 i),h0⟩
 have hp:Pull X Y tb 0:=⟨rfl,rfl,λi db a m=>by
  have:=ht.at_ a m
  rwa[fm] at this,λi _=>rfl⟩
 have hiY:HInv Y:=u.pull hp b4 λi j db x a _ r _ T=>zOq hnd (b1▸aR a) (b1▸aR r) T;have hrY:eC Y args0 vals:=eC.pull hp b5 hr;have key:∀v w',Ret Y R v w'->Ret X K v w':=by
  rintro v w' ⟨d,Z,h1,Q,H,h4,h5⟩;have hlen:h0.length<=Z.h.length:=H.len;have hlen':tb.length<=Z.h.length:=qd
  obtain⟨q1,q2,q3,q4⟩:=XU (tb:=tb) (N:=X.h.length) (ts:=tb) (zs:=Z.h) (h:=X.h) hlen' hnd hlt
  let F:Ctx:=⟨Z.w,Z.S,λj=>if j<X.h.length then (if j∈tb then Z.G (tb.idxOf j) else X.G j) else Z.G (tb.length+(j-X.h.length)),nB tb X.h.length X.h tb Z.h⟩
  have gat:∀i,i<tb.length->∃t,tb[i]?=some t/\rn tb X.h.length i=t/\t<X.h.length/\t∈tb/\tb.idxOf t=i:=λi u=>by
   have I:tb[i]∈tb:=ch u;exact⟨tb[i],ay u,zBr u,hlt _ I,I,hnd.idxOf_getElem i u⟩
  have n:Push Z F tb X.h.length:=by
   refine⟨rfl,rfl,λi u=>?_,λi u=>?_,λi u=>?_⟩
   .show _<(nB tb X.h.length X.h tb Z.h).length;rw[q1];rcases cc i tb.length with A|J
    .obtain⟨t,_,q,C,_⟩:=gat i A;rw[q];omega
    .rw[zNe J];omega
   .rcases cc i tb.length with A|J
    .obtain⟨t,p,q,_⟩:=gat i A;rw[q];exact q3 i t p
    .rw[zNe J];have:=q4 (i-tb.length);rw[show tb.length+(i-tb.length)=i by omega] at this
     exact this
   .rcases cc i tb.length with A|J
    .obtain⟨t,_,q,C,e4,e5⟩:=gat i A;rw[q];show (if t<X.h.length then (if t∈tb then Z.G (tb.idxOf t) else X.G t) else _)=_
     rw[aw C,aw e4,e5]
    .rw[zNe J];show (if X.h.length+(i-tb.length)<X.h.length then _ else Z.G (tb.length+(X.h.length+(i-tb.length)-X.h.length)))=_
     rw[au qd]
     congr 1;omega
  have U:∀j,j<X.h.length->j ∉ tb->F.h[j]?=X.h[j]?/\F.G j=X.G j:=λj hj hn=>⟨q2 j hj hn,by
   show (if j<X.h.length then (if j∈tb then Z.G (tb.idxOf j) else X.G j) else _)=_
   rw[aw hj,au hn]⟩
  have fi:∀j,j<F.h.length->(j<X.h.length/\j ∉ tb)∨∃i,i<Z.h.length/\j=rn tb X.h.length i:=λj hj=>by
   have hjl:j<X.h.length+(Z.h.length-tb.length):=by rw[<- q1];exact hj
   by_cases hx:j<X.h.length
   .by_cases I:j∈tb
    .have hx:=List.idxOf_lt_length_iff.2 I;exact .inr ⟨tb.idxOf j,qd,by rw[zBr hx,pw]⟩
    .exact .inl ⟨hx,I⟩
   .exact .inr ⟨tb.length+(j-X.h.length),qd,by rw[zNe qd];omega⟩
  have yx:∀(k:Nat) (db:DB),Y.h[k]?=some db->db.live=true->X.h[rn tb 0 k]?=some (db.rn tb 0)/\rn tb 0 k∈tb:=λk db a m=>by
   have hk:k<tb.length:=by have:=aR a;simp only[Y] at this;omega
   exact⟨hp.h k db a m,by rw[zBr hk];exact ch hk⟩
  have V:∀(j:Nat) (db:DB) (g:Nat × Nat),X.h[j]?=some db->db.live=true->X.G j=some g->j ∉ tb->Z.w.heap[g.1]?=X.w.heap[g.1]? := λj db g a m o hn=>by
   refine H.frame g.1 (u.block_lt a m o) λk x g' r y hf' s e=>?_;obtain⟨p,q⟩:=yx k x r y;exact hn ((u.inj (rn tb 0 k) _ j db g' g p (by rw[DB.rn_live];exact y) (by rw[DB.rn_fix];exact hf') a m s o e)▸q)
  have hst:Step X F:=by
   refine⟨H.size,H.os,H.tape,H.output,H.kept,?_,λj x hj a m=>?_,λb hb hno=>?_,λj db g a m z o=>?_,λb hb=>?_⟩
   .show _<=(nB tb X.h.length X.h tb Z.h).length;rw[q1];omega
   .by_cases I:j∈tb
    .have hx:=List.idxOf_lt_length_iff.2 I;have hj':j=rn tb X.h.length (tb.idxOf j):=by rw[zBr hx,pw]
     have hj0:j=rn tb 0 (tb.idxOf j):=by rw[zBr hx,pw]
     rw[hj'] at a;obtain⟨c,p,q⟩:=n.inv (i:=tb.idxOf j) qd a;subst q;rw[DB.rn_live] at m;obtain⟨B,L,D,k3,O⟩:=H.ids (tb.idxOf j) c (by simp only[Y];omega) p m;obtain⟨C,_⟩:=yx _ _ L D.live;rw[<- hj0] at C;have hG:Z.G (tb.idxOf j)=X.G j:=by rw[k3];show X.G (rn tb 0 (tb.idxOf j))=_;rw[<- hj0]
     refine⟨_,C,?_,?_,λg o=>O g ?_⟩
     .exact D.rn_lr
     .have e5:=n.G (tb.idxOf j) qd;rw[<- hj'] at e5;rw[e5,hG]
     .show X.G (rn tb 0 (tb.idxOf j))=_;rw[<- hj0];exact o
    .obtain⟨p,q⟩:=U j hj I;rw[p] at a;refine⟨x,a,cX.refl m,q,λg o=>?_⟩;rw[show F.w.heap[g.1]?=X.w.heap[g.1]? from V j x g a m o I]
     exact(u.blk j x a).same m g o
   .exact H.frame b hb λk db g a m z o=>by
     obtain⟨p,_⟩:=yx k db a m;exact hno _ _ g p (by rw[DB.rn_live];exact m) (by rw[DB.rn_fix];exact z) o
   .rcases fi j (aR a) with⟨f1,f2⟩|⟨i,f1,rfl⟩
    .obtain⟨p,q⟩:=U j f1 f2;rw[p] at a;rw[q] at o;exact .inr ⟨j,db,g,a,m,z,o,rfl⟩
    .obtain⟨c,p,rfl⟩:=n.inv f1 a;rw[n.G _ f1] at o;rw[DB.rn_live] at m;rw[DB.rn_fix] at z;rcases H.mine i c g p m z o with h|⟨k,B,g0,L,D,k3,O,W⟩
     .exact .inl h
     .obtain⟨C,_⟩:=yx k B L D;exact .inr ⟨_,_,g0,C,by rw[DB.rn_live];exact D,by rw[DB.rn_fix];exact k3,O,W⟩
   .rcases H.upper b hb with h|h|⟨k,B,g0,L,D,O,W⟩
    .exact .inl h
    .exact .inr (.inl h)
    .obtain⟨C,_⟩:=yx k B L D;exact .inr (.inr ⟨_,_,g0,C,by rw[DB.rn_live];exact D,O,W⟩)
  have noS:∀(j:Nat) (db:DB) (g:Nat × Nat),X.h[j]?=some db->db.live=true->db.fix=false->X.G j=some g->j ∉ tb->¬ Z.S g.1:=λj db g a m z o hn hS=>by
   rcases H.upper g.1 hS with h|h|⟨k,B,g0,L,D,O,W⟩
   .exact(u.own j db g a m o).1 z h
   .have h6:=u.block_lt a m o;have h7:Y.w.heap.size=X.w.heap.size:=rfl;omega
   .obtain⟨p,q⟩:=yx k B L D;exact hn ((u.inj j db (rn tb 0 k) _ g g0 a m z p (by rw[DB.rn_live];exact D) o O W.symm)▸q)
  have hiF:HInv F:=by
   refine⟨Q.slt,λj db a=>?_,λj db g a m o=>?_,λj db j' x g g' a m z r y o s T=>?_⟩
   .rcases fi j (aR a) with⟨f1,f2⟩|⟨i,f1,rfl⟩
    .obtain⟨p,q⟩:=U j f1 f2;rw[p] at a;by_cases m:db.live=true
     .exact(u.blk j db a).move hst q λg o=>V j db g a m o f2
     .cases db<;>simp_all[DB.live,fI]
    .obtain⟨c,p,rfl⟩:=n.inv f1 a;exact fI.push n f1 (Q.blk i c p)
   .rcases fi j (aR a) with⟨f1,f2⟩|⟨i,f1,rfl⟩
    .obtain⟨p,q⟩:=U j f1 f2;rw[p] at a;rw[q] at o;exact⟨λz=>noS j db g a m z o f2,λz=>(H.kept _ ((u.own j db g a m o).2 z)).1⟩
    .obtain⟨c,p,rfl⟩:=n.inv f1 a;rw[n.G _ f1] at o;rw[DB.rn_live] at m;rw[DB.rn_fix];exact Q.own i c g p m o
   ·
    have M:∀(j:Nat) (db:DB) (g:Nat × Nat) (i:Nat) (c:DB) (g1:Nat × Nat),X.h[j]?=some db->db.live=true->X.G j=some g->j ∉ tb->Z.h[i]?=some c->c.live=true->Z.G i=some g1->g.1=g1.1->(db.fix=false∨c.fix=false)->False:=by
     intro j db g i c g1 L D k3 O W k6 k7 k8 k9;by_cases hf1:c.fix=false
     .rcases H.mine i c g1 W k6 hf1 k7 with h|⟨k,B,g0,m1,m2,m3,m4,m5⟩
      .have h6:=u.block_lt L D k3;have h7:Y.w.heap.size=X.w.heap.size:=rfl;omega
      .obtain⟨p,q⟩:=yx k B m1 m2;exact O ((u.inj (rn tb 0 k) _ j db g0 g p (by rw[DB.rn_live];exact m2) (by rw[DB.rn_fix];exact m3) L D m4 k3 (m5.trans k8.symm))▸q)
     .have hS:=(Q.own i c g1 W k6 k7).2 (by simpa using hf1);rw[<- k8] at hS;rcases k9 with k9|k9
      .exact noS j db g L D k9 k3 O hS
      .exact hf1 k9
    rcases fi j (aR a) with⟨f1,f2⟩|⟨i,f1,rfl⟩<;>rcases fi j' (aR r) with⟨E,f2'⟩|⟨i',E,rfl⟩
    .obtain⟨p,q⟩:=U j f1 f2;obtain⟨e1',e2'⟩:=U j' E f2';rw[p] at a;rw[q] at o;rw[e1'] at r;rw[e2'] at s;exact u.inj j db j' x g g' a m z r y o s T
    .obtain⟨p,q⟩:=U j f1 f2;rw[p] at a;rw[q] at o;obtain⟨c,C,rfl⟩:=n.inv E r;rw[n.G _ E] at s;rw[DB.rn_live] at y;exact(M j db g i' c g' a m o f2 C y s T (.inl z)).elim
    .obtain⟨e1',e2'⟩:=U j' E f2';rw[e1'] at r;rw[e2'] at s;obtain⟨c,C,rfl⟩:=n.inv f1 a;rw[n.G _ f1] at o;rw[DB.rn_live] at m;rw[DB.rn_fix] at z;exact(M j' x g' i c g r y s f2' C m o T.symm (.inr z)).elim
    .obtain⟨c,C,rfl⟩:=n.inv f1 a;rw[n.G _ f1] at o;rw[DB.rn_live] at m;rw[DB.rn_fix] at z;obtain⟨db2,e4,rfl⟩:=n.inv E r;rw[n.G _ E] at s;rw[DB.rn_live] at y;rw[Q.inj i c i' db2 g g' C m z e4 y o s T]
  exact⟨d.rn tb X.h.length,F,h1,hiF,hst,bH.push n h4,hk d Z.h hlen h5⟩
 have gdY:Gnd P Y:=gd;rcases hc Y vals rfl hiY gdY hrY with⟨h1,Q⟩|⟨v,w',h1,Q⟩
 .exact .inl ⟨h1,Q.mono λe w' ⟨v,T,hv⟩=>⟨v,T,key v w' hv⟩⟩
 .exact .inr ⟨v,w',h1,key v w' Q⟩
theorem zOy{h1:aF}{args:Bi}{r:DV}(tb:List Nat)(b:aA P f args0 h0 λd a=>d=r/\a=h1)(c:args0.map (DV.rn tb 0)=args)
 (e:(Nat.beq tb.length h0.length && (uY tb && (tb.all (λt=>Nat.blt t h.length) && (h0.all (cG h0.length) && args0.all (bD h0.length)))))=true)(g:SK tb h 0 h0)
 (j:K (r.rn tb h.length) (nB tb h.length h tb h1)):aA P f args h K:=by
 subst c;refine aA.sub tb b e g λd a _ k=>?_;obtain⟨rfl,rfl⟩:=k;exact j
attribute [go_sem] DV.rn CV.rn EV.rn KV.rn DB.rn nB Dm.rn zSO zQT zSN zSM zT2
theorem uS{P:Program}{f:FuncId}{h h0 h1:aF}{args args0:Bi}{r:DV}{K:Bd}(tb:List Nat)(a:aA P f args0 h0 λd b=>d=r/\b=h1)(c:K (r.rn tb h.length) (nB tb h.length h tb h1))(e:args0.map (DV.rn tb 0)=args:=by exact rfl)
  (g:(Nat.beq tb.length h0.length && (uY tb && (tb.all (λt=>Nat.blt t h.length) && (h0.all (cG h0.length) && args0.all (bD h0.length)))))=true:=by exact rfl)(j:SK tb h 0 h0:=by (simp only[go_sem]<;>fail)):aA P f args h K:=zOy tb a e g j c
theorem hpK{tb:List Nat}{n0 i:Nat}{h l:aF}(H:HR tb n0 h i l:=by (simp only[zR4,zPC,zR3,zR2,zTD];(repeat' (first|exact rfl|exact True.intro|refine And.intro ?_ ?_))<;>fail)):HR tb n0 h i l:=H
theorem wpK{tb:List Nat}{n:Nat}{t t':Fr}(H:WkP tb n t t':=by (simp only[zQ8,zTd];(repeat' (first|exact rfl|exact True.intro|refine And.intro ?_ ?_))<;>fail)):WkP tb n t t':=H
end
def zQd(l:Bm):(cZ l).all (λe=>e.all yF)=true:=fb.2 λe a=>by
 obtain⟨x,_,rfl⟩:=cg.1 a;rfl
def zQe(l:List Int):(cU l).all (λe=>e.all yF)=true:=fb.2 λe a=>by
 obtain⟨x,_,rfl⟩:=cg.1 a;rfl
def zMO(l:Bn):(bW l).all (λe=>e.all yF)=true:=fb.2 λe a=>by
 obtain⟨x,_,rfl⟩:=cg.1 a;rfl
def zML(l:Bm):lR (.arr 4 (cZ l) false)=true:=by simp only[lR,zQd];rfl
def zMM(l:List Int):lR (.arr 1 (cU l) false)=true:=by simp only[lR,zQe];rfl
def zIM(l:Bn):lR (.arr 2 (bW l) false)=true:=by simp only[lR,zMO];rfl
def zHA:Bm->Int->Int
 | [],_=>-1
 | x::l,a=>if x.i==a then 0 else if zHA l a == -1 then -1 else zHA l a+1
def WB{a:Int}:∀{l:Bm},(∀(k:Nat) (x:Ly),l[k]?=some x->(x.i==a)=false)->zHA l a = -1
 | [],_=>rfl
 | x::l,h=>by
  simp only[zHA];rw[h 0 x rfl,WB (l:=l) λk y b=>h (k+1) y (by simpa using b)];rfl
def zAT{a:Int}:∀{l:Bm} {i:Nat} {x:Ly},(∀(k:Nat) (y:Ly),k<i->l[k]?=some y->(y.i==a)=false)->l[i]?=some x->(x.i==a)=true->zHA l a=i/\fQ l a=some x
 | [],_,_,_,h,_=>by simp at h
 | y::l,0,x,_,h,b=>by
  simp only[eu,b0] at h;subst h;simp only[zHA,tP];rw[b];exact⟨rfl,rfl⟩
 | y::l,i+1,x,c,h,b=>by
  simp only[fp] at h;obtain⟨d,e⟩:=zAT (l:=l) (i:=i) (λk z g f=>c (k+1) z qd (by simpa using f)) h b;simp only[zHA,tP];rw[c 0 y qd rfl,d];simp only[av,ax];rw[au q9];exact⟨qd,e⟩
def zLR(l:Bm)(a:Int):(fQ l a=none/\zHA l a = -1)∨∃(k:Nat) (x:Ly),fQ l a=some x/\zHA l a=k/\l[k]?=some x:=by
 induction l with
 | nil=>exact .inl ⟨rfl,rfl⟩
 | cons y l d =>
  rw[tP];simp only[zHA];cases f:y.i==a
  .simp only[av,ax];rcases d with⟨b,c⟩|⟨k,x,b,c,e⟩
   .exact .inl ⟨b,by rw[c];rfl⟩
   .refine .inr ⟨k+1,x,b,?_,by simpa using e⟩
    rw[c,au q9];omega
  .exact .inr ⟨0,y,ql,ql,rfl⟩
attribute [go_sem] zML zMM zIM
section
variable {a:Int}{l:List Int}{i:Nat}
def zHB: List Int->Int->Int
 | [],_=>-1
 | x::l,a=>if a==x then 0 else if zHB l a == -1 then -1 else zHB l a+1
theorem WC: ∀{l:List Int},(∀(k:Nat) (x:Int),l[k]?=some x->(a==x)=false)->zHB l a = -1
 | [],_=>rfl
 | x::l,h=>by
  simp only[zHB];rw[h 0 x rfl,WC (l:=l) λk y b=>h (k+1) y (by simpa using b)];rfl
theorem zHC: ∀{l:List Int} {i:Nat} {x:Int},(∀(k:Nat) (y:Int),k<i->l[k]?=some y->(a==y)=false)->l[i]?=some x->(a==x)=true->zHB l a=i
 | [],_,_,_,h,_=>by simp_all
 | y::l,0,x,_,h,b=>by grind [zHB]
 | y::l,i+1,x,c,h,b=>by
  have d:=zHC (l:=l) (i:=i) (λk z f e=>c (k+1) z qd (by simpa using e)) h b;simp only[zHB];rw[c 0 y qd rfl,d];simp_all
theorem zL5(l:List Int)(a:Int):0<=zHB l a↔a∈l:=by
 induction l<;>grind [zHB]
theorem zL4(l:List Int)(a:Int):decide (0<=zHB l a)=l.contains a:=by grind [zL5]
def swI(l:List Int)(i:Nat):List Int:=(List.range l.length).map λk=>if k<i∨l.length<=k+i then l.getD (l.length-1-k) 0 else l.getD k 0
theorem RV(l:List Int)(i:Nat):(swI l i).length=l.length:=by simp[swI]
theorem ZN(l:List Int)(i k:Nat)(h:k<l.length):(swI l i)[k]?=some (if k<i∨l.length<=k+i then l.getD (l.length-1-k) 0 else l.getD k 0):=by grind [swI]
theorem zNo(l:List Int):swI l 0=l:=by
 apply ir;grind [ZN,RV]
theorem zQJ(h:l.length<=2*i+1):swI l i=l.reverse:=by
 apply ir;grind [ZN,RV]
theorem zSJ(h:2*i+1<l.length):(swI l i)[i]?=some (l.getD i 0):=by grind [ZN]
theorem zOv(h:2*i+1<l.length):(swI l i)[l.length-1-i]?=some (l.getD (l.length-1-i) 0):=by grind [ZN]
theorem zNn(h:2*i+1<l.length):((swI l i).set i (l.getD (l.length-1-i) 0)).set (l.length-1-i) (l.getD i 0)=swI l (i+1):=by
 apply ir;grind [ZN,RV]
theorem zLu(l:List Int)(k:Nat)(x:Int):(cU l).set k [.i .i64 x]=cU (l.set k x):=by simp[cU,jn]
attribute [go_sem] zLu
end
section
variable {t:Bl}{p:Ba}{n:Nd}{is fo:Bool}
theorem ZE(p:Ba)(n:Nd):∀(t:Bl) (d:Bool),(zV p n d t).length=(oV t p).length+(if d then 0 else 1)
 | [],d=>by cases d<;>rfl
 | x::r,d=>by
  have h:=ZE p n r (d || !cC x.p p);grind [zV,oV]
theorem zPg(h:(aN t p).isSome=true):(oV t p).length<t.length:=by
 induction t<;>grind [aN,oV]
theorem GC(h:OkT t)(a:(aN t p).isSome=true)(d:aO n=true)(f:(n.k==2)=false->aZ t p=false):vB t p n=(wL t p n,0):=by
 obtain⟨g,i,_⟩:=h.getok a;obtain⟨m,b⟩:=l5.1 a;have j:aZ t (aU p)=true:=TV h (.inr ⟨m,b⟩);have o:(if n.k != 2 then bN t p else t)=t:=by grind [KY]
 have q:(wL t p n).length<=120:=by
  have e:=ZE p n t false;have l:=zPg a;have:=h.len;grind [wL]
 grind [vB]
theorem xZ: aO n=true↔(0<=n.m/\n.m<=4095/\xT n.t=true)/\(if n.k==1 then decide ((n.d.length:Int)<=2000) else if n.k==2 then (n.d.length:Int)==0 else if n.k==3 then gZ n.d else false)=true:=by grind [aO]
theorem zEd(x:Nat):xT (bL x)=true:=by grind [xT,zDa]
theorem zEA{m:Int}(h:aO n=true)(a:nF m=true):aO ⟨n.k,m,n.t,n.d⟩=true:=by grind [xZ,nF]
theorem zEC{x:Nat}(h:aO n=true):aO ⟨n.k,n.m,bL x,n.d⟩=true:=by grind [xZ,zEd]
theorem ME{d:Ba}(h:aO n=true)(a:(n.k==2)=false)(b:(n.k==3)=false)(e:d.length<=2000):aO ⟨n.k,n.m,n.t,d⟩=true:=by grind [xZ]
theorem zBK{a b:Ba}{f:Nat}(h1:a.length<=2000)(d:f<=a.length)(e:f+b.length<=2000):(wrD a f b).length<=2000:=by grind [wrD]
def BG(x:Bl × Int)(y:Bl × An):Prop:=y.2=anE x.2/\(x.2=0->y.1=x.1)
theorem fY{e:Int}(a:e≠0):BG ([],e) (t,anE e):=⟨rfl,λh=>absurd h a⟩
theorem tZ{u:Bl}:BG (u,0) (u,anE 0):=⟨rfl,λ_=>rfl⟩
theorem zQm{x:Bl × Int}{y:Bl × An}(h:BG x y):(if x.2==0 then (x.1,anE 0) else (t,anE x.2))=(if y.2.e==0 then y else (t,anE y.2.e)):=by
 obtain⟨y1,y2⟩:=y;obtain⟨a,b⟩:=h;grind [anE]
theorem pO(h:nT t fo (p,is,0)):(p=[]->is=true)/\(p≠[]->is=(aN t p).isSome):=by
 obtain⟨a,b⟩:=h rfl;constructor
 .grind
 .intro d;cases is
  .simp_all
  .grind
theorem vI(h:nT t fo (p,is,0)):zBZ is (bK t p)=(is && aZ t p):=by
 unfold zBZ bK;by_cases a:p=[]
 .subst a;rfl
 .grind [sD,pO]
theorem zJ(a:p≠[]):bK t p=(aN t p).getD nd0:=by grind [bK]
section kinds
variable {t:Bl}{p:Ba}{is fo:Bool}{c:Cl}
theorem KE(h:OkT t)(e:nT t true (p,true,0))(d:aZ t p=false):p≠[]/\(aN t p).isSome=true/\aO ((aN t p).getD nd0)=true/\(((aN t p).getD nd0).k==2)=false/\(((aN t p).getD nd0).k==3)=false:=by
 have a:p≠[]:=by intro a;subst a;cases d
 have g:(aN t p).isSome=true:=((pO e).2 a).symm;have f:=h.getok g;obtain⟨b,_⟩:=e rfl;rcases b rfl with b|⟨n,b,i⟩
 .exact absurd b a
 .rw[sD a] at d;simp only at b;rw[b] at d f ⊢;exact⟨a,rfl,f.2.2,d,i rfl⟩
theorem RB(h:OkT t)(kind:Int)(a:(c.k==7)=(kind==3))(f:(c.k==2)=(kind==1))(g:kind=1∨kind=2∨kind=3):BG (BM t p is kind c) ((mQ t c p is).1,anE (mQ t c p is).2):=by
 unfold BM mQ;cases is
 .simp only[av,ax];have j:(zP1 kind c).m=if c.k==7 then 511 else c.m:=by unfold zP1;rw[a]
  rw[j];generalize i:(if c.k==7 then (511:Int) else c.m)=m
  have l:(decide (m<0) || decide ((4095:Int)<m)) = !nF m:=by
   unfold nF;rw[Bool.not_and,<- lp,<- lp]
   congr 1<;>exact nj.2 qd
  have o:(decide ((c.d.length:Int)<1) || decide ((120:Int)<c.d.length) || !(c.d.all λb=>!(b==0))) = !gZ c.d:=by
   unfold gZ;rw[Bool.not_and,Bool.not_and,<- lp,<- lp,Bool.or_comm];have e:(c.d.all λb=>!(b==0))=(c.d.all λb=>!((b.toNat:Int)==0)):=by
    congr 1;funext b
    congr 1
    rw[gi,dq,dq];constructor
    .rintro rfl;rfl
    .intro h;exact kl.1 (by have:(0:UInt8).toNat=0:=rfl;omega)
   rw[e]
   congr 1
   congr 1<;>exact nj.2 qd
  rw[o,l,a,f];cases nF m
  .simp only[br,e8,az];exact fY qh
  .simp only[bh,dw,av,ax];split
   .exact fY qh
   .split
    .exact fY qh
    .have e:zP1 kind c=⟨if kind==1 then 1 else if kind==3 then 3 else 2,m,bL c.t,if kind==1 || kind==3 then c.d else []⟩:=by
      unfold zP1;rw[<- i,a];rcases g with rfl|rfl|rfl<;>rfl
     rw[e];refine⟨rfl,λ_=>rfl⟩
 .simp only[az];exact fY qh
theorem zJf(h:OkT t)(a:nT t true (p,is,0))(b:c.k=3):BG (cN t p is (bK t p) c) (nO t c p is):=by
 have d:=vI a;simp only[cN,nO,zC,b,d,Int.reduceBEq,iw,dp,av,ax,az];grind [fY,KE,zJ,kS,yN,GC,ME,zBK,tZ]
theorem zJd(h:OkT t)(a:nT t true (p,is,0))(b:c.k=4):BG (cN t p is (bK t p) c) (nO t c p is):=by grind [vI,cN,nO,zC,fY,KE,zJ,kS,HL,GC,ME,tZ]
theorem zEt(a:nT t fo (p,is,0))(b:c.k=5):BG (cN t p is (bK t p) c) (nO t c p is):=by grind [vI,cN,nO,zC,fY,tZ]
theorem zJc(a:nT t fo (p,is,0))(b:c.k=6):BG (cN t p is (bK t p) c) (nO t c p is):=by grind [vI,cN,nO,GS,fY,tZ]
theorem zJb(h:OkT t)(d:nT t fo (p,is,0))(e:c.k=10):BG (cN t p is (bK t p) c) (nO t c p is):=by
 simp only[cN,nO,zOs,e,Int.reduceBEq,iw,dn,cy,dp,av,ax,az];cases is
 .grind [fY]
 .have f:(p == [] || !nF c.m)=(p == [] || decide (c.m<0) || decide (4095<c.m)):=by
   grind [nF]
  rw[<- f];simp only[bh,av,ax];split
  .grind [fY]
  .rename_i a;simp only[fj,jo,dg,l9,dq] at a;have b:(aN t p).isSome=true:=((pO d).2 a.1).symm;rw[zJ a.1,GC h b (zEA (h.getok b).2.2 a.2) λg=>?_]
   .exact tZ
   .grind [sD]
theorem zJe(h:OkT t)(d:nT t fo (p,is,0))(e:c.k=11):BG (cN t p is (bK t p) c) (nO t c p is):=by
 simp only[cN,nO,zOs,e,Int.reduceBEq,iw,dn,ej,dp,av,ax,az];cases is
 .grind [fY]
 .simp only[bh,av,ax];split
  .grind [fY]
  .rename_i a;simp only[dq] at a;have b:(aN t p).isSome=true:=((pO d).2 a).symm;rw[zJ a,GC h b (zEC (h.getok b).2.2) λf=>?_]
   .exact tZ
   .grind [sD]
theorem zEs(h:OkT t)(g:nT t fo (p,is,0))(i:c.k=9):BG (cN t p is (bK t p) c) (nO t c p is):=by
 have j:=vI g;have a:=HN h c.to' false;simp only[cN,nO,wH,sS,i,j,Int.reduceBEq,iw,dp,av,ax,az];cases is
 .grind [fY]
 .generalize cQ t c.to' false=r at *;obtain⟨q,b,e⟩:=r;by_cases l:e=0
  .subst l;simp only[fa,bh,av,ax];cases d:(p == [] || q == [])
   .simp only[ij] at d;have f:q≠[]:=qw
    simp only[av,ax];split
    .exact⟨rfl,λ_=>rfl⟩
    .split
     .grind [fY]
     .have m:=(pO a).2 f;cases b
      .have:aN t q=none:=by
        simp_all
       rw[zJg h f this];exact⟨rfl,λ_=>rfl⟩
      .simp only[zD7,vI a,bh,cy,av,ax,az];cases aZ t p<;>cases aZ t q<;>simp only[bh,br,cy,dp,av,ax,az,fa,Int.reduceBEq]
       .exact⟨rfl,λ_=>rfl⟩
       .grind [fY]
       .grind [fY]
       .cases decide ((0:Int)<(eZ t q).length)
        .exact⟨rfl,λ_=>rfl⟩
        .grind [fY]
   .grind [fY]
  .grind [fY]
end kinds
variable {t:Bl}{p:Ba}{is:Bool}{c:Cl}
theorem zLZ(h:OkT t):aN t []=none:=by
 cases a:aN t []
 .rfl
 .exact absurd rfl (h.getok (p:=[]) (by rw[a];rfl)).1
theorem zGe(h:OkT t){fo:Bool}(e:nT t fo (p,is,0))(a:c.k=8∨c.k=12∨c.k=13∨c.k=14∨c.k=15):nO t c p is=(t,lN t p is (bK t p) c):=by
 have f:=vI e;cases is
 .grind [nO,lN,sO,zC]
 .have g:(bK t p).k=3∨(aZ t p=false)->bK t p=(aN t p).getD nd0:=by
   intro b;refine zJ λd=>?_;subst d;rcases b with b|b<;>cases b
  rcases a with a|a|a|a|a<;>simp only[nO,lN,sO,zC,f,a,Int.reduceBEq,iw,dn,ej,cy,dp,bh,av,ax,az]
  .by_cases d:p=[]
   .subst d;rw[zLZ h];rfl
   .grind [zJ]
  .grind
  .grind
theorem zFi{n:Nd}(h:(lN t p is n c).e≠0):lN t p is n c=anE (lN t p is n c).e:=by
 unfold lN sO at h ⊢
 repeat' split at h
 all_goals first|exact absurd rfl h|(simp only[*,az,ax,av];rfl)
theorem zRI(h:OkT t)(c:Cl):doP t c=doR t c:=by
 unfold doP doR;cases j:(decide (c.k<1) || decide (15<c.k))
 .simp only[ij,ik] at j;simp only[av,ax];have b:=HN h c.p (gN c.k);generalize cQ t c.p (gN c.k)=r at *;obtain⟨p,is,e⟩:=r;simp only;by_cases i:e=0
  .subst i;simp only[fa,bh,av,ax];have l:c.k=1∨c.k=2∨c.k=3∨c.k=4∨c.k=5∨c.k=6∨c.k=7∨c.k=9∨c.k=10∨c.k=11∨c.k=8∨c.k=12∨c.k=13∨c.k=14∨c.k=15:=qd
   have d:(c.k=8∨c.k=12∨c.k=13∨c.k=14∨c.k=15)->(if (!jX c.k)=true then (t,lN t p is (bK t p) c) else if ((cN t p is (bK t p) c).2==0)=true then ((cN t p is (bK t p) c).1,anE 0) else (t,anE (cN t p is (bK t p) c).2))=if ((nO t c p is).2.e==0)=true then nO t c p is else (t,anE (nO t c p is).2.e):=by
    intro hk;have g:jX c.k=false:=by rcases hk with hk|hk|hk|hk|hk<;>rw[hk]<;>rfl
    rw[g,zGe h b hk];simp only[br,az];split
    .rfl
    .rename_i m;rw[<- zFi (by simpa using m)]
   have a:jX c.k=true->BG (cN t p is (bK t p) c) (nO t c p is)->(if (!jX c.k)=true then (t,lN t p is (bK t p) c) else if ((cN t p is (bK t p) c).2==0)=true then ((cN t p is (bK t p) c).1,anE 0) else (t,anE (cN t p is (bK t p) c).2))=if ((nO t c p is).2.e==0)=true then nO t c p is else (t,anE (nO t c p is).2.e):=by
    intro g f;rw[g];simp only[bh,av,ax];exact zQm f
   rcases l with hk|hk|hk|hk|hk|hk|hk|hk|hk|hk|hk
   .refine a qu ?_;have:=RB (p:=p) (is:=is) (c:=c) h 2 qu qu ql;simpa only[cN,nO,hk,Int.reduceBEq,e8,iw,av,az] using this
   .refine a qu ?_;have:=RB (p:=p) (is:=is) (c:=c) h 1 qu qu ql;simpa only[cN,nO,hk,Int.reduceBEq,e8,ej,iw,av,az,ax] using this
   .exact a qu (zJf h (by rw[hk] at b;exact b) hk)
   .exact a qu (zJd h (by rw[hk] at b;exact b) hk)
   .exact a qu (zEt b hk)
   .exact a qu (zJc b hk)
   .refine a qu ?_;have:=RB (p:=p) (is:=is) (c:=c) h 3 qu qu ql;simpa only[cN,nO,hk,Int.reduceBEq,e8,ej,iw,av,az,ax] using this
   .exact a qu (zEs h b hk)
   .exact a qu (zJb h b hk)
   .exact a qu (zJe h b hk)
   .exact d hk
  .have:(e==0)=false:=by simpa using i
   rw[this];rfl
 .rfl
end
end Go.Dm
end
