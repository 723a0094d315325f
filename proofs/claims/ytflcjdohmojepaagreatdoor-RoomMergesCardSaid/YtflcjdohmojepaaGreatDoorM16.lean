/- Part 17 of the proof of roomMerges_card, set without needless blanks. No condition. -/
import Derived.Test.YtflcjdohmojepaaGreatDoorM15
set_option linter.all false
set_option maxRecDepth 100000
set_option maxHeartbeats 16000000
section
namespace Go.Dm
open Go
section
def gQ(tb:List Nat)(N:Nat):aD->List Nat->aD->aD
 | h,[],zs=>h++zs.map (DB.rn tb N)
 | h,t::ts,z::zs=>gQ tb N (h.set t (z.rn tb N)) ts zs
 | h,_::_,[]=>h
theorem CN{tb:List Nat}{N:Nat}:∀{ts:List Nat} {zs h:aD},ts.length<=zs.length->ts.Nodup->(∀t∈ts,t<h.length) ->
  (gQ tb N h ts zs).length=h.length+(zs.length-ts.length) /\
  (∀(j:Nat),j<h.length->j ∉ ts->(gQ tb N h ts zs)[j]?=h[j]?) /\
  (∀(k t:Nat),ts[k]?=some t->(gQ tb N h ts zs)[t]?=(zs[k]?).map (DB.rn tb N)) /\
  (∀(m:Nat),(gQ tb N h ts zs)[h.length+m]?=(zs[ts.length+m]?).map (DB.rn tb N))
 | [],zs,h,_,_,_=>by
  simp only[gQ,List.length_nil,Nat.sub_zero,List.length_append,List.length_map,Nat.zero_add,true_and];refine⟨λj hj _=>List.getElem?_append_left hj,λk t hk=>by simp at hk,λm=>?_⟩
  rw[List.getElem?_append_right (by omega),List.getElem?_map]
  congr 2;omega
 | t::ts,[],h,hl,_,_=>by simp at hl
 | t::ts,z::zs,h,hl,hn,hlt=>by
  simp only[List.length_cons] at hl;have hn':=List.nodup_cons.1 hn;obtain⟨h1,h2,h3,h4⟩:=CN (tb:=tb) (N:=N) (ts:=ts) (zs:=zs) (h:=h.set t (z.rn tb N)) (by omega) hn'.2 (λx hx=>by rw[List.length_set];exact hlt x (List.mem_cons_of_mem _ hx))
  rw[List.length_set] at h1 h2 h4;have ht:=hlt t List.mem_cons_self;simp only[gQ,List.length_cons];refine⟨by rw[h1];omega,λj hj hjn=>?_,λk x hk=>?_,λm=>?_⟩
  .rw[h2 j hj (λhx=>hjn (List.mem_cons_of_mem _ hx)),List.getElem?_set_ne];rintro rfl;exact hjn List.mem_cons_self
  .cases k with
   | zero =>
    simp only[List.getElem?_cons_zero,Option.some.injEq] at hk;subst hk;rw[h2 t ht hn'.1,List.getElem?_set_self ht];rfl
   | succ k =>
    simp only[List.getElem?_cons_succ] at hk ⊢;exact h3 k x hk
  .rw[h4 m,show ts.length+1+m=(ts.length+m)+1 by omega,List.getElem?_cons_succ]
section push
variable {Y F:Ctx}{tb:List Nat}{N:Nat}
variable {db:DB}{v:Value}
structure Push (Y F:Ctx) (tb:List Nat) (N:Nat):Prop where
 w:F.w=Y.w
 S:F.S=Y.S
 lt:∀i,i<Y.h.length->rn tb N i<F.h.length
 h:∀i,i<Y.h.length->F.h[rn tb N i]?=(Y.h[i]?).map (DB.rn tb N)
 G:∀i,i<Y.h.length->F.G (rn tb N i)=Y.G i
theorem Push.inv(p:Push Y F tb N){i:Nat}(hi:i<Y.h.length)(h:F.h[rn tb N i]?=some db):∃db0,Y.h[i]?=some db0/\db=db0.rn tb N:=by
 rw[p.h _ hi] at h;obtain⟨db0,h1,h2⟩:=Option.map_eq_some_iff.1 h;exact⟨db0,h1,h2.symm⟩
theorem sD.push(p:Push Y F tb N){c:KV}(h:sD Y c v):sD F (c.rn tb N) v:=by
 cases c<;>simp only[sD,KV.rn] at h ⊢
 case p=>rw[p.w,p.S];exact h
 case ptr id off =>
  refine⟨p.lt _ h.1,h.2.1,λcells hd=>?_⟩;obtain⟨db,h1,h2⟩:=p.inv h.1 hd;cases db<;>simp only[DB.rn,reduceCtorEq] at h2;rw[p.G _ h.1];exact h.2.2 _ h1
theorem fQ.push(p:Push Y F tb N):∀{cs:List KV} {vs:List Value},fQ Y cs vs->fQ F (cs.map (KV.rn tb N)) vs
 | [],[],_=>True.intro
 | _::_,_::_,h=>⟨sD.push p h.1,fQ.push p h.2⟩
 | [],_::_,h=>h.elim
 | _::_,[],h=>h.elim
theorem cA.push(p:Push Y F tb N){c:CV}(h:cA Y c v):cA F (c.rn tb N) v:=by
 cases c<;>simp only[cA,CV.rn] at h ⊢
 case p=>rw[p.w,p.S];exact h
 case own id off len =>
  refine⟨p.lt _ h.1,h.2.1,λk es ro hd=>?_⟩;obtain⟨db,h1,h2⟩:=p.inv h.1 hd;cases db<;>simp only[DB.rn,reduceCtorEq] at h2;cases h2;rw[p.G _ h.1,p.w];exact h.2.2 _ _ _ h1
 case ptr id off =>
  refine⟨p.lt _ h.1,h.2.1,λcells hd=>?_⟩;obtain⟨db,h1,h2⟩:=p.inv h.1 hd;cases db<;>simp only[DB.rn,reduceCtorEq] at h2;rw[p.G _ h.1];exact h.2.2 _ h1
 case aptr id i j =>
  refine⟨p.lt _ h.1,h.2.1,λk es ro hd=>?_⟩;obtain⟨db,h1,h2⟩:=p.inv h.1 hd;cases db<;>simp only[DB.rn,reduceCtorEq] at h2;cases h2;rw[p.G _ h.1];exact h.2.2 _ _ _ h1
 case bs id n =>
  refine⟨p.lt _ h.1,h.2.1,λcells hd=>?_⟩;obtain⟨db,h1,h2⟩:=p.inv h.1 hd;cases db<;>simp only[DB.rn,reduceCtorEq] at h2;rw[p.G _ h.1];exact h.2.2 _ h1
 case mp id =>
  refine⟨p.lt _ h.1,h.2.1,λes hd=>?_⟩;obtain⟨db,h1,h2⟩:=p.inv h.1 hd;cases db<;>simp only[DB.rn,reduceCtorEq] at h2;rw[p.G _ h.1];exact h.2.2 _ h1
 case eptr=>rw[p.w,p.S];exact h
 case full=>rw[p.w,p.S];exact h
 case clo =>
  obtain⟨vs,h1,h2⟩:=h;exact⟨vs,h1,fQ.push p h2⟩
theorem bF.push(p:Push Y F tb N):∀{cs:List CV} {vs:List Value},bF Y cs vs->bF F (cs.map (CV.rn tb N)) vs
 | [],[],_=>True.intro
 | _::_,_::_,h=>⟨cA.push p h.1,bF.push p h.2⟩
 | [],_::_,h=>h.elim
 | _::_,[],h=>h.elim
theorem eD.push(p:Push Y F tb N){c:EV}(h:eD Y c v):eD F (c.rn tb N) v:=by
 cases c<;>simp only[eD,EV.rn] at h ⊢
 .exact cA.push p h
 .obtain⟨vs,h1,h2⟩:=h;exact⟨vs,h1,bF.push p h2⟩
theorem cO.push(p:Push Y F tb N):∀{cs:List EV} {vs:List Value},cO Y cs vs->cO F (cs.map (EV.rn tb N)) vs
 | [],[],_=>True.intro
 | _::_,_::_,h=>⟨eD.push p h.1,cO.push p h.2⟩
 | [],_::_,h=>h.elim
 | _::_,[],h=>h.elim
theorem bD.push(p:Push Y F tb N){c:DV}(h:bD Y c v):bD F (c.rn tb N) v:=by
 cases c<;>simp only[bD,DV.rn] at h ⊢
 .exact cA.push p h
 .obtain⟨vs,h1,h2⟩:=h;exact⟨vs,h1,bF.push p h2⟩
 .obtain⟨vs,h1,h2⟩:=h;exact⟨vs,h1,cO.push p h2⟩
theorem eC.push(p:Push Y F tb N){id:Nat}(hid:id<Y.h.length)(h:eC Y id db):eC F (rn tb N id) (db.rn tb N):=by
 cases db<;>simp only[eC,DB.rn] at h ⊢
 case box cells =>
  obtain⟨g,arr,el,fz,h1,h2,h3,h4,h5⟩:=h;refine⟨g,arr,el,fz,by rw[p.G _ hid];exact h1,by rw[p.w];exact h2,by simpa using h3,h4,cU.mk λj c hj=>?_⟩
  rw[List.getElem?_map] at hj;obtain⟨c0,h6,rfl⟩:=Option.map_eq_some_iff.1 hj;obtain⟨v,h7,h8⟩:=h5.at_ h6;exact⟨v,by rw[p.w];exact h7,cA.push p h8⟩
 case arr=>rw[p.G _ hid,p.w,p.S];exact h
 case mp=>rw[p.G _ hid,p.w,p.S];exact h
end push
variable {tb:List Nat}{h l h0:aD}{i:Nat}{P:Program}{f:FuncId}{args0:List DV}{K:DV->aD->Prop}
def EK(tb:List Nat)(h:aD):Nat->aD->Prop
 | _,[]=>True
 | i,.dead::l=>EK tb h (i+1) l
 | i,db::l=>h[rn tb 0 i]?=some (db.rn tb 0)/\EK tb h (i+1) l
theorem EK.at_: ∀{l:aD} {i j:Nat} {db:DB},EK tb h i l->l[j]?=some db->db.live=true->h[rn tb 0 (i+j)]?=some (db.rn tb 0)
 | [],_,_,_,_,hj,_=>by simp at hj
 | x::l,i,0,db,hh,hj,hl=>by
  simp only[List.getElem?_cons_zero,Option.some.injEq] at hj;subst hj;cases x with
  | dead=>simp[DB.live] at hl
  | box _=>exact hh.1
  | arr _ _ _=>exact hh.1
  | mp _=>exact hh.1
 | x::l,i,j+1,db,hh,hj,hl=>by
  simp only[List.getElem?_cons_succ] at hj;have hh':EK tb h (i+1) l:=by
   cases x with
   | dead=>exact hh
   | box _=>exact hh.2
   | arr _ _ _=>exact hh.2
   | mp _=>exact hh.2
  have:=EK.at_ hh' hj hl
  rwa[show i+1+j=i+(j+1) by omega] at this
theorem zPC: EK tb h i []=True:=nr rfl
theorem zNN: EK tb h i (.dead::l)=EK tb h (i+1) l:=nr rfl
theorem zPB{c:List CV}:EK tb h i (.box c::l)=(h[rn tb 0 i]?=some (DB.rn tb 0 (.box c))/\EK tb h (i+1) l):=nr rfl
theorem zPA{k:Nat}{es:List (List PV)}{ro:Bool}:EK tb h i (.arr k es ro::l)=(h[rn tb 0 i]?=some (DB.rn tb 0 (.arr k es ro))/\EK tb h (i+1) l):=nr rfl
theorem zQ2{es:List (Int × PV)}:EK tb h i (.mp es::l)=(h[rn tb 0 i]?=some (DB.rn tb 0 (.mp es))/\EK tb h (i+1) l):=nr rfl
theorem aA.sub{R:DV->aD->Prop}(tb:List Nat)(hc:aA P f args0 h0 R)
 (hb:(Nat.beq tb.length h0.length && (pW tb && (tb.all (λt=>Nat.blt t h.length) && (h0.all (bP h0.length) && args0.all (aL h0.length)))))=true)(ht:EK tb h 0 h0)
 (hk:∀d h',h0.length<=h'.length->R d h'->K (d.rn tb h.length) (gQ tb h.length h tb h')):aA P f (args0.map (DV.rn tb 0)) h K:=by
 simp only[Bool.and_eq_true] at hb;obtain⟨b1,b2,b3,b4,b5⟩:=hb;have b1:=Nat.eq_of_beq_eq_true b1;have hnd:=pX b2;have hlt:∀t∈tb,t<h.length:=λt hm=>Nat.blt_eq.mp (List.all_eq_true.1 b3 t hm);intro X vals hh hi gd hr;subst hh
 let Y:Ctx:=⟨X.w,X.S,λi=>X.G (rn tb 0 i),h0⟩
 have hp:Pull X Y tb 0:=⟨rfl,rfl,λi db hd hl=>by
  have:=ht.at_ hd hl
  rwa[Nat.zero_add] at this,λi _=>rfl⟩
 have hiY:HInv Y:=hi.pull hp b4 λi j db db' hd _ hd' _ he=>zGT hnd (b1▸aK hd) (b1▸aK hd') he;have hrY:dI Y args0 vals:=dI.pull hp b5 hr;have key:∀v w',Ret Y R v w'->Ret X K v w':=by
  rintro v w' ⟨d,Z,h1,h2,h3,h4,h5⟩;have hlen:h0.length<=Z.h.length:=h3.len;have hlen':tb.length<=Z.h.length:=by omega
  obtain⟨q1,q2,q3,q4⟩:=CN (tb:=tb) (N:=X.h.length) (ts:=tb) (zs:=Z.h) (h:=X.h) hlen' hnd hlt
  let F:Ctx:=⟨Z.w,Z.S,λj=>if j<X.h.length then (if j∈tb then Z.G (tb.idxOf j) else X.G j) else Z.G (tb.length+(j-X.h.length)),gQ tb X.h.length X.h tb Z.h⟩
  have gat:∀i,i<tb.length->∃t,tb[i]?=some t/\rn tb X.h.length i=t/\t<X.h.length/\t∈tb/\tb.idxOf t=i:=λi hi=>by
   have hm:tb[i]∈tb:=List.getElem_mem hi;exact⟨tb[i],List.getElem?_eq_getElem hi,wS hi,hlt _ hm,hm,hnd.idxOf_getElem i hi⟩
  have hpu:Push Z F tb X.h.length:=by
   refine⟨rfl,rfl,λi hi=>?_,λi hi=>?_,λi hi=>?_⟩
   .show _<(gQ tb X.h.length X.h tb Z.h).length;rw[q1];rcases Nat.lt_or_ge i tb.length with hlt2|hge
    .obtain⟨t,_,e2,e3,_⟩:=gat i hlt2;rw[e2];omega
    .rw[SZ hge];omega
   .rcases Nat.lt_or_ge i tb.length with hlt2|hge
    .obtain⟨t,e1,e2,_⟩:=gat i hlt2;rw[e2];exact q3 i t e1
    .rw[SZ hge];have:=q4 (i-tb.length);rw[show tb.length+(i-tb.length)=i by omega] at this
     exact this
   .rcases Nat.lt_or_ge i tb.length with hlt2|hge
    .obtain⟨t,_,e2,e3,e4,e5⟩:=gat i hlt2;rw[e2];show (if t<X.h.length then (if t∈tb then Z.G (tb.idxOf t) else X.G t) else _)=_
     rw[if_pos e3,if_pos e4,e5]
    .rw[SZ hge];show (if X.h.length+(i-tb.length)<X.h.length then _ else Z.G (tb.length+(X.h.length+(i-tb.length)-X.h.length)))=_
     rw[if_neg (by omega)]
     congr 1;omega
  have fo:∀j,j<X.h.length->j ∉ tb->F.h[j]?=X.h[j]?/\F.G j=X.G j:=λj hj hn=>⟨q2 j hj hn,by
   show (if j<X.h.length then (if j∈tb then Z.G (tb.idxOf j) else X.G j) else _)=_
   rw[if_pos hj,if_neg hn]⟩
  have fi:∀j,j<F.h.length->(j<X.h.length/\j ∉ tb)∨∃i,i<Z.h.length/\j=rn tb X.h.length i:=λj hj=>by
   have hjl:j<X.h.length+(Z.h.length-tb.length):=by rw[<- q1];exact hj
   by_cases hx:j<X.h.length
   .by_cases hm:j∈tb
    .have hx:=List.idxOf_lt_length_iff.2 hm;exact .inr ⟨tb.idxOf j,by omega,by rw[wS hx,List.getElem_idxOf]⟩
    .exact .inl ⟨hx,hm⟩
   .exact .inr ⟨tb.length+(j-X.h.length),by omega,by rw[SZ (by omega)];omega⟩
  have yx:∀(k:Nat) (db:DB),Y.h[k]?=some db->db.live=true->X.h[rn tb 0 k]?=some (db.rn tb 0)/\rn tb 0 k∈tb:=λk db hd hl=>by
   have hk:k<tb.length:=by have:=aK hd;simp only[Y] at this;omega
   exact⟨hp.h k db hd hl,by rw[wS hk];exact List.getElem_mem hk⟩
  have away:∀(j:Nat) (db:DB) (g:Nat × Nat),X.h[j]?=some db->db.live=true->X.G j=some g->j ∉ tb->Z.w.heap[g.1]?=X.w.heap[g.1]? := λj db g hd hl hg hn=>by
   refine h3.frame g.1 (hi.block_lt hd hl hg) λk db' g' hd' hl' hf' hg' e=>?_;obtain⟨e1,e2⟩:=yx k db' hd' hl';exact hn ((hi.inj (rn tb 0 k) _ j db g' g e1 (by rw[DB.rn_live];exact hl') (by rw[DB.rn_fix];exact hf') hd hl hg' hg e)▸e2)
  have hst:Step X F:=by
   refine⟨h3.size,h3.os,h3.tape,h3.output,h3.kept,?_,λj db' hj hd hl=>?_,λb hb hno=>?_,λj db g hd hl hf hg=>?_,λb hb=>?_⟩
   .show _<=(gQ tb X.h.length X.h tb Z.h).length;rw[q1];omega
   .by_cases hm:j∈tb
    .have hx:=List.idxOf_lt_length_iff.2 hm;have hj':j=rn tb X.h.length (tb.idxOf j):=by rw[wS hx,List.getElem_idxOf]
     have hj0:j=rn tb 0 (tb.idxOf j):=by rw[wS hx,List.getElem_idxOf]
     rw[hj'] at hd;obtain⟨db1,e1,e2⟩:=hpu.inv (i:=tb.idxOf j) (by omega) hd;subst e2;rw[DB.rn_live] at hl;obtain⟨db0,k1,k2,k3,k4⟩:=h3.ids (tb.idxOf j) db1 (by simp only[Y];omega) e1 hl;obtain⟨e3,_⟩:=yx _ _ k1 k2.live;rw[<- hj0] at e3;have hG:Z.G (tb.idxOf j)=X.G j:=by rw[k3];show X.G (rn tb 0 (tb.idxOf j))=_;rw[<- hj0]
     refine⟨_,e3,?_,?_,λg hg=>k4 g ?_⟩
     .exact k2.rn_lr
     .have e5:=hpu.G (tb.idxOf j) (by omega);rw[<- hj'] at e5;rw[e5,hG]
     .show X.G (rn tb 0 (tb.idxOf j))=_;rw[<- hj0];exact hg
    .obtain⟨e1,e2⟩:=fo j hj hm;rw[e1] at hd;refine⟨db',hd,cM.refl hl,e2,λg hg=>?_⟩;rw[show F.w.heap[g.1]?=X.w.heap[g.1]? from away j db' g hd hl hg hm]
     exact(hi.blk j db' hd).same hl g hg
   .exact h3.frame b hb λk db g hd hl hf hg=>by
     obtain⟨e1,_⟩:=yx k db hd hl;exact hno _ _ g e1 (by rw[DB.rn_live];exact hl) (by rw[DB.rn_fix];exact hf) hg
   .rcases fi j (aK hd) with⟨f1,f2⟩|⟨i,f1,rfl⟩
    .obtain⟨e1,e2⟩:=fo j f1 f2;rw[e1] at hd;rw[e2] at hg;exact .inr ⟨j,db,g,hd,hl,hf,hg,rfl⟩
    .obtain⟨db1,e1,rfl⟩:=hpu.inv f1 hd;rw[hpu.G _ f1] at hg;rw[DB.rn_live] at hl;rw[DB.rn_fix] at hf;rcases h3.mine i db1 g e1 hl hf hg with h|⟨k,db0,g0,k1,k2,k3,k4,k5⟩
     .exact .inl h
     .obtain⟨e3,_⟩:=yx k db0 k1 k2;exact .inr ⟨_,_,g0,e3,by rw[DB.rn_live];exact k2,by rw[DB.rn_fix];exact k3,k4,k5⟩
   .rcases h3.upper b hb with h|h|⟨k,db0,g0,k1,k2,k4,k5⟩
    .exact .inl h
    .exact .inr (.inl h)
    .obtain⟨e3,_⟩:=yx k db0 k1 k2;exact .inr (.inr ⟨_,_,g0,e3,by rw[DB.rn_live];exact k2,k4,k5⟩)
  have noS:∀(j:Nat) (db:DB) (g:Nat × Nat),X.h[j]?=some db->db.live=true->db.fix=false->X.G j=some g->j ∉ tb->¬ Z.S g.1:=λj db g hd hl hf hg hn hS=>by
   rcases h3.upper g.1 hS with h|h|⟨k,db0,g0,k1,k2,k4,k5⟩
   .exact(hi.own j db g hd hl hg).1 hf h
   .have h6:=hi.block_lt hd hl hg;have h7:Y.w.heap.size=X.w.heap.size:=rfl;omega
   .obtain⟨e1,e2⟩:=yx k db0 k1 k2;exact hn ((hi.inj j db (rn tb 0 k) _ g g0 hd hl hf e1 (by rw[DB.rn_live];exact k2) hg k4 k5.symm)▸e2)
  have hiF:HInv F:=by
   refine⟨h2.slt,λj db hd=>?_,λj db g hd hl hg=>?_,λj db j' db' g g' hd hl hf hd' hl' hg hg' he=>?_⟩
   .rcases fi j (aK hd) with⟨f1,f2⟩|⟨i,f1,rfl⟩
    .obtain⟨e1,e2⟩:=fo j f1 f2;rw[e1] at hd;by_cases hl:db.live=true
     .exact(hi.blk j db hd).move hst e2 λg hg=>away j db g hd hl hg f2
     .cases db<;>simp_all[DB.live,eC]
    .obtain⟨db1,e1,rfl⟩:=hpu.inv f1 hd;exact eC.push hpu f1 (h2.blk i db1 e1)
   .rcases fi j (aK hd) with⟨f1,f2⟩|⟨i,f1,rfl⟩
    .obtain⟨e1,e2⟩:=fo j f1 f2;rw[e1] at hd;rw[e2] at hg;exact⟨λhf=>noS j db g hd hl hf hg f2,λhf=>(h3.kept _ ((hi.own j db g hd hl hg).2 hf)).1⟩
    .obtain⟨db1,e1,rfl⟩:=hpu.inv f1 hd;rw[hpu.G _ f1] at hg;rw[DB.rn_live] at hl;rw[DB.rn_fix];exact h2.own i db1 g e1 hl hg
   ·
    have cross:∀(j:Nat) (db:DB) (g:Nat × Nat) (i:Nat) (db1:DB) (g1:Nat × Nat),X.h[j]?=some db->db.live=true->X.G j=some g->j ∉ tb->Z.h[i]?=some db1->db1.live=true->Z.G i=some g1->g.1=g1.1->(db.fix=false∨db1.fix=false)->False:=by
     intro j db g i db1 g1 k1 k2 k3 k4 k5 k6 k7 k8 k9;by_cases hf1:db1.fix=false
     .rcases h3.mine i db1 g1 k5 k6 hf1 k7 with h|⟨k,db0,g0,m1,m2,m3,m4,m5⟩
      .have h6:=hi.block_lt k1 k2 k3;have h7:Y.w.heap.size=X.w.heap.size:=rfl;omega
      .obtain⟨e1,e2⟩:=yx k db0 m1 m2;exact k4 ((hi.inj (rn tb 0 k) _ j db g0 g e1 (by rw[DB.rn_live];exact m2) (by rw[DB.rn_fix];exact m3) k1 k2 m4 k3 (m5.trans k8.symm))▸e2)
     .have hS:=(h2.own i db1 g1 k5 k6 k7).2 (by simpa using hf1);rw[<- k8] at hS;rcases k9 with k9|k9
      .exact noS j db g k1 k2 k9 k3 k4 hS
      .exact hf1 k9
    rcases fi j (aK hd) with⟨f1,f2⟩|⟨i,f1,rfl⟩<;>rcases fi j' (aK hd') with⟨f1',f2'⟩|⟨i',f1',rfl⟩
    .obtain⟨e1,e2⟩:=fo j f1 f2;obtain⟨e1',e2'⟩:=fo j' f1' f2';rw[e1] at hd;rw[e2] at hg;rw[e1'] at hd';rw[e2'] at hg';exact hi.inj j db j' db' g g' hd hl hf hd' hl' hg hg' he
    .obtain⟨e1,e2⟩:=fo j f1 f2;rw[e1] at hd;rw[e2] at hg;obtain⟨db1,e3,rfl⟩:=hpu.inv f1' hd';rw[hpu.G _ f1'] at hg';rw[DB.rn_live] at hl';exact(cross j db g i' db1 g' hd hl hg f2 e3 hl' hg' he (.inl hf)).elim
    .obtain⟨e1',e2'⟩:=fo j' f1' f2';rw[e1'] at hd';rw[e2'] at hg';obtain⟨db1,e3,rfl⟩:=hpu.inv f1 hd;rw[hpu.G _ f1] at hg;rw[DB.rn_live] at hl;rw[DB.rn_fix] at hf;exact(cross j' db' g' i db1 g hd' hl' hg' f2' e3 hl hg he.symm (.inr hf)).elim
    .obtain⟨db1,e3,rfl⟩:=hpu.inv f1 hd;rw[hpu.G _ f1] at hg;rw[DB.rn_live] at hl;rw[DB.rn_fix] at hf;obtain⟨db2,e4,rfl⟩:=hpu.inv f1' hd';rw[hpu.G _ f1'] at hg';rw[DB.rn_live] at hl';rw[h2.inj i db1 i' db2 g g' e3 hl hf e4 hl' hg hg' he]
  exact⟨d.rn tb X.h.length,F,h1,hiF,hst,bD.push hpu h4,hk d Z.h hlen h5⟩
 have gdY:Gnd P Y:=gd;rcases hc Y vals rfl hiY gdY hrY with⟨h1,h2⟩|⟨v,w',h1,h2⟩
 .exact .inl ⟨h1,h2.mono λe w' ⟨v,he,hv⟩=>⟨v,he,key v w' hv⟩⟩
 .exact .inr ⟨v,w',h1,key v w' h2⟩
theorem zLI{h1:aD}{args:List DV}{r:DV}(tb:List Nat)(hc:aA P f args0 h0 λd h'=>d=r/\h'=h1)(ha:args0.map (DV.rn tb 0)=args)
 (hb:(Nat.beq tb.length h0.length && (pW tb && (tb.all (λt=>Nat.blt t h.length) && (h0.all (bP h0.length) && args0.all (aL h0.length)))))=true)(ht:EK tb h 0 h0)
 (hk:K (r.rn tb h.length) (gQ tb h.length h tb h1)):aA P f args h K:=by
 subst ha;refine aA.sub tb hc hb ht λd h' _ hd=>?_;obtain⟨rfl,rfl⟩:=hd;exact hk
attribute [go_sem] DV.rn CV.rn EV.rn KV.rn DB.rn gQ Dm.rn zPC zNN zPB zPA zQ2
theorem uS{P:Program}{f:FuncId}{h h0 h1:aD}{args args0:List DV}{r:DV}{K:DV->aD->Prop}(tb:List Nat)(hc:aA P f args0 h0 λd h'=>d=r/\h'=h1)(hk:K (r.rn tb h.length) (gQ tb h.length h tb h1))(ha:args0.map (DV.rn tb 0)=args:=by exact rfl)
  (hb:(Nat.beq tb.length h0.length && (pW tb && (tb.all (λt=>Nat.blt t h.length) && (h0.all (bP h0.length) && args0.all (aL h0.length)))))=true:=by exact rfl)(ht:EK tb h 0 h0:=by (simp only[go_sem]<;>fail)):aA P f args h K:=zLI tb hc ha hb ht hk
theorem hpK{tb:List Nat}{n0 i:Nat}{h l:aD}(H:EF tb n0 h i l:=by (simp only[zOV,zMH,zOU,zOT,zQy];(repeat' (first|exact rfl|exact True.intro|refine And.intro ?_ ?_))<;>fail)):EF tb n0 h i l:=H
theorem wpK{tb:List Nat}{n:Nat}{t t':Fr}(H:WkP tb n t t':=by (simp only[zN4,zPY];(repeat' (first|exact rfl|exact True.intro|refine And.intro ?_ ?_))<;>fail)):WkP tb n t t':=H
end
theorem zNc(l:List Ly):(dA l).all (λe=>e.all vJ)=true:=List.all_eq_true.2 λe he=>by
 obtain⟨x,_,rfl⟩:=List.mem_map.1 he;rfl
theorem zNd(l:List Int):(dB l).all (λe=>e.all vJ)=true:=List.all_eq_true.2 λe he=>by
 obtain⟨x,_,rfl⟩:=List.mem_map.1 he;rfl
theorem zJ9(l:List Nm):(bS l).all (λe=>e.all vJ)=true:=List.all_eq_true.2 λe he=>by
 obtain⟨x,_,rfl⟩:=List.mem_map.1 he;rfl
theorem zJ6(l:List Ly):jL (.arr 4 (dA l) false)=true:=by simp only[jL,zNc];rfl
theorem zJ7(l:List Int):jL (.arr 1 (dB l) false)=true:=by simp only[jL,zNd];rfl
theorem zGz(l:List Nm):jL (.arr 2 (bS l) false)=true:=by simp only[jL,zJ9];rfl
def zFn:List Ly->Int->Int
 | [],_=>-1
 | x::l,a=>if x.i==a then 0 else if zFn l a == -1 then -1 else zFn l a+1
theorem QQ{a:Int}:∀{l:List Ly},(∀(k:Nat) (x:Ly),l[k]?=some x->(x.i==a)=false)->zFn l a = -1
 | [],_=>rfl
 | x::l,h=>by
  simp only[zFn];rw[h 0 x rfl,QQ (l:=l) λk y hy=>h (k+1) y (by simpa using hy)];rfl
theorem zFo{a:Int}:∀{l:List Ly} {i:Nat} {x:Ly},(∀(k:Nat) (y:Ly),k<i->l[k]?=some y->(y.i==a)=false)->l[i]?=some x->(x.i==a)=true->zFn l a=i/\fF l a=some x
 | [],_,_,_,h,_=>by simp at h
 | y::l,0,x,_,h,hx=>by
  simp only[List.getElem?_cons_zero,Option.some.injEq] at h;subst h;simp only[zFn,qZ];rw[hx];exact⟨rfl,rfl⟩
 | y::l,i+1,x,hn,h,hx=>by
  simp only[List.getElem?_cons_succ] at h;obtain⟨h1,h2⟩:=zFo (l:=l) (i:=i) (λk z hk hz=>hn (k+1) z (by omega) (by simpa using hz)) h hx;simp only[zFn,qZ];rw[hn 0 y (by omega) rfl,h1];simp only[Bool.false_eq_true,if_false];rw[if_neg (by first|(simp;done)|(simp;omega))];exact⟨by omega,h2⟩
theorem zJe(l:List Ly)(a:Int):(fF l a=none/\zFn l a = -1)∨∃(k:Nat) (x:Ly),fF l a=some x/\zFn l a=k/\l[k]?=some x:=by
 induction l with
 | nil=>exact .inl ⟨rfl,rfl⟩
 | cons y l ih =>
  rw[qZ];simp only[zFn];cases hy:y.i==a
  .simp only[Bool.false_eq_true,if_false];rcases ih with⟨h1,h2⟩|⟨k,x,h1,h2,h3⟩
   .exact .inl ⟨h1,by rw[h2];rfl⟩
   .refine .inr ⟨k+1,x,h1,?_,by simpa using h3⟩
    rw[h2,if_neg (by first|(simp;done)|(simp;omega))];omega
  .exact .inr ⟨0,y,by simp,by simp,rfl⟩
attribute [go_sem] zJ6 zJ7 zGz
section
variable {P:Program}{f:FuncId}{h:aD}{i:Nat}{c0 c1:List CV}{a r:DV}{K:DV->aD->Prop}
theorem aA.boxA
 (hc:aA P f [a,.c (.ptr 0 0)] [.box c0] λd h'=>d=r/\h'=[.box c1])
 (ha:zDO a=true)(h0:h[i]?=some (.box c0))(hd:(c0.all JX && (c1.all JX && zDO r))=true)(hk:K r (h.set i (.box c1))):
  aA P f [a,.c (.ptr i 0)] h K:=by
 simp only[Bool.and_eq_true] at hd;obtain⟨hd0,hd1,hdr⟩:=hd;intro X vals hh hi gd hr;subst hh;have hlt:=aK h0;obtain⟨g,arr,el,fz,hg,hb1,hb2,hb3,hb4⟩:=hi.blk i _ h0
 let Y:Ctx:=⟨X.w,X.S,λj=>if j=0 then some g else none,[.box c0]⟩
 have hiY:HInv Y:=by
  refine⟨hi.slt,λid db hdb=>?_,λid db g' hdb hl hg'=>?_,λid db id' db' g1 g2 hdb _ _ hdb' _ _ _ _=>?_⟩
  .cases id with
   | zero =>
    simp only[Y,List.getElem?_cons_zero,Option.some.injEq] at hdb;subst hdb;exact⟨g,arr,el,fz,rfl,hb1,hb2,hb3,tZ hd0 hb4⟩
   | succ n=>simp[Y] at hdb
  .cases id with
   | zero =>
    simp only[Y,List.getElem?_cons_zero,Option.some.injEq,if_true] at hdb hg';subst hdb;subst hg';exact hi.own i _ g h0 rfl hg
   | succ n=>simp[Y] at hdb
  .have e1:=aK hdb;have e2:=aK hdb';simp only[Y,List.length_cons,List.length_nil] at e1 e2;omega
 match vals,hr with
 | [va,v0],hr =>
  obtain ⟨hra,⟨_,hv1,hv2⟩,_⟩:=hr;obtain⟨g',hg',rfl⟩:=hv2 _ h0;rw[hg] at hg';cases hg';have hrY:dI Y [a,.c (.ptr 0 0)] [va,.pointer (some ⟨g.1,g.2+0,none⟩)] :=
   ⟨zA (X:=X) (Y:=Y) rfl rfl ha hra,⟨Nat.zero_lt_one,rfl,λcells hcells=>⟨g,rfl,rfl⟩⟩,True.intro⟩
  have key:∀v w',Ret Y (λd h'=>d=r/\h'=[.box c1]) v w'->Ret X K v w':=by
   rintro v w' ⟨d,Z,h1,h2,h3,h4,rfl,h5⟩;have hZ0:Z.h[0]?=some (.box c1):=by rw[h5];rfl
   obtain ⟨db,e1,e2,e3,e4⟩:=h3.ids 0 _ (by simp[Y]) hZ0 rfl;have hGZ:Z.G 0=some g:=e3;have e4:=e4 g rfl;have hfr:∀b,b<X.w.heap.size->b≠g.1->Z.w.heap[b]?=X.w.heap[b]? := λb hb hne=>h3.frame b hb λid db g' hdb hl hf hg'=>by
    have e1:=aK hdb;simp only[Y,List.length_cons,List.length_nil] at e1;have:id=0:=by omega
    subst this;simp only[Y,if_true,Option.some.injEq] at hg';subst hg';exactλe=>hne e.symm
   have hst:Step X ⟨Z.w,Z.S,X.G,X.h.set i (.box c1)⟩:=by
    refine⟨h3.size,h3.os,h3.tape,h3.output,h3.kept,by simp,λid db' hl' hdb' hlv=>?_,λb hb hno=>?_,λid db g' hdb hl hf hg'=>?_,λb hb=>?_⟩
    .rcases cG hdb' with⟨rfl,rfl,_⟩|⟨hne,h'⟩
     .exact⟨_,h0,True.intro,rfl,λg' hg'=>by rw[hg] at hg';cases hg';exact e4⟩
     .refine⟨db',h',cM.refl hlv,rfl,λg' hg'=>?_⟩;rw[show Z.w.heap[g'.1]?=X.w.heap[g'.1]? from hfr _ (hi.block_lt h' hlv hg') λe=>hne (hi.inj i _ id db' g g' h0 rfl rfl h' hlv hg hg' e.symm).symm]
      exact(hi.blk id db' h').same hlv g' hg'
    .exact hfr b hb λe=>hno i _ g h0 rfl rfl hg e.symm
    .rcases cG hdb with⟨rfl,rfl,_⟩|⟨hne,h'⟩
     .exact .inr ⟨id,_,g',h0,rfl,rfl,hg',rfl⟩
     .exact .inr ⟨id,db,g',h',hl,hf,hg',rfl⟩
    .rcases h3.upper b hb with h|h|⟨id,db,g',hdb,hl,hg',e⟩
     .exact .inl h
     .exact .inr (.inl h)
     .have e1:=aK hdb;simp only[Y,List.length_cons,List.length_nil] at e1;have:id=0:=by omega
      subst this;simp only[Y,if_true,Option.some.injEq] at hg';subst hg';exact .inr (.inr ⟨i,_,g,h0,rfl,hg,e⟩)
   refine⟨d,⟨Z.w,Z.S,X.G,X.h.set i (.box c1)⟩,h1,⟨h2.slt,λid db hdb=>?_,λid db g' hdb hl hg'=>?_,λid db id' db' g1 g2 hdb hl hf hdb' hl' hg1 hg2 he=>?_⟩,hst,WM hdr h4,hk⟩
   .rcases cG hdb with⟨rfl,rfl,_⟩|⟨hne,h'⟩
    .obtain⟨g',arr',el',fz',k1,k2,k3,k4,k5⟩:=h2.blk 0 _ hZ0;rw[hGZ] at k1;cases k1;exact⟨g,arr',el',fz',hg,k2,k3,k4,tZ hd1 k5⟩
    .by_cases hl:db.live=true
     .exact(hi.blk id db h').move hst rfl λg' hg'=>hfr _ (hi.block_lt h' hl hg') λe=>hne (hi.inj i _ id db g g' h0 rfl rfl h' hl hg hg' e.symm).symm
     .cases db<;>simp_all[DB.live,eC]
   .rcases cG hdb with⟨rfl,rfl,_⟩|⟨hne,h'⟩
    .have hgg:g'=g:=by
      have:X.G id=some g':=hg';rw[hg] at this;cases this;rfl
     subst hgg;exact h2.own 0 _ g' hZ0 rfl hGZ
    .have ho:=hi.own id db g' h' hl hg';refine⟨λhf hS=>?_,λhf=>(h3.kept _ (ho.2 hf)).1⟩;rcases h3.upper _ hS with h|h|⟨j,d',g2,hdb2,hl2,hg2,e⟩
     .exact ho.1 hf h
     .have:=hi.block_lt h' hl hg';have hYw:Y.w.heap.size=X.w.heap.size:=rfl;omega
     .have e1:=aK hdb2;simp only[Y,List.length_cons,List.length_nil] at e1;have:j=0:=by omega
      subst this;simp only[Y,if_true,Option.some.injEq] at hg2;subst hg2;exact hne (hi.inj i _ id db g g' h0 rfl rfl h' hl hg hg' e).symm
   .rcases cG hdb with⟨rfl,rfl,_⟩|⟨hne,h1'⟩<;>rcases cG hdb' with⟨rfl,rfl,_⟩|⟨hne',h2'⟩
    .rfl
    .exact hi.inj id _ id' db' g1 g2 h0 rfl rfl h2' hl' hg1 hg2 he
    .exact hi.inj id db id' _ g1 g2 h1' hl hf h0 rfl hg1 hg2 he
    .exact hi.inj id db id' db' g1 g2 h1' hl hf h2' hl' hg1 hg2 he
  have gdY:Gnd P Y:=gd;rcases hc Y _ rfl hiY gdY hrY with⟨h1,h2⟩|⟨v,w',h1,h2⟩
  .exact .inl ⟨h1,h2.mono λe w' ⟨v,he,hv⟩=>⟨v,he,key v w' hv⟩⟩
  .exact .inr ⟨v,w',h1,key v w' h2⟩
theorem zPF
 (hc:aA P f [a,.c (.ptr 0 0)] [.box c0] λd h'=>d=r/\h'=[.box c1])(ha:zDO a=true)
 (h0:h[i]?=some (.box c0))(hd:(c0.all JX && (c1.all JX && zDO r))=true)(hk:K r (h.set i (.box c1))):
  aA P f [a,.c (.ptr i 0)] h K:=aA.boxA hc ha h0 hd hk
end
section
section
variable {P:Program}{T:Tab}{X0:Ctx}{c:Code}{Q:Exit->DS->Prop}
def zLQ(n0:Nat)(s s':DS):Prop:=yB n0 s s'∨∃i id off len x,look s.t i=.c (.own id off len)/\SK s.h (.own id off len)=some x/\FE n0 ⟨s.n,(i,.c (.p x))::s.t,sN s.h [id]⟩ s'
theorem zLQ.use{n0:Nat}{s s':DS}(h:zLQ n0 s s'){X0 X:Ctx}{a:Act}(hn:X0.h.length=n0)(hh:X.h=s.h)(hi:HInv X)(hs:Step X0 X)(ht:TInv X s a):∃X',X'.w=X.w/\X'.h=s'.h/\HInv X'/\Step X0 X'/\TInv X' s' a:=by
 rcases h with h|⟨i,id,off,len,x,hl,hp,hw⟩
 .exact h.use hn hh hi hs ht
 .obtain ⟨X',h1,h2,h3,h4,h5,h6⟩:=jD [id] hi;obtain⟨X2,e1,e2,e3,e4,e5⟩:=hw.use (X:=X') hn (by rw[h2,hh]) h5 (hs.trans hi h4) ⟨ht.size,λj=>by
   simp only[look];split
   .rename_i hij;subst hij;have:=ht.rel j;rw[hl] at this;simp only[bD] at this;simp only[bD,cA];exact rL hi h4 h1 this (by rw[hh];exact hp) h6
   .exact(ht.rel j).step h4,ht.defs⟩
  exact⟨X2,e1.trans h1,e2,e3,e4,e5⟩
def zLw{α:Type}(n0:Nat)(I:α->DS)(J:α->Prop)(μ:α->Nat)(x:α)(Q:Exit->DS->Prop):Exit->DS->Prop:=λe s'=>match e with
 | .normal=>∃y,J y/\μ y < μ x/\zLQ n0 s' (I y)
 | e=>Q e s'
section
variable {P:Program}{T:Tab}{X0:Ctx}{c:Code}{Q:Exit->DS->Prop}
end
theorem qd_e{α:Type}{n0:Nat}{I:α->DS}{J:α->Prop}{μ:α->Nat}{x:α}{id:Nat}{s:DS}:zLw n0 I J μ x Q (.exit id) s=Q (.exit id) s:=nr rfl
theorem qd_r{α:Type}{n0:Nat}{I:α->DS}{J:α->Prop}{μ:α->Nat}{x:α}{s:DS}:zLw n0 I J μ x Q .ret s=Q .ret s:=nr rfl
section
variable {P:Program}{T:Tab}{X0:Ctx}{c:Code}{Q:Exit->DS->Prop}
end
section
variable {P:Program}{T:Tab}{X0:Ctx}{c:Code}{Q:Exit->DS->Prop}
end
attribute [go_sem] qd_e qd_r
end
end
end Go.Dm
end
section
namespace Go.Proofs.YtflcjdohmojepaaGreatDoor
open Go Go.Dm Go.Proofs Go.Proofs.Tryz
theorem xM{a i p s:Int}{f:Bool}:aA prog 157 [.agg [.p (.i .i64 i),.p (.i .i64 p),.p (.i .i64 s),.p (.b f)],.c (.ptr 0 0)] [.box [.p (.i .i64 a)]] λr h=>r=.c (.p (.b (i==a)))/\h=[.box [.p (.i .i64 a)]]:=by
 refine eT func157 λX0 hX=>?_;simp only[f157,go_sem]
 repeat' (first|exact⟨⟩|refine sp ?_)
theorem zJt{l:List Ly}{a:Int}(hl:l.length<=1000000):aA prog 109 [.c (.p (.sl 4 (dA l))),.c (.clo 157 [.ptr 0 0])] [.box [.p (.i .i64 a)]]
  λr h=>r=.c (.p (.i .i64 (zFn l a)))/\h=[.box [.p (.i .i64 a)]]:=by
 refine eT func109 λX0 hX=>?_;simp only[f109,go_sem]
 repeat' (first|exact⟨⟩|refine sp ?_)
 refine aP aF aN (α:=Nat) (λk=>⟨19,[(0,.c (.p (.sl 4 (dA l)))),(1,.c (.clo 157 [.ptr 0 0])),(7,.c (.p (.i .i64 l.length))),(8,.c (.p (.i .i64 k)))],[.box [.p (.i .i64 a)]]⟩)
  (λk=>k<=l.length/\∀(j:Nat) (y:Ly),j<k->l[j]?=some y->(y.i==a)=false) (λk=>l.length-k) 0 ⟨Nat.zero_le _,λj y h=>by omega⟩ (.inl (aB (by rw[hX];rfl) rfl rfl wkS)) ?_
 rintro k ⟨hk,hs⟩;by_cases hlt:k<l.length
 .have hx:l[k]?=some l[k]:=List.getElem?_eq_getElem hlt;have hg:=nS hx;have h1:decide ((k:Int)<(l.length:Int))=true:=decide_eq_true (by omega);have w1:IntKind.i64.wrap ((k:Int)+1)=k+1:=wrap_i64 (by omega) (by omega);generalize l[k]=x at hx hg;cases hb:(x.i==a)
  .have hJ:PLift (k+1<=l.length/\∀(j:Nat) (y:Ly),j<k+1->l[j]?=some y->(y.i==a)=false):=⟨by omega,λj y hj hy=>by
    rcases Nat.lt_or_ge j k with h|h
    .exact hs j y h hy
    .have:j=k:=by omega
     subst this;rw[hx] at hy;cases hy;exact hb⟩
   clear hs hx
   repeat' (first|exact⟨⟩|refine sp ?_|refine zPF xM rfl rfl rfl ?_|refine ai ?_)
   exact dE (k+1) hJ.down (by omega) (aB rfl rfl rfl wkS)
  .have hJ:=PLift.up (zFo hs hx hb).1;clear hs hx
   repeat' (first|exact⟨⟩|refine sp ?_|refine zPF xM rfl rfl rfl ?_|refine ai ?_)
   all_goals rw[hJ.down]
 .have h1:decide ((k:Int)<(l.length:Int))=false:=decide_eq_false (by omega);have hJ:=PLift.up (QQ (l:=l) (a:=a) λj y hj=>hs j y (by have:=(List.getElem?_eq_some_iff.1 hj).1;omega) hj);clear hs
  repeat' (first|exact⟨⟩|refine sp ?_)
  all_goals rw[hJ.down]
theorem KJ{l:List Ly}{a:Int}(hl:l.length<=1000000):aA prog 112 [.c (.p (.sl 4 (dA l))),.c (.p (.i .i64 a))] []
  λr h=>r=.tup [.agg ((fF l a).getD ly0).cv,.c (.p (.b (fF l a).isSome))]/\h=[]:=by
 have hc:=zJt (a:=a) hl;rcases zJe l a with⟨h1,h2⟩|⟨k,x,h1,h2,h3⟩
 .rw[h2] at hc;rw[h1];clear h1 h2;refine eT func112 λX0 hX=>?_;simp only[f112,go_sem]
  repeat' (first|exact⟨⟩|refine sp ?_|refine uS [0] (hc) ?_)
  all_goals simp[ly0]
 .rw[h2] at hc;rw[h1];have hlt:=(List.getElem?_eq_some_iff.1 h3).1;have hg:=nS h3;have k1:decide ((k:Int)<0)=false:=decide_eq_false (by omega);have k2:(0:Int)<=(k:Int):=by omega
  have k3:(k:Int)<(l.length:Int):=by omega
  clear h1 h2 h3;refine eT func112 λX0 hX=>?_;simp only[f112,go_sem]
  repeat' (first|exact⟨⟩|refine sp ?_|refine uS [0] (hc) ?_)
  all_goals simp[Ly.cv]
end Go.Proofs.YtflcjdohmojepaaGreatDoor
end
