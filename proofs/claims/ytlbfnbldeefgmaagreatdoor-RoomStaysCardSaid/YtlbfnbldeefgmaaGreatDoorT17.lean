/- Part 18 of the proof of roomStays_card, set without needless blanks. No condition. -/
import Derived.Test.YtlbfnbldeefgmaaGreatDoorT16
set_option linter.all false
set_option maxRecDepth 100000
set_option maxHeartbeats 16000000
section
namespace Go.Dm
open Go
section
def gT(tb:List Nat)(N:Nat):aB->List Nat->aB->aB
 | h,[],zs=>h++zs.map (DB.rn tb N)
 | h,t::ts,z::zs=>gT tb N (h.set t (z.rn tb N)) ts zs
 | h,_::_,[]=>h
theorem BI{tb:List Nat}{N:Nat}:∀{ts:List Nat} {zs h:aB},ts.length<=zs.length->ts.Nodup->(∀t∈ts,t<h.length) ->
  (gT tb N h ts zs).length=h.length+(zs.length-ts.length) /\
  (∀(j:Nat),j<h.length->j ∉ ts->(gT tb N h ts zs)[j]?=h[j]?) /\
  (∀(k t:Nat),ts[k]?=some t->(gT tb N h ts zs)[t]?=(zs[k]?).map (DB.rn tb N)) /\
  (∀(m:Nat),(gT tb N h ts zs)[h.length+m]?=(zs[ts.length+m]?).map (DB.rn tb N))
 | [],zs,h,_,_,_=>by
  simp only[gT,List.length_nil,Nat.sub_zero,List.length_append,List.length_map,Nat.zero_add,true_and];refine⟨λj hj _=>List.getElem?_append_left hj,λk t hk=>by simp at hk,λm=>?_⟩
  rw[List.getElem?_append_right (by omega),List.getElem?_map]
  congr 2;omega
 | t::ts,[],h,hl,_,_=>by simp at hl
 | t::ts,z::zs,h,hl,hn,hlt=>by
  simp only[List.length_cons] at hl;have hn':=List.nodup_cons.1 hn;obtain⟨h1,h2,h3,h4⟩:=BI (tb:=tb) (N:=N) (ts:=ts) (zs:=zs) (h:=h.set t (z.rn tb N)) (by omega) hn'.2 (λx hx=>by rw[List.length_set];exact hlt x (List.mem_cons_of_mem _ hx))
  rw[List.length_set] at h1 h2 h4;have ht:=hlt t List.mem_cons_self;simp only[gT,List.length_cons];refine⟨by rw[h1];omega,λj hj hjn=>?_,λk x hk=>?_,λm=>?_⟩
  .rw[h2 j hj (λhx=>hjn (List.mem_cons_of_mem _ hx)),List.getElem?_set_ne];rintro rfl;exact hjn List.mem_cons_self
  .cases k with
   | zero =>
    simp only[List.getElem?_cons_zero,Option.some.injEq] at hk;subst hk;rw[h2 t ht hn'.1,List.getElem?_set_self ht];rfl
   | succ k =>
    simp only[List.getElem?_cons_succ] at hk ⊢;exact h3 k x hk
  .rw[h4 m,show ts.length+1+m=(ts.length+m)+1 by omega,List.getElem?_cons_succ]
section push
variable {Y F:Ctx}{tb:List Nat}{N:Nat}
variable {db:DB}{v:Value}
structure Push (Y F:Ctx) (tb:List Nat) (N:Nat):Prop where
 w:F.w=Y.w
 S:F.S=Y.S
 lt:∀i,i<Y.h.length->rn tb N i<F.h.length
 h:∀i,i<Y.h.length->F.h[rn tb N i]?=(Y.h[i]?).map (DB.rn tb N)
 G:∀i,i<Y.h.length->F.G (rn tb N i)=Y.G i
theorem Push.inv(p:Push Y F tb N){i:Nat}(hi:i<Y.h.length)(h:F.h[rn tb N i]?=some db):∃db0,Y.h[i]?=some db0/\db=db0.rn tb N:=by
 rw[p.h _ hi] at h;obtain⟨db0,h1,h2⟩:=Option.map_eq_some_iff.1 h;exact⟨db0,h1,h2.symm⟩
theorem rB.push(p:Push Y F tb N){c:KV}(h:rB Y c v):rB F (c.rn tb N) v:=by
 cases c<;>simp only[rB,KV.rn] at h ⊢
 case p=>rw[p.w,p.S];exact h
 case ptr id off =>
  refine⟨p.lt _ h.1,h.2.1,λcells hd=>?_⟩;obtain⟨db,h1,h2⟩:=p.inv h.1 hd;cases db<;>simp only[DB.rn,reduceCtorEq] at h2;rw[p.G _ h.1];exact h.2.2 _ h1
theorem fL.push(p:Push Y F tb N):∀{cs:List KV} {vs:List Value},fL Y cs vs->fL F (cs.map (KV.rn tb N)) vs
 | [],[],_=>True.intro
 | _::_,_::_,h=>⟨rB.push p h.1,fL.push p h.2⟩
 | [],_::_,h=>h.elim
 | _::_,[],h=>h.elim
theorem bV.push(p:Push Y F tb N){c:CV}(h:bV Y c v):bV F (c.rn tb N) v:=by
 cases c<;>simp only[bV,CV.rn] at h ⊢
 case p=>rw[p.w,p.S];exact h
 case own id off len =>
  refine⟨p.lt _ h.1,h.2.1,λk es ro hd=>?_⟩;obtain⟨db,h1,h2⟩:=p.inv h.1 hd;cases db<;>simp only[DB.rn,reduceCtorEq] at h2;cases h2;rw[p.G _ h.1,p.w];exact h.2.2 _ _ _ h1
 case ptr id off =>
  refine⟨p.lt _ h.1,h.2.1,λcells hd=>?_⟩;obtain⟨db,h1,h2⟩:=p.inv h.1 hd;cases db<;>simp only[DB.rn,reduceCtorEq] at h2;rw[p.G _ h.1];exact h.2.2 _ h1
 case aptr id i j =>
  refine⟨p.lt _ h.1,h.2.1,λk es ro hd=>?_⟩;obtain⟨db,h1,h2⟩:=p.inv h.1 hd;cases db<;>simp only[DB.rn,reduceCtorEq] at h2;cases h2;rw[p.G _ h.1];exact h.2.2 _ _ _ h1
 case bs id n =>
  refine⟨p.lt _ h.1,h.2.1,λcells hd=>?_⟩;obtain⟨db,h1,h2⟩:=p.inv h.1 hd;cases db<;>simp only[DB.rn,reduceCtorEq] at h2;rw[p.G _ h.1];exact h.2.2 _ h1
 case mp id =>
  refine⟨p.lt _ h.1,h.2.1,λes hd=>?_⟩;obtain⟨db,h1,h2⟩:=p.inv h.1 hd;cases db<;>simp only[DB.rn,reduceCtorEq] at h2;rw[p.G _ h.1];exact h.2.2 _ h1
 case eptr=>rw[p.w,p.S];exact h
 case full=>rw[p.w,p.S];exact h
 case clo =>
  obtain⟨vs,h1,h2⟩:=h;exact⟨vs,h1,fL.push p h2⟩
theorem bC.push(p:Push Y F tb N):∀{cs:List CV} {vs:List Value},bC Y cs vs->bC F (cs.map (CV.rn tb N)) vs
 | [],[],_=>True.intro
 | _::_,_::_,h=>⟨bV.push p h.1,bC.push p h.2⟩
 | [],_::_,h=>h.elim
 | _::_,[],h=>h.elim
theorem eD.push(p:Push Y F tb N){c:EV}(h:eD Y c v):eD F (c.rn tb N) v:=by
 cases c<;>simp only[eD,EV.rn] at h ⊢
 .exact bV.push p h
 .obtain⟨vs,h1,h2⟩:=h;exact⟨vs,h1,bC.push p h2⟩
theorem cP.push(p:Push Y F tb N):∀{cs:List EV} {vs:List Value},cP Y cs vs->cP F (cs.map (EV.rn tb N)) vs
 | [],[],_=>True.intro
 | _::_,_::_,h=>⟨eD.push p h.1,cP.push p h.2⟩
 | [],_::_,h=>h.elim
 | _::_,[],h=>h.elim
theorem bA.push(p:Push Y F tb N){c:DV}(h:bA Y c v):bA F (c.rn tb N) v:=by
 cases c<;>simp only[bA,DV.rn] at h ⊢
 .exact bV.push p h
 .obtain⟨vs,h1,h2⟩:=h;exact⟨vs,h1,bC.push p h2⟩
 .obtain⟨vs,h1,h2⟩:=h;exact⟨vs,h1,cP.push p h2⟩
theorem eC.push(p:Push Y F tb N){id:Nat}(hid:id<Y.h.length)(h:eC Y id db):eC F (rn tb N id) (db.rn tb N):=by
 cases db<;>simp only[eC,DB.rn] at h ⊢
 case box cells =>
  obtain⟨g,arr,el,fz,h1,h2,h3,h4,h5⟩:=h;refine⟨g,arr,el,fz,by rw[p.G _ hid];exact h1,by rw[p.w];exact h2,by simpa using h3,h4,cY.mk λj c hj=>?_⟩
  rw[List.getElem?_map] at hj;obtain⟨c0,h6,rfl⟩:=Option.map_eq_some_iff.1 hj;obtain⟨v,h7,h8⟩:=h5.at_ h6;exact⟨v,by rw[p.w];exact h7,bV.push p h8⟩
 case arr=>rw[p.G _ hid,p.w,p.S];exact h
 case mp=>rw[p.G _ hid,p.w,p.S];exact h
end push
variable {tb:List Nat}{h l h0:aB}{i:Nat}{P:Program}{f:FuncId}{args0:List DV}{K:DV->aB->Prop}
def CY(tb:List Nat)(h:aB):Nat->aB->Prop
 | _,[]=>True
 | i,.dead::l=>CY tb h (i+1) l
 | i,db::l=>h[rn tb 0 i]?=some (db.rn tb 0)/\CY tb h (i+1) l
theorem CY.at_: ∀{l:aB} {i j:Nat} {db:DB},CY tb h i l->l[j]?=some db->db.live=true->h[rn tb 0 (i+j)]?=some (db.rn tb 0)
 | [],_,_,_,_,hj,_=>by simp at hj
 | x::l,i,0,db,hh,hj,hl=>by
  simp only[List.getElem?_cons_zero,Option.some.injEq] at hj;subst hj;cases x with
  | dead=>simp[DB.live] at hl
  | box _=>exact hh.1
  | arr _ _ _=>exact hh.1
  | mp _=>exact hh.1
 | x::l,i,j+1,db,hh,hj,hl=>by
  simp only[List.getElem?_cons_succ] at hj;have hh':CY tb h (i+1) l:=by
   cases x with
   | dead=>exact hh
   | box _=>exact hh.2
   | arr _ _ _=>exact hh.2
   | mp _=>exact hh.2
  have:=CY.at_ hh' hj hl
  rwa[show i+1+j=i+(j+1) by omega] at this
theorem zOB: CY tb h i []=True:=nr rfl
theorem zMN: CY tb h i (.dead::l)=CY tb h (i+1) l:=nr rfl
theorem zOA{c:List CV}:CY tb h i (.box c::l)=(h[rn tb 0 i]?=some (DB.rn tb 0 (.box c))/\CY tb h (i+1) l):=nr rfl
theorem zOz{k:Nat}{es:List (List PV)}{ro:Bool}:CY tb h i (.arr k es ro::l)=(h[rn tb 0 i]?=some (DB.rn tb 0 (.arr k es ro))/\CY tb h (i+1) l):=nr rfl
theorem zPS{es:List (Int × PV)}:CY tb h i (.mp es::l)=(h[rn tb 0 i]?=some (DB.rn tb 0 (.mp es))/\CY tb h (i+1) l):=nr rfl
theorem aA.sub{R:DV->aB->Prop}(tb:List Nat)(hc:aA P f args0 h0 R)
 (hb:(Nat.beq tb.length h0.length && (pG tb && (tb.all (λt=>Nat.blt t h.length) && (h0.all (bH h0.length) && args0.all (bW h0.length)))))=true)(ht:CY tb h 0 h0)
 (hk:∀d h',h0.length<=h'.length->R d h'->K (d.rn tb h.length) (gT tb h.length h tb h')):aA P f (args0.map (DV.rn tb 0)) h K:=by
 simp only[Bool.and_eq_true] at hb;obtain⟨b1,b2,b3,b4,b5⟩:=hb;have b1:=Nat.eq_of_beq_eq_true b1;have hnd:=pH b2;have hlt:∀t∈tb,t<h.length:=λt hm=>Nat.blt_eq.mp (List.all_eq_true.1 b3 t hm);intro X vals hh hi gd hr;subst hh
 let Y:Ctx:=⟨X.w,X.S,λi=>X.G (rn tb 0 i),h0⟩
 have hp:Pull X Y tb 0:=⟨rfl,rfl,λi db hd hl=>by
  have:=ht.at_ hd hl
  rwa[Nat.zero_add] at this,λi _=>rfl⟩
 have hiY:HInv Y:=hi.pull hp b4 λi j db db' hd _ hd' _ he=>zFV hnd (b1▸aH hd) (b1▸aH hd') he;have hrY:dL Y args0 vals:=dL.pull hp b5 hr;have key:∀v w',Ret Y R v w'->Ret X K v w':=by
  rintro v w' ⟨d,Z,h1,h2,h3,h4,h5⟩;have hlen:h0.length<=Z.h.length:=h3.len;have hlen':tb.length<=Z.h.length:=by omega
  obtain⟨q1,q2,q3,q4⟩:=BI (tb:=tb) (N:=X.h.length) (ts:=tb) (zs:=Z.h) (h:=X.h) hlen' hnd hlt
  let F:Ctx:=⟨Z.w,Z.S,λj=>if j<X.h.length then (if j∈tb then Z.G (tb.idxOf j) else X.G j) else Z.G (tb.length+(j-X.h.length)),gT tb X.h.length X.h tb Z.h⟩
  have gat:∀i,i<tb.length->∃t,tb[i]?=some t/\rn tb X.h.length i=t/\t<X.h.length/\t∈tb/\tb.idxOf t=i:=λi hi=>by
   have hm:tb[i]∈tb:=List.getElem_mem hi;exact⟨tb[i],List.getElem?_eq_getElem hi,vW hi,hlt _ hm,hm,hnd.idxOf_getElem i hi⟩
  have hpu:Push Z F tb X.h.length:=by
   refine⟨rfl,rfl,λi hi=>?_,λi hi=>?_,λi hi=>?_⟩
   .show _<(gT tb X.h.length X.h tb Z.h).length;rw[q1];rcases Nat.lt_or_ge i tb.length with hlt2|hge
    .obtain⟨t,_,e2,e3,_⟩:=gat i hlt2;rw[e2];omega
    .rw[QE hge];omega
   .rcases Nat.lt_or_ge i tb.length with hlt2|hge
    .obtain⟨t,e1,e2,_⟩:=gat i hlt2;rw[e2];exact q3 i t e1
    .rw[QE hge];have:=q4 (i-tb.length);rw[show tb.length+(i-tb.length)=i by omega] at this
     exact this
   .rcases Nat.lt_or_ge i tb.length with hlt2|hge
    .obtain⟨t,_,e2,e3,e4,e5⟩:=gat i hlt2;rw[e2];show (if t<X.h.length then (if t∈tb then Z.G (tb.idxOf t) else X.G t) else _)=_
     rw[if_pos e3,if_pos e4,e5]
    .rw[QE hge];show (if X.h.length+(i-tb.length)<X.h.length then _ else Z.G (tb.length+(X.h.length+(i-tb.length)-X.h.length)))=_
     rw[if_neg (by omega)]
     congr 1;omega
  have fo:∀j,j<X.h.length->j ∉ tb->F.h[j]?=X.h[j]?/\F.G j=X.G j:=λj hj hn=>⟨q2 j hj hn,by
   show (if j<X.h.length then (if j∈tb then Z.G (tb.idxOf j) else X.G j) else _)=_
   rw[if_pos hj,if_neg hn]⟩
  have fi:∀j,j<F.h.length->(j<X.h.length/\j ∉ tb)∨∃i,i<Z.h.length/\j=rn tb X.h.length i:=λj hj=>by
   have hjl:j<X.h.length+(Z.h.length-tb.length):=by rw[<- q1];exact hj
   by_cases hx:j<X.h.length
   .by_cases hm:j∈tb
    .have hx:=List.idxOf_lt_length_iff.2 hm;exact .inr ⟨tb.idxOf j,by omega,by rw[vW hx,List.getElem_idxOf]⟩
    .exact .inl ⟨hx,hm⟩
   .exact .inr ⟨tb.length+(j-X.h.length),by omega,by rw[QE (by omega)];omega⟩
  have yx:∀(k:Nat) (db:DB),Y.h[k]?=some db->db.live=true->X.h[rn tb 0 k]?=some (db.rn tb 0)/\rn tb 0 k∈tb:=λk db hd hl=>by
   have hk:k<tb.length:=by have:=aH hd;simp only[Y] at this;omega
   exact⟨hp.h k db hd hl,by rw[vW hk];exact List.getElem_mem hk⟩
  have away:∀(j:Nat) (db:DB) (g:Nat × Nat),X.h[j]?=some db->db.live=true->X.G j=some g->j ∉ tb->Z.w.heap[g.1]?=X.w.heap[g.1]? := λj db g hd hl hg hn=>by
   refine h3.frame g.1 (hi.block_lt hd hl hg) λk db' g' hd' hl' hf' hg' e=>?_;obtain⟨e1,e2⟩:=yx k db' hd' hl';exact hn ((hi.inj (rn tb 0 k) _ j db g' g e1 (by rw[DB.rn_live];exact hl') (by rw[DB.rn_fix];exact hf') hd hl hg' hg e)▸e2)
  have hst:Step X F:=by
   refine⟨h3.size,h3.os,h3.tape,h3.output,h3.kept,?_,λj db' hj hd hl=>?_,λb hb hno=>?_,λj db g hd hl hf hg=>?_,λb hb=>?_⟩
   .show _<=(gT tb X.h.length X.h tb Z.h).length;rw[q1];omega
   .by_cases hm:j∈tb
    .have hx:=List.idxOf_lt_length_iff.2 hm;have hj':j=rn tb X.h.length (tb.idxOf j):=by rw[vW hx,List.getElem_idxOf]
     have hj0:j=rn tb 0 (tb.idxOf j):=by rw[vW hx,List.getElem_idxOf]
     rw[hj'] at hd;obtain⟨db1,e1,e2⟩:=hpu.inv (i:=tb.idxOf j) (by omega) hd;subst e2;rw[DB.rn_live] at hl;obtain⟨db0,k1,k2,k3,k4⟩:=h3.ids (tb.idxOf j) db1 (by simp only[Y];omega) e1 hl;obtain⟨e3,_⟩:=yx _ _ k1 k2.live;rw[<- hj0] at e3;have hG:Z.G (tb.idxOf j)=X.G j:=by rw[k3];show X.G (rn tb 0 (tb.idxOf j))=_;rw[<- hj0]
     refine⟨_,e3,?_,?_,λg hg=>k4 g ?_⟩
     .exact k2.rn_lr
     .have e5:=hpu.G (tb.idxOf j) (by omega);rw[<- hj'] at e5;rw[e5,hG]
     .show X.G (rn tb 0 (tb.idxOf j))=_;rw[<- hj0];exact hg
    .obtain⟨e1,e2⟩:=fo j hj hm;rw[e1] at hd;refine⟨db',hd,cG.refl hl,e2,λg hg=>?_⟩;rw[show F.w.heap[g.1]?=X.w.heap[g.1]? from away j db' g hd hl hg hm]
     exact(hi.blk j db' hd).same hl g hg
   .exact h3.frame b hb λk db g hd hl hf hg=>by
     obtain⟨e1,_⟩:=yx k db hd hl;exact hno _ _ g e1 (by rw[DB.rn_live];exact hl) (by rw[DB.rn_fix];exact hf) hg
   .rcases fi j (aH hd) with⟨f1,f2⟩|⟨i,f1,rfl⟩
    .obtain⟨e1,e2⟩:=fo j f1 f2;rw[e1] at hd;rw[e2] at hg;exact .inr ⟨j,db,g,hd,hl,hf,hg,rfl⟩
    .obtain⟨db1,e1,rfl⟩:=hpu.inv f1 hd;rw[hpu.G _ f1] at hg;rw[DB.rn_live] at hl;rw[DB.rn_fix] at hf;rcases h3.mine i db1 g e1 hl hf hg with h|⟨k,db0,g0,k1,k2,k3,k4,k5⟩
     .exact .inl h
     .obtain⟨e3,_⟩:=yx k db0 k1 k2;exact .inr ⟨_,_,g0,e3,by rw[DB.rn_live];exact k2,by rw[DB.rn_fix];exact k3,k4,k5⟩
   .rcases h3.upper b hb with h|h|⟨k,db0,g0,k1,k2,k4,k5⟩
    .exact .inl h
    .exact .inr (.inl h)
    .obtain⟨e3,_⟩:=yx k db0 k1 k2;exact .inr (.inr ⟨_,_,g0,e3,by rw[DB.rn_live];exact k2,k4,k5⟩)
  have noS:∀(j:Nat) (db:DB) (g:Nat × Nat),X.h[j]?=some db->db.live=true->db.fix=false->X.G j=some g->j ∉ tb->¬ Z.S g.1:=λj db g hd hl hf hg hn hS=>by
   rcases h3.upper g.1 hS with h|h|⟨k,db0,g0,k1,k2,k4,k5⟩
   .exact(hi.own j db g hd hl hg).1 hf h
   .have h6:=hi.block_lt hd hl hg;have h7:Y.w.heap.size=X.w.heap.size:=rfl;omega
   .obtain⟨e1,e2⟩:=yx k db0 k1 k2;exact hn ((hi.inj j db (rn tb 0 k) _ g g0 hd hl hf e1 (by rw[DB.rn_live];exact k2) hg k4 k5.symm)▸e2)
  have hiF:HInv F:=by
   refine⟨h2.slt,λj db hd=>?_,λj db g hd hl hg=>?_,λj db j' db' g g' hd hl hf hd' hl' hg hg' he=>?_⟩
   .rcases fi j (aH hd) with⟨f1,f2⟩|⟨i,f1,rfl⟩
    .obtain⟨e1,e2⟩:=fo j f1 f2;rw[e1] at hd;by_cases hl:db.live=true
     .exact(hi.blk j db hd).move hst e2 λg hg=>away j db g hd hl hg f2
     .cases db<;>simp_all[DB.live,eC]
    .obtain⟨db1,e1,rfl⟩:=hpu.inv f1 hd;exact eC.push hpu f1 (h2.blk i db1 e1)
   .rcases fi j (aH hd) with⟨f1,f2⟩|⟨i,f1,rfl⟩
    .obtain⟨e1,e2⟩:=fo j f1 f2;rw[e1] at hd;rw[e2] at hg;exact⟨λhf=>noS j db g hd hl hf hg f2,λhf=>(h3.kept _ ((hi.own j db g hd hl hg).2 hf)).1⟩
    .obtain⟨db1,e1,rfl⟩:=hpu.inv f1 hd;rw[hpu.G _ f1] at hg;rw[DB.rn_live] at hl;rw[DB.rn_fix];exact h2.own i db1 g e1 hl hg
   ·
    have cross:∀(j:Nat) (db:DB) (g:Nat × Nat) (i:Nat) (db1:DB) (g1:Nat × Nat),X.h[j]?=some db->db.live=true->X.G j=some g->j ∉ tb->Z.h[i]?=some db1->db1.live=true->Z.G i=some g1->g.1=g1.1->(db.fix=false∨db1.fix=false)->False:=by
     intro j db g i db1 g1 k1 k2 k3 k4 k5 k6 k7 k8 k9;by_cases hf1:db1.fix=false
     .rcases h3.mine i db1 g1 k5 k6 hf1 k7 with h|⟨k,db0,g0,m1,m2,m3,m4,m5⟩
      .have h6:=hi.block_lt k1 k2 k3;have h7:Y.w.heap.size=X.w.heap.size:=rfl;omega
      .obtain⟨e1,e2⟩:=yx k db0 m1 m2;exact k4 ((hi.inj (rn tb 0 k) _ j db g0 g e1 (by rw[DB.rn_live];exact m2) (by rw[DB.rn_fix];exact m3) k1 k2 m4 k3 (m5.trans k8.symm))▸e2)
     .have hS:=(h2.own i db1 g1 k5 k6 k7).2 (by simpa using hf1);rw[<- k8] at hS;rcases k9 with k9|k9
      .exact noS j db g k1 k2 k9 k3 k4 hS
      .exact hf1 k9
    rcases fi j (aH hd) with⟨f1,f2⟩|⟨i,f1,rfl⟩<;>rcases fi j' (aH hd') with⟨f1',f2'⟩|⟨i',f1',rfl⟩
    .obtain⟨e1,e2⟩:=fo j f1 f2;obtain⟨e1',e2'⟩:=fo j' f1' f2';rw[e1] at hd;rw[e2] at hg;rw[e1'] at hd';rw[e2'] at hg';exact hi.inj j db j' db' g g' hd hl hf hd' hl' hg hg' he
    .obtain⟨e1,e2⟩:=fo j f1 f2;rw[e1] at hd;rw[e2] at hg;obtain⟨db1,e3,rfl⟩:=hpu.inv f1' hd';rw[hpu.G _ f1'] at hg';rw[DB.rn_live] at hl';exact(cross j db g i' db1 g' hd hl hg f2 e3 hl' hg' he (.inl hf)).elim
    .obtain⟨e1',e2'⟩:=fo j' f1' f2';rw[e1'] at hd';rw[e2'] at hg';obtain⟨db1,e3,rfl⟩:=hpu.inv f1 hd;rw[hpu.G _ f1] at hg;rw[DB.rn_live] at hl;rw[DB.rn_fix] at hf;exact(cross j' db' g' i db1 g hd' hl' hg' f2' e3 hl hg he.symm (.inr hf)).elim
    .obtain⟨db1,e3,rfl⟩:=hpu.inv f1 hd;rw[hpu.G _ f1] at hg;rw[DB.rn_live] at hl;rw[DB.rn_fix] at hf;obtain⟨db2,e4,rfl⟩:=hpu.inv f1' hd';rw[hpu.G _ f1'] at hg';rw[DB.rn_live] at hl';rw[h2.inj i db1 i' db2 g g' e3 hl hf e4 hl' hg hg' he]
  exact⟨d.rn tb X.h.length,F,h1,hiF,hst,bA.push hpu h4,hk d Z.h hlen h5⟩
 have gdY:Gnd P Y:=gd;rcases hc Y vals rfl hiY gdY hrY with⟨h1,h2⟩|⟨v,w',h1,h2⟩
 .exact .inl ⟨h1,h2.mono λe w' ⟨v,he,hv⟩=>⟨v,he,key v w' hv⟩⟩
 .exact .inr ⟨v,w',h1,key v w' h2⟩
theorem zKK{h1:aB}{args:List DV}{r:DV}(tb:List Nat)(hc:aA P f args0 h0 λd h'=>d=r/\h'=h1)(ha:args0.map (DV.rn tb 0)=args)
 (hb:(Nat.beq tb.length h0.length && (pG tb && (tb.all (λt=>Nat.blt t h.length) && (h0.all (bH h0.length) && args0.all (bW h0.length)))))=true)(ht:CY tb h 0 h0)
 (hk:K (r.rn tb h.length) (gT tb h.length h tb h1)):aA P f args h K:=by
 subst ha;refine aA.sub tb hc hb ht λd h' _ hd=>?_;obtain⟨rfl,rfl⟩:=hd;exact hk
attribute [go_sem] DV.rn CV.rn EV.rn KV.rn DB.rn gT Dm.rn zOB zMN zOA zOz zPS
theorem uS{P:Program}{f:FuncId}{h h0 h1:aB}{args args0:List DV}{r:DV}{K:DV->aB->Prop}(tb:List Nat)(hc:aA P f args0 h0 λd h'=>d=r/\h'=h1)(hk:K (r.rn tb h.length) (gT tb h.length h tb h1))(ha:args0.map (DV.rn tb 0)=args:=by exact rfl)
  (hb:(Nat.beq tb.length h0.length && (pG tb && (tb.all (λt=>Nat.blt t h.length) && (h0.all (bH h0.length) && args0.all (bW h0.length)))))=true:=by exact rfl)(ht:CY tb h 0 h0:=by (simp only[go_sem]<;>fail)):aA P f args h K:=zKK tb hc ha hb ht hk
theorem hpK{tb:List Nat}{n0 i:Nat}{h l:aB}(H:CU tb n0 h i l:=by (simp only[zNU,zLK,zNT,zNS,zPr];(repeat' (first|exact rfl|exact True.intro|refine And.intro ?_ ?_))<;>fail)):CU tb n0 h i l:=H
theorem wpK{tb:List Nat}{n:Nat}{t t':Fr}(H:WkP tb n t t':=by (simp only[zM2,zOX];(repeat' (first|exact rfl|exact True.intro|refine And.intro ?_ ?_))<;>fail)):WkP tb n t t':=H
end
theorem zMe(l:List Ly):(cM l).all (λe=>e.all uK)=true:=List.all_eq_true.2 λe he=>by
 obtain⟨x,_,rfl⟩:=List.mem_map.1 he;rfl
theorem zMf(l:List Int):(dG l).all (λe=>e.all uK)=true:=List.all_eq_true.2 λe he=>by
 obtain⟨x,_,rfl⟩:=List.mem_map.1 he;rfl
theorem zJb(l:List Nm):(aV l).all (λe=>e.all uK)=true:=List.all_eq_true.2 λe he=>by
 obtain⟨x,_,rfl⟩:=List.mem_map.1 he;rfl
theorem zI9(l:List Ly):jT (.arr 4 (cM l) false)=true:=by simp only[jT,zMe];rfl
theorem zJa(l:List Int):jT (.arr 1 (dG l) false)=true:=by simp only[jT,zMf];rfl
theorem zFt(l:List Nm):jT (.arr 2 (aV l) false)=true:=by simp only[jT,zJb];rfl
def zEk:List Ly->Int->Int
 | [],_=>-1
 | x::l,a=>if x.i==a then 0 else if zEk l a == -1 then -1 else zEk l a+1
theorem NI{a:Int}:∀{l:List Ly},(∀(k:Nat) (x:Ly),l[k]?=some x->(x.i==a)=false)->zEk l a = -1
 | [],_=>rfl
 | x::l,h=>by
  simp only[zEk];rw[h 0 x rfl,NI (l:=l) λk y hy=>h (k+1) y (by simpa using hy)];rfl
theorem VI{a:Int}:∀{l:List Ly} {i:Nat} {x:Ly},(∀(k:Nat) (y:Ly),k<i->l[k]?=some y->(y.i==a)=false)->l[i]?=some x->(x.i==a)=true->zEk l a=i/\dR l a=some x
 | [],_,_,_,h,_=>by simp at h
 | y::l,0,x,_,h,hx=>by
  simp only[List.getElem?_cons_zero,Option.some.injEq] at h;subst h;simp only[zEk,qB];rw[hx];exact⟨rfl,rfl⟩
 | y::l,i+1,x,hn,h,hx=>by
  simp only[List.getElem?_cons_succ] at h;obtain⟨h1,h2⟩:=VI (l:=l) (i:=i) (λk z hk hz=>hn (k+1) z (by omega) (by simpa using hz)) h hx;simp only[zEk,qB];rw[hn 0 y (by omega) rfl,h1];simp only[Bool.false_eq_true,if_false];rw[if_neg (by first|(simp;done)|(simp;omega))];exact⟨by omega,h2⟩
theorem zIm(l:List Ly)(a:Int):(dR l a=none/\zEk l a = -1)∨∃(k:Nat) (x:Ly),dR l a=some x/\zEk l a=k/\l[k]?=some x:=by
 induction l with
 | nil=>exact .inl ⟨rfl,rfl⟩
 | cons y l ih =>
  rw[qB];simp only[zEk];cases hy:y.i==a
  .simp only[Bool.false_eq_true,if_false];rcases ih with⟨h1,h2⟩|⟨k,x,h1,h2,h3⟩
   .exact .inl ⟨h1,by rw[h2];rfl⟩
   .refine .inr ⟨k+1,x,h1,?_,by simpa using h3⟩
    rw[h2,if_neg (by first|(simp;done)|(simp;omega))];omega
  .exact .inr ⟨0,y,by simp,by simp,rfl⟩
attribute [go_sem] zI9 zJa zFt
section
variable {a:Int}{l:List Int}{i:Nat}
def VJ: List Int->Int->Int
 | [],_=>-1
 | x::l,a=>if a==x then 0 else if VJ l a == -1 then -1 else VJ l a+1
theorem zEm: ∀(l:List Int) (a:Int),-1<=VJ l a
 | [],_=>Int.le_refl _
 | x::l,a=>by
  simp only[VJ];have:=zEm l a;split
  .omega
  .split
   .omega
   .omega
theorem NJ: ∀{l:List Int},(∀(k:Nat) (x:Int),l[k]?=some x->(a==x)=false)->VJ l a = -1
 | [],_=>rfl
 | x::l,h=>by
  simp only[VJ];rw[h 0 x rfl,NJ (l:=l) λk y hy=>h (k+1) y (by simpa using hy)];rfl
theorem zEl: ∀{l:List Int} {i:Nat} {x:Int},(∀(k:Nat) (y:Int),k<i->l[k]?=some y->(a==y)=false)->l[i]?=some x->(a==x)=true->VJ l a=i
 | [],_,_,_,h,_=>by simp at h
 | y::l,0,x,_,h,hx=>by
  simp only[List.getElem?_cons_zero,Option.some.injEq] at h;subst h;simp only[VJ];rw[hx];rfl
 | y::l,i+1,x,hn,h,hx=>by
  simp only[List.getElem?_cons_succ] at h;have h1:=zEl (l:=l) (i:=i) (λk z hk hz=>hn (k+1) z (by omega) (by simpa using hz)) h hx;simp only[VJ];rw[hn 0 y (by omega) rfl,h1];simp only[Bool.false_eq_true,if_false];rw[if_neg (by first|(simp;done)|(simp;omega))];omega
theorem zIA(l:List Int)(a:Int):0<=VJ l a↔a∈l:=by
 induction l with
 | nil=>simp[VJ]
 | cons x l ih =>
  have h0:=zEm l a;simp only[VJ,List.mem_cons];by_cases hx:a=x
  .simp[hx]
  .rw [if_neg (by simpa using hx)];split
   .rename_i h;have:=eq_of_beq h;constructor
    .intro h;omega
    .rintro (h|h)
     .exact absurd h hx
     .have:=ih.2 h;omega
   .rename_i h;have:VJ l a≠-1:=by simpa using h
    constructor
    .intro _;exact .inr (ih.1 (by omega))
    .intro _;omega
theorem zIz(l:List Int)(a:Int):decide (0<=VJ l a)=l.contains a:=by
 rw[Bool.eq_iff_iff,decide_eq_true_eq,zIA,List.contains_iff_mem]
def swI(l:List Int)(i:Nat):List Int:=(List.range l.length).map λk=>if k<i∨l.length<=k+i then l.getD (l.length-1-k) 0 else l.getD k 0
theorem wD(l:List Int)(i:Nat):(swI l i).length=l.length:=by simp[swI]
theorem GI(l:List Int)(i k:Nat)(h:k<l.length):(swI l i)[k]?=some (if k<i∨l.length<=k+i then l.getD (l.length-1-k) 0 else l.getD k 0):=by
 unfold swI;rw[List.getElem?_map,List.getElem?_range h];rfl
theorem zJA(l:List Int):swI l 0=l:=by
 apply List.ext_getElem?;intro k;by_cases h:k<l.length
 .rw[GI l 0 k h,if_neg (by omega),List.getD_eq_getElem?_getD,List.getElem?_eq_getElem h];rfl
 .rw[List.getElem?_eq_none (by rw[wD];omega),List.getElem?_eq_none (by omega)]
theorem zMD(h:l.length<=2*i+1):swI l i=l.reverse:=by
 apply List.ext_getElem?;intro k;by_cases hk:k<l.length
 .rw [GI l i k hk,List.getElem?_reverse hk];by_cases hc:k<i∨l.length<=k+i
  .rw[if_pos hc,List.getD_eq_getElem?_getD,List.getElem?_eq_getElem (by omega)];rfl
  .rw[if_neg hc,List.getD_eq_getElem?_getD];have:l.length-1-k=k:=by omega
   rw[this,List.getElem?_eq_getElem hk];rfl
 .rw[List.getElem?_eq_none (by rw[wD];omega),List.getElem?_eq_none (by rw[List.length_reverse];omega)]
theorem zOx(h:2*i+1<l.length):(swI l i)[i]?=some (l.getD i 0):=by
 rw[GI l i i (by omega),if_neg (by omega)]
theorem zKG(h:2*i+1<l.length):(swI l i)[l.length-1-i]?=some (l.getD (l.length-1-i) 0):=by
 rw[GI l i _ (by omega),if_neg (by omega)]
theorem zJz(h:2*i+1<l.length):((swI l i).set i (l.getD (l.length-1-i) 0)).set (l.length-1-i) (l.getD i 0)=swI l (i+1):=by
 apply List.ext_getElem?;intro k;by_cases hk:k<l.length
 .rw [GI l (i+1) k hk,List.getElem?_set,List.getElem?_set,GI l i k hk];simp only[List.length_set,wD];by_cases h1:l.length-1-i=k
  .rw[if_pos h1,if_pos (by omega),if_pos (by omega)]
   congr 2;omega
  .rw [if_neg h1];by_cases h2:i=k
   .rw[if_pos h2,if_pos (by omega),if_pos (by omega)]
    congr 2;omega
   .rw[if_neg h2]
    congr 1
    by_cases hc:k<i∨l.length<=k+i
    .rw[if_pos hc,if_pos (by omega)]
    .rw[if_neg hc,if_neg (by omega)]
 .rw[List.getElem?_eq_none (by simp[wD];omega),List.getElem?_eq_none (by rw[wD];omega)]
theorem zH0(l:List Int)(k:Nat)(x:Int):(dG l).set k [.i .i64 x]=dG (l.set k x):=by simp[dG,List.map_set]
attribute [go_sem] zH0
end
end Go.Dm
end
