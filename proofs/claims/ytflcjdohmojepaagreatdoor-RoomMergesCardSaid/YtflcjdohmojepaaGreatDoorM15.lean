/- Part 16 of the proof of roomMerges_card, set without needless blanks. No condition. -/
import Derived.Test.YtflcjdohmojepaaGreatDoorM14
set_option linter.all false
set_option maxRecDepth 100000
set_option maxHeartbeats 16000000
section
namespace Go.Dm
open Go
section
variable {w w':World}{S S':Nat->Prop}{bl k n i:Nat}{X Y:Ctx}{x d:DV}{v:Value}{P:Program}{f:FuncId}{h h1:aD}{es es0:List (List PV)}{K:DV->aD->Prop}
def jL: DB->Bool
 | .dead=>true
 | .arr _ es ro=>!ro && es.all (λe=>e.all vJ)
 | _=>false
def qB: CV->Bool
 | .p x=>vJ x
 | .own _ _ _=>true
 | _=>false
def zGA: EV->Bool
 | .c x=>qB x
 | .agg xs=>xs.all qB
def uV: DV->Bool
 | .c x=>qB x
 | .agg xs=>xs.all qB
 | .tup xs=>xs.all zGA
 | _=>false
theorem DL(hw:w'.heap[bl]?=w.heap[bl]?):∀{cs:List PV} {off:Nat},cs.all vJ=true->gT w S bl off cs->gT w' S' bl off cs
 | [],_,_,_=>by simp only[gT]
 | c::cs,off,hs,h=>by
  simp only[List.all_cons,Bool.and_eq_true] at hs;simp only[gT] at h ⊢;obtain⟨⟨v,h1,h2⟩,h3⟩:=h;exact⟨⟨v,by rw[World.cell?_of_block (a:=⟨bl,off,none⟩) hw];exact h1,DM hs.1 h2⟩,DL hw hs.2 h3⟩
theorem HT(hw:w'.heap[bl]?=w.heap[bl]?):∀{es:List (List PV)} {off:Nat},es.all (λe=>e.all vJ)=true->fP w S k bl off es->fP w' S' k bl off es
 | [],_,_,_=>by simp only[fP]
 | e::es,off,hs,h=>by
  simp only[List.all_cons,Bool.and_eq_true] at hs;simp only[fP] at h ⊢;exact⟨⟨h.1.1,DL hw hs.1 h.1.2⟩,HT hw hs.2 h.2⟩
theorem wJ(ho:∀id off len v,cA X (.own id off len) v->cA Y (.own (id+n) off len) v){x:CV}(hs:qB x=true)(h:cA X x v):cA Y (x.sh n) v:=by
 cases x<;>simp only[qB,Bool.false_eq_true] at hs
 case p=>exact DM hs h
 case own=>exact ho _ _ _ _ h
theorem tF(ho:∀id off len v,cA X (.own id off len) v->cA Y (.own (id+n) off len) v):∀{xs:List CV} {vs:List Value},xs.all qB=true->bF X xs vs->bF Y (xs.map (CV.sh n)) vs
 | [],[],_,_=>True.intro
 | x::xs,v::vs,hs,h=>by
  simp only[List.all_cons,Bool.and_eq_true] at hs;exact⟨wJ ho hs.1 h.1,tF ho hs.2 h.2⟩
 | [],_::_,_,h=>h.elim
 | _::_,[],_,h=>h.elim
theorem CL(ho:∀id off len v,cA X (.own id off len) v->cA Y (.own (id+n) off len) v):∀{xs:List EV} {vs:List Value},xs.all zGA=true->cO X xs vs->cO Y (xs.map (EV.sh n)) vs
 | [],[],_,_=>True.intro
 | x::xs,v::vs,hs,h=>by
  simp only[List.all_cons,Bool.and_eq_true] at hs;refine⟨?_,CL ho hs.2 h.2⟩;have h1:=h.1;cases x with
  | c x=>exact wJ ho hs.1 h1
  | agg ys=>obtain⟨us,k1,k2⟩:=h1;exact⟨us,k1,tF ho hs.1 k2⟩
 | [],_::_,_,h=>h.elim
 | _::_,[],_,h=>h.elim
theorem zCk(ho:∀id off len v,cA X (.own id off len) v->cA Y (.own (id+n) off len) v)(hs:uV x=true)(h:bD X x v):bD Y (x.sh n) v:=by
 cases x with
 | jk=>cases hs
 | c x=>exact wJ ho hs h
 | agg xs=>obtain⟨vs,h1,h2⟩:=h;exact⟨vs,h1,tF ho hs h2⟩
 | tup xs=>obtain⟨vs,h1,h2⟩:=h;exact⟨vs,h1,CL ho hs h2⟩
theorem aA.lendH(L:List (Option DV)){R:DV->aD->Prop}(hL:∀d,some d∈L->EW d=true)
 (hc:aA P f (L.map (zPu k (es.take n))) [] R)(h0:h[i]?=some (.arr k es false))(hk:∀d h',R d h'->(uV d && h'.all jL)=true/\K (d.sh h.length) (h++h'.map (DB.sh h.length))):
  aA P f (L.map (zQL i n)) h K:=by
 intro X vals hh hi gd hr;subst hh;have hb0:=hi.blk i _ h0
 let Y:Ctx:=⟨X.w,λb=>X.S b∨∃g,X.G i=some g/\b=g.1,λ_=>none,[]⟩
 have hiY:HInv Y:=⟨λb hb=>by
  rcases hb with hb|⟨g,hg,rfl⟩
  .exact hi.slt b hb
  .exact hi.block_lt h0 rfl hg,λid db hdb=>by simp[Y] at hdb,λid db g hdb=>by simp[Y] at hdb,λid db id' db' g1 g2 hdb=>by simp[Y] at hdb⟩
 have hkp:Kept X.w Y.w X.S Y.S:=λb hb=>⟨.inl hb,rfl⟩;have gdY:Gnd P Y:=by
  obtain⟨W0,g1,g2⟩:=gd;exact⟨W0,g1,λb hb=>⟨.inl (g2 b hb).1,(g2 b hb).2⟩⟩
 have hrY:dI Y (L.map (zPu k (es.take n))) vals:=zL hkp (λv hv=>by
  obtain⟨_,_,hv⟩:=hv;obtain⟨hv1,hv2⟩:=hv _ _ _ h0;have hln:(es.take n).length=n:=by rw[List.length_take];omega
  simp only[bD,cA,cZ];cases hg:X.G i with
  | none =>
   rw[hg] at hv2;rcases hb0 with⟨_,rfl⟩|⟨g',_,_,_,hq,_⟩
   .simp only[List.take_nil] at hln ⊢;exact⟨none,0,hv2,Nat.le_refl _,.inl trivial⟩
   .rw[hg] at hq;cases hq
  | some g =>
   rw[hg] at hv2;obtain⟨cap,o,arr,el,fz,q1,q2,q3,q4,q5,q6⟩:=hv2;refine⟨some ⟨g.1,o,none⟩,cap,by rw[hln];exact q2,by omega,?_⟩
   by_cases hn:n=0
   .subst hn;exact .inl List.take_zero
   .right;have ho:o=g.2:=by rcases q3 with q3|q3<;>omega
    subst ho;refine⟨g.1,g.2,rfl,.inr ⟨g,hg,rfl⟩,?_⟩;rcases hb0 with⟨hq,_⟩|⟨g',arr',el',fz',p1,p2,p3,p4,p5⟩
    .rw[hg] at hq;cases hq
    .rw[hg] at p1;cases p1;exact(p5.take n).move hkp rfl) hL hr
 have key:∀v w',Ret Y R v w'->Ret X K v w':=by
  rintro v w' ⟨d,Z,h1,h2,h3,h4,h5⟩;obtain⟨hs,hK⟩:=hk d Z.h h5;rw[Bool.and_eq_true] at hs;obtain⟨hs1,hs2⟩:=hs;have hfr:∀b,b<X.w.heap.size->Z.w.heap[b]?=X.w.heap[b]? := λb hb=>h3.frame b hb λid db g hdb=>by simp[Y] at hdb
  have hno:∀g,X.G i=some g->¬ X.S g.1:=λg hg=>(hi.own i _ g h0 rfl hg).1 rfl;have hmine:∀j db g,Z.h[j]?=some db->db.live=true->Z.G j=some g->X.w.heap.size<=g.1:=λj db g q1 q2 q4=>by
   have hf:db.fix=false:=by
    have:=List.all_eq_true.1 hs2 db (List.mem_of_getElem? q1);cases db with
    | arr _ _ ro=>simp only[jL,Bool.and_eq_true,Bool.not_eq_true'] at this;exact this.1
    | _=>rfl
   rcases h3.mine j db g q1 q2 hf q4 with h|⟨_,_,_,h,_⟩
   .exact h
   .simp[Y] at h
  let Z':Ctx:=⟨Z.w,λb=>Z.S b/\∀g,X.G i=some g->b≠g.1,λj=>if j<X.h.length then X.G j else Z.G (j-X.h.length),X.h++Z.h.map (DB.sh X.h.length)⟩
  have zlt:∀{j:Nat},j<X.h.length->Z'.h[j]?=X.h[j]?/\Z'.G j=X.G j:=λ{j} hj=>⟨by show (X.h++_)[j]? = _;rw[List.getElem?_append_left hj],by show (if j<X.h.length then X.G j else _)=_;rw[if_pos hj]⟩
  have zge:∀(j:Nat),Z'.h[j+X.h.length]?=(Z.h[j]?).map (DB.sh X.h.length)/\Z'.G (j+X.h.length)=Z.G j:=λj=>⟨by show (X.h++_)[_]? = _;rw[List.getElem?_append_right (by omega),List.getElem?_map];congr 2;omega,by show (if _ then _ else Z.G _)=_;rw[if_neg (by omega)];congr 1;omega⟩
  have zin:∀{j:Nat} {db:DB},Z'.h[j]?=some db->(j<X.h.length/\X.h[j]?=some db)∨∃q db0,j=q+X.h.length/\Z.h[q]?=some db0/\db=db0.sh X.h.length:=λ{j db} hd=>by
   rcases Nat.lt_or_ge j X.h.length with hlt|hge
   .exact .inl ⟨hlt,by rw[<- (zlt hlt).1];exact hd⟩
   .obtain⟨q,rfl⟩:∃q,j=q+X.h.length:=⟨j-X.h.length,by omega⟩
    rw[(zge q).1] at hd;obtain⟨db0,e1,e2⟩:=Option.map_eq_some_iff.1 hd;exact .inr ⟨q,db0,rfl,e1,e2.symm⟩
  have hst:Step X Z':=by
   refine⟨h3.size,h3.os,h3.tape,h3.output,λb hb=>⟨⟨(h3.kept b (.inl hb)).1,λg hg e=>hno g hg (e▸hb)⟩,(h3.kept b (.inl hb)).2⟩,by show _<=(X.h++_).length;rw[List.length_append];omega,λid db' hl' hdb' hlv=>?_,λb hb _=>hfr b hb,λid db g' hdb hl hf hg'=>?_,λb hb=>?_⟩
   .rw[(zlt hl').1] at hdb';refine⟨db',hdb',cM.refl hlv,(zlt hl').2,λg' hg'=>?_⟩;rw[show Z'.w.heap[g'.1]?=X.w.heap[g'.1]? from hfr _ (hi.block_lt hdb' hlv hg')]
    exact(hi.blk id db' hdb').same hlv g' hg'
   .rcases zin hdb with⟨q1,q2⟩|⟨q,db0,rfl,q2,rfl⟩
    .rw[(zlt q1).2] at hg';exact .inr ⟨id,db,g',q2,hl,hf,hg',rfl⟩
    .rw[(zge q).2] at hg';rw[DB.sh_live] at hl;exact .inl (hmine q db0 g' q2 hl hg')
   .obtain ⟨hb1,hb2⟩:=hb;rcases h3.upper b hb1 with h|h|⟨id,db,g',hdb,_⟩
    .rcases h with h|⟨g,hg,e⟩
     .exact .inl h
     .exact absurd e (hb2 g hg)
    .exact .inr (.inl h)
    .simp[Y] at hdb
  have hi':HInv Z':=by
   refine⟨λb hb=>h2.slt b hb.1,λid db hdb=>?_,λid db g' hdb hl hg'=>?_,λid db id' db' g1 g2 hdb hl hf hdb' hl' hg1 hg2 he=>?_⟩
   .rcases zin hdb with⟨q1,q2⟩|⟨q,db0,rfl,q2,rfl⟩
    .by_cases hl:db.live=true
     .exact(hi.blk id db q2).move hst (zlt q1).2 λg' hg'=>hfr _ (hi.block_lt q2 hl hg')
     .cases db<;>simp_all[DB.live,eC]
    .have hp:=List.all_eq_true.1 hs2 db0 (List.mem_of_getElem? q2);have hb:=h2.blk q db0 q2;cases db0 with
     | dead=>simp only[DB.sh,eC]
     | box _=>cases hp
     | mp _=>cases hp
     | arr k' es' ro =>
      simp only[jL,Bool.and_eq_true] at hp;simp only[eC,DB.sh,(zge q).2] at hb ⊢;rcases hb with hb|⟨g,arr,el,fz,b1,b2,b3,b4,b5⟩
      .exact .inl hb
      .exact .inr ⟨g,arr,el,fz,b1,b2,b3,b4,HT rfl hp.2 b5⟩
   .rcases zin hdb with⟨q1,q2⟩|⟨q,db0,rfl,q2,rfl⟩
    .rw [(zlt q1).2] at hg';have ho:=hi.own id db g' q2 hl hg';refine⟨λhf hS=>?_,λhf=>⟨(h3.kept _ (.inl (ho.2 hf))).1,λg hg e=>hno g hg (e▸ho.2 hf)⟩⟩;rcases h3.upper _ hS.1 with h|h|⟨j,d',g2,hdb2,_⟩
     .rcases h with h|⟨g,hg,e⟩
      .exact ho.1 hf h
      .exact hS.2 g hg e
     .have:=hi.block_lt q2 hl hg';have hYw:Y.w.heap.size=X.w.heap.size:=rfl;omega
     .simp[Y] at hdb2
    .rw[(zge q).2] at hg';rw[DB.sh_live] at hl;rw[DB.sh_fix];have ho:=h2.own q db0 g' q2 hl hg';refine⟨λhf hS=>ho.1 hf hS.1,λhf=>⟨ho.2 hf,λg hg e=>?_⟩⟩;have e1:=hmine q db0 g' q2 hl hg';have e2:=hi.block_lt h0 rfl hg;omega
   .rcases zin hdb with⟨q1,q2⟩|⟨q,db0,rfl,q2,rfl⟩<;>rcases zin hdb' with⟨q1',q2'⟩|⟨q',db0',rfl,q2',rfl⟩
    .rw[(zlt q1).2] at hg1;rw[(zlt q1').2] at hg2;exact hi.inj id db id' db' g1 g2 q2 hl hf q2' hl' hg1 hg2 he
    .rw[(zlt q1).2] at hg1;rw[(zge q').2] at hg2;rw[DB.sh_live] at hl';have e1:=hmine q' db0' g2 q2' hl' hg2;have e2:=hi.block_lt q2 hl hg1;omega
    .rw[(zge q).2] at hg1;rw[(zlt q1').2] at hg2;rw[DB.sh_live] at hl;have e1:=hmine q db0 g1 q2 hl hg1;have e2:=hi.block_lt q2' hl' hg2;omega
    .rw[(zge q).2] at hg1;rw[(zge q').2] at hg2;rw[DB.sh_live] at hl hl';rw[DB.sh_fix] at hf;rw[h2.inj q db0 q' db0' g1 g2 q2 hl hf q2' hl' hg1 hg2 he]
  refine⟨d.sh X.h.length,Z',h1,hi',hst,zCk (λid off len v hv=>?_) hs1 h4,hK⟩;simp only[cA] at hv ⊢;obtain⟨r1,r2,r3⟩:=hv;refine⟨by show _<(X.h++_).length;rw[List.length_append,List.length_map];omega,r2,λk' es' ro hd=>?_⟩
  rw[(zge id).1] at hd;obtain⟨db0,e1,e2⟩:=Option.map_eq_some_iff.1 hd;cases db0<;>simp only[DB.sh,reduceCtorEq] at e2;cases e2;rw[(zge id).2];exact r3 _ _ _ e1
 rcases hc Y _ rfl hiY gdY hrY with⟨h1,h2⟩|⟨v,w',h1,h2⟩
 .exact .inl ⟨h1,h2.mono λe w' ⟨v,he,hv⟩=>⟨v,he,key v w' hv⟩⟩
 .exact .inr ⟨v,w',h1,key v w' h2⟩
theorem zLG(hes:es.take n=es0)
 (hc:aA P f [.c (.p (.sl k es0))] [] λr h'=>r=d/\h'=h1)(h0:h[i]?=some (.arr k es false))(hp:(uV d && h1.all jL)=true)(hk:K (d.sh h.length) (h++h1.map (DB.sh h.length))):aA P f [.c (.own i 0 n)] h K:=by
 subst hes;exact aA.lendH [none] (by simp) hc h0 λr h' ⟨e1,e2⟩=>by subst e1;subst e2;exact⟨hp,hk⟩
theorem zLH(hx:EW x=true)(hes:es.take n=es0)
 (hc:aA P f [.c (.p (.sl k es0)),x] [] λr h'=>r=d/\h'=h1)(h0:h[i]?=some (.arr k es false))(hp:(uV d && h1.all jL)=true)(hk:K (d.sh h.length) (h++h1.map (DB.sh h.length))):aA P f [.c (.own i 0 n),x] h K:=by
 subst hes;exact aA.lendH [none,some x] (by simpa using hx) hc h0 λr h' ⟨e1,e2⟩=>by subst e1;subst e2;exact⟨hp,hk⟩
theorem zPG{y:DV}(hx:EW x=true)(hy:EW y=true)(hes:es.take n=es0)
 (hc:aA P f [.c (.p (.sl k es0)),x,y] [] λr h'=>r=d/\h'=h1)(h0:h[i]?=some (.arr k es false))(hp:(uV d && h1.all jL)=true)(hk:K (d.sh h.length) (h++h1.map (DB.sh h.length))):aA P f [.c (.own i 0 n),x,y] h K:=by
 subst hes;exact aA.lendH [none,some x,some y] (by
  intro d hd;simp only[List.mem_cons,Option.some.injEq,List.not_mem_nil,or_false,reduceCtorEq,false_or] at hd;rcases hd with rfl|rfl
  .exact hx
  .exact hy) hc h0 λr h' ⟨e1,e2⟩=>by subst e1;subst e2;exact⟨hp,hk⟩
end
section
variable {tb:List Nat}{N:Nat}{db a b:DB}
def rn(tb:List Nat)(N i:Nat):Nat:=match tb[i]? with
 | some j=>j
 | none=>N+(i-tb.length)
def KV.rn(tb:List Nat)(N:Nat):KV->KV
 | .p x=>.p x
 | .ptr id off=>.ptr (Dm.rn tb N id) off
def CV.rn(tb:List Nat)(N:Nat):CV->CV
 | .p x=>.p x
 | .own id off len=>.own (Dm.rn tb N id) off len
 | .ptr id off=>.ptr (Dm.rn tb N id) off
 | .aptr id i j=>.aptr (Dm.rn tb N id) i j
 | .mp id=>.mp (Dm.rn tb N id)
 | .bs id n=>.bs (Dm.rn tb N id) n
 | .eptr cs=>.eptr cs
 | .full k es=>.full k es
 | .clo f cap=>.clo f (cap.map (KV.rn tb N))
def EV.rn(tb:List Nat)(N:Nat):EV->EV
 | .c x=>.c (x.rn tb N)
 | .agg xs=>.agg (xs.map (CV.rn tb N))
def DV.rn(tb:List Nat)(N:Nat):DV->DV
 | .jk=>.jk
 | .c x=>.c (x.rn tb N)
 | .agg xs=>.agg (xs.map (CV.rn tb N))
 | .tup xs=>.tup (xs.map (EV.rn tb N))
def DB.rn(tb:List Nat)(N:Nat):DB->DB
 | .dead=>.dead
 | .box cells=>.box (cells.map (CV.rn tb N))
 | .arr k es ro=>.arr k es ro
 | .mp es=>.mp es
theorem DB.rn_live: (db.rn tb N).live=db.live:=by cases db<;>rfl
theorem DB.rn_fix: (db.rn tb N).fix=db.fix:=by cases db<;>rfl
theorem cM.rn_r(h:cM a (b.rn tb N)):cM a b:=by cases a<;>cases b<;>simp_all[cM,DB.rn]
theorem cM.rn_lr{M:Nat}(h:cM a b):cM (a.rn tb N) (b.rn tb M):=by
 cases a<;>cases b<;>first|exact h|exact h.elim
section pull
variable {X Y:Ctx}{tb:List Nat}{N:Nat}
variable {v:Value}
structure Pull (X Y:Ctx) (tb:List Nat) (N:Nat):Prop where
 w:Y.w=X.w
 S:Y.S=X.S
 h:∀i db,Y.h[i]?=some db->db.live=true->X.h[rn tb N i]?=some (db.rn tb N)
 G:∀i,i<Y.h.length->Y.G i=X.G (rn tb N i)
theorem sD.pull(p:Pull X Y tb N){c:KV}(hc:iI Y.h.length c=true)(h:sD X (c.rn tb N) v):sD Y c v:=by
 cases c<;>simp only[sD,KV.rn] at h ⊢
 case p=>rw[p.w,p.S];exact h
 case ptr id off =>
  simp only[iI,decide_eq_true_eq] at hc;exact⟨hc,h.2.1,λcells hd=>by rw[p.G _ hc];exact h.2.2 _ (p.h _ _ hd rfl)⟩
theorem fQ.pull(p:Pull X Y tb N):∀{cs:List KV} {vs:List Value},cs.all (iI Y.h.length)=true->fQ X (cs.map (KV.rn tb N)) vs->fQ Y cs vs
 | [],[],_,_=>True.intro
 | _::_,_::_,hc,h=>by
  simp only[List.all_cons,Bool.and_eq_true] at hc;exact⟨sD.pull p hc.1 h.1,fQ.pull p hc.2 h.2⟩
 | [],_::_,_,h=>h.elim
 | _::_,[],_,h=>h.elim
theorem cA.pull(p:Pull X Y tb N){c:CV}(hc:aJ Y.h.length c=true)(h:cA X (c.rn tb N) v):cA Y c v:=by
 cases c<;>simp only[cA,CV.rn] at h ⊢<;>simp only[aJ,decide_eq_true_eq] at hc
 case p=>rw[p.w,p.S];exact h
 case own id off len =>
  refine⟨hc,h.2.1,λk es ro hd=>?_⟩;rw[p.G _ hc,p.w];exact h.2.2 _ _ _ (p.h _ _ hd rfl)
 case ptr id off=>exact⟨hc,h.2.1,λcells hd=>by rw[p.G _ hc];exact h.2.2 _ (p.h _ _ hd rfl)⟩
 case aptr id i j=>exact⟨hc,h.2.1,λk es ro hd=>by rw[p.G _ hc];exact h.2.2 _ _ _ (p.h _ _ hd rfl)⟩
 case mp id=>exact⟨hc,h.2.1,λes hd=>by rw[p.G _ hc];exact h.2.2 _ (p.h _ _ hd rfl)⟩
 case bs id n=>exact⟨hc,h.2.1,λcells hd=>by rw[p.G _ hc];exact h.2.2 _ (p.h _ _ hd rfl)⟩
 case eptr=>rw[p.w,p.S];exact h
 case full=>rw[p.w,p.S];exact h
 case clo =>
  obtain⟨vs,h1,h2⟩:=h;exact⟨vs,h1,fQ.pull p hc h2⟩
theorem bF.pull(p:Pull X Y tb N):∀{cs:List CV} {vs:List Value},cs.all (aJ Y.h.length)=true->bF X (cs.map (CV.rn tb N)) vs->bF Y cs vs
 | [],[],_,_=>True.intro
 | _::_,_::_,hc,h=>by
  simp only[List.all_cons,Bool.and_eq_true] at hc;exact⟨cA.pull p hc.1 h.1,bF.pull p hc.2 h.2⟩
 | [],_::_,_,h=>h.elim
 | _::_,[],_,h=>h.elim
theorem eD.pull(p:Pull X Y tb N){c:EV}(hc:pD Y.h.length c=true)(h:eD X (c.rn tb N) v):eD Y c v:=by
 cases c<;>simp only[eD,EV.rn] at h ⊢<;>simp only[pD] at hc
 .exact cA.pull p hc h
 .obtain⟨vs,h1,h2⟩:=h;exact⟨vs,h1,bF.pull p hc h2⟩
theorem cO.pull(p:Pull X Y tb N):∀{cs:List EV} {vs:List Value},cs.all (pD Y.h.length)=true->cO X (cs.map (EV.rn tb N)) vs->cO Y cs vs
 | [],[],_,_=>True.intro
 | _::_,_::_,hc,h=>by
  simp only[List.all_cons,Bool.and_eq_true] at hc;exact⟨eD.pull p hc.1 h.1,cO.pull p hc.2 h.2⟩
 | [],_::_,_,h=>h.elim
 | _::_,[],_,h=>h.elim
theorem bD.pull(p:Pull X Y tb N){c:DV}(hc:aL Y.h.length c=true)(h:bD X (c.rn tb N) v):bD Y c v:=by
 cases c<;>simp only[bD,DV.rn] at h ⊢<;>simp only[aL] at hc
 .exact cA.pull p hc h
 .obtain⟨vs,h1,h2⟩:=h;exact⟨vs,h1,bF.pull p hc h2⟩
 .obtain⟨vs,h1,h2⟩:=h;exact⟨vs,h1,cO.pull p hc h2⟩
theorem dI.pull(p:Pull X Y tb N):∀{cs:List DV} {vs:List Value},cs.all (aL Y.h.length)=true->dI X (cs.map (DV.rn tb N)) vs->dI Y cs vs
 | [],[],_,_=>True.intro
 | _::_,_::_,hc,h=>by
  simp only[List.all_cons,Bool.and_eq_true] at hc;exact⟨bD.pull p hc.1 h.1,dI.pull p hc.2 h.2⟩
 | [],_::_,_,h=>h.elim
 | _::_,[],_,h=>h.elim
theorem eC.pull(p:Pull X Y tb N){id:Nat}{db:DB}(hid:id<Y.h.length)(hc:bP Y.h.length db=true)(h:eC X (rn tb N id) (db.rn tb N)):eC Y id db:=by
 cases db<;>simp only[eC,DB.rn] at h ⊢
 case box cells =>
  obtain⟨g,arr,el,fz,h1,h2,h3,h4,h5⟩:=h;refine⟨g,arr,el,fz,by rw[p.G _ hid];exact h1,by rw[p.w];exact h2,by simpa using h3,h4,cU.mk λj c hj=>?_⟩
  obtain⟨v,h6,h7⟩:=h5.at_ (j:=j) (c:=c.rn tb N) (by rw[List.getElem?_map,hj];rfl);exact⟨v,by rw[p.w];exact h6,cA.pull p (FF (show cells.all (aJ Y.h.length)=true from hc) hj) h7⟩
 case arr=>rw[p.G _ hid,p.w,p.S];exact h
 case mp=>rw[p.G _ hid,p.w,p.S];exact h
def zQZ(tb:List Nat)(N:Nat)(h:aD):Prop:=∀i j db db',h[i]?=some db->db.live=true->h[j]?=some db'->db'.live=true->rn tb N i=rn tb N j->i=j
theorem HInv.pull(hi:HInv X)(p:Pull X Y tb N)(hc:Y.h.all (bP Y.h.length)=true)(hj:zQZ tb N Y.h):HInv Y where
 slt:=λb hb=>by rw[p.S] at hb;rw[p.w];exact hi.slt b hb
 blk:=λid db h=>by
  by_cases hl:db.live=true
  .exact eC.pull p (aK h) (FF hc h) (hi.blk _ _ (p.h _ _ h hl))
  .cases db<;>simp_all[DB.live,eC]
 own:=λid db g h hl hg=>by
  rw[p.G _ (aK h)] at hg;have:=hi.own _ _ g (p.h _ _ h hl) (by rw[DB.rn_live];exact hl) hg;rw[DB.rn_fix] at this;rw[p.S];exact this
 inj:=λid db id' db' g g' h hl hf h' hl' hg hg' he=>by
  rw[p.G _ (aK h)] at hg;rw[p.G _ (aK h')] at hg';exact hj _ _ _ _ h hl h' hl' (hi.inj _ _ _ _ g g' (p.h _ _ h hl) (by rw[DB.rn_live];exact hl) (by rw[DB.rn_fix];exact hf) (p.h _ _ h' hl') (by rw[DB.rn_live];exact hl') hg hg' he)
end pull
section perm
variable {tb:List Nat}{n n0 N i:Nat}{t t':Fr}{h l:aD}{X0 X:Ctx}{s:DS}
def perm(X:Ctx)(tb:List Nat)(h:aD):Ctx:=⟨X.w,X.S,λi=>X.G (rn tb 0 i),h⟩
def WkP(tb:List Nat)(n:Nat)(t:Fr):Fr->Prop
 | []=>True
 | p::t'=>(look t p.1=p.2.rn tb 0/\aL n p.2=true)/\WkP tb n t t'
theorem WkP.look: ∀{t':Fr},WkP tb n t t'->∀i,look t' i=.jk∨(Dm.look t i=(Dm.look t' i).rn tb 0/\aL n (Dm.look t' i)=true)
 | [],_,_=>.inl rfl
 | p::t',h,i=>by
  simp only[Dm.look];split
  .rename_i hi;subst hi;exact .inr ⟨h.1.1,h.1.2⟩
  .exact WkP.look h.2 i
def EF(tb:List Nat)(n0:Nat)(h:aD):Nat->aD->Prop
 | _,[]=>True
 | i,.dead::l=>EF tb n0 h (i+1) l
 | i,db::l=>(h[rn tb 0 i]?=some (db.rn tb 0)/\(Nat.ble n0 i || Nat.beq (rn tb 0 i) i)=true)/\EF tb n0 h (i+1) l
theorem EF.at_: ∀{l:aD} {i j:Nat} {db:DB},EF tb n0 h i l->l[j]?=some db->db.live=true->h[rn tb 0 (i+j)]?=some (db.rn tb 0)/\(i+j<n0->rn tb 0 (i+j)=i+j)
 | [],_,_,_,_,hj,_=>by simp at hj
 | x::l,i,0,db,hh,hj,hl=>by
  simp only[List.getElem?_cons_zero,Option.some.injEq] at hj;subst hj;cases x with
  | dead=>simp[DB.live] at hl
  | box _ =>
   refine⟨hh.1.1,λhlt=>?_⟩;have:=hh.1.2;rw[Bool.or_eq_true] at this;rcases this with h1|h1
   .have:=Nat.le_of_ble_eq_true h1;omega
   .exact Nat.eq_of_beq_eq_true h1
  | arr _ _ _ =>
   refine⟨hh.1.1,λhlt=>?_⟩;have:=hh.1.2;rw[Bool.or_eq_true] at this;rcases this with h1|h1
   .have:=Nat.le_of_ble_eq_true h1;omega
   .exact Nat.eq_of_beq_eq_true h1
  | mp _ =>
   refine⟨hh.1.1,λhlt=>?_⟩;have:=hh.1.2;rw[Bool.or_eq_true] at this;rcases this with h1|h1
   .have:=Nat.le_of_ble_eq_true h1;omega
   .exact Nat.eq_of_beq_eq_true h1
 | x::l,i,j+1,db,hh,hj,hl=>by
  simp only[List.getElem?_cons_succ] at hj;have hh':EF tb n0 h (i+1) l:=by
   cases x with
   | dead=>exact hh
   | box _=>exact hh.2
   | arr _ _ _=>exact hh.2
   | mp _=>exact hh.2
  have:=EF.at_ hh' hj hl
  rwa[show i+1+j=i+(j+1) by omega] at this
def pW: List Nat->Bool
 | []=>true
 | x::l=>!(l.any (Nat.beq x)) && pW l
theorem pX: ∀{l:List Nat},pW l=true->l.Nodup
 | [],_=>List.nodup_nil
 | x::l,h=>by
  simp only[pW,Bool.and_eq_true,Bool.not_eq_true',List.any_eq_false] at h;refine List.nodup_cons.2 ⟨λhx=>h.1 x hx (Nat.beq_refl x),pX h.2⟩
theorem wS(h:i<tb.length):rn tb N i=tb[i]:=by
 unfold rn;rw[List.getElem?_eq_getElem h]
theorem SZ(h:tb.length<=i):rn tb N i=N+(i-tb.length):=by
 unfold rn;rw[List.getElem?_eq_none h]
theorem zAK{x:Nat}:∀{l:List Nat} {i j:Nat},l.Nodup->l[i]?=some x->l[j]?=some x->i=j
 | [],_,_,_,h,_=>by simp at h
 | y::l,0,0,_,_,_=>rfl
 | y::l,0,j+1,hn,h1,h2=>by
  simp only[List.getElem?_cons_zero,Option.some.injEq,List.getElem?_cons_succ] at h1 h2;subst h1;exact absurd (List.mem_of_getElem? h2) (List.nodup_cons.1 hn).1
 | y::l,i+1,0,hn,h1,h2=>by
  simp only[List.getElem?_cons_zero,Option.some.injEq,List.getElem?_cons_succ] at h1 h2;subst h2;exact absurd (List.mem_of_getElem? h1) (List.nodup_cons.1 hn).1
 | y::l,i+1,j+1,hn,h1,h2=>by
  simp only[List.getElem?_cons_succ] at h1 h2;rw[zAK (List.nodup_cons.1 hn).2 h1 h2]
theorem zGT{j:Nat}(hd:tb.Nodup)(hi:i<tb.length)(hj:j<tb.length)(h:rn tb N i=rn tb N j):i=j:=by
 rw[wS hi,wS hj] at h;exact zAK hd (List.getElem?_eq_getElem hi) (by rw[List.getElem?_eq_getElem hj,h])
def zDj(n0:Nat)(s s':DS):Prop:=∃tb:List Nat,s'.n=s.n/\n0<=s'.h.length/\s'.h.length=tb.length/\pW tb=true/\EF tb n0 s.h 0 s'.h/\s'.h.all (bP s'.h.length)=true/\WkP tb s'.h.length s.t s'.t
theorem LR(hn:X0.h.length=n0)(hi:HInv X)(hs:Step X0 X)(h1:n0<=h.length)(h2:h.length=tb.length)(h3:pW tb=true)(h4:EF tb n0 X.h 0 h)(h5:h.all (bP h.length)=true):
  HInv (perm X tb h)/\Step X0 (perm X tb h)/\Pull X (perm X tb h) tb 0:=by
 have hat:∀i db,h[i]?=some db->db.live=true->X.h[rn tb 0 i]?=some (db.rn tb 0)/\(i<n0->rn tb 0 i=i):=λi db hd hl=>by
  have:=h4.at_ hd hl
  rwa[Nat.zero_add] at this
 have hp:Pull X (perm X tb h) tb 0:=⟨rfl,rfl,λi db hd hl=>(hat i db hd hl).1,λi _=>rfl⟩;refine⟨hi.pull hp h5 λi j db db' hd _ hd' _ he=>zGT (pX h3) (h2▸aK hd) (h2▸aK hd') he,?_,hp⟩;refine⟨hs.size,hs.os,hs.tape,hs.output,hs.kept,by rw[hn];exact h1,λid db' hlt hd hl=>?_,hs.frame,λid db g hd hl hf hg=>?_,hs.upper⟩
 .obtain⟨k1,k2⟩:=hat id db' hd hl;have k2:=k2 (hn▸hlt);rw[k2] at k1;obtain⟨db,q1,q2,q3,q4⟩:=hs.ids id _ hlt k1 (by rw[DB.rn_live];exact hl);refine⟨db,q1,q2.rn_r,?_,q4⟩;show X.G (rn tb 0 id)=_;rw[k2];exact q3
 .obtain⟨k1,_⟩:=hat id db hd hl;exact hs.mine _ _ g k1 (by rw[DB.rn_live];exact hl) (by rw[DB.rn_fix];exact hf) hg
theorem zDj.use{s':DS}(h:zDj n0 s s'){a:Act}(hn:X0.h.length=n0)(hh:X.h=s.h)(hi:HInv X)(hs:Step X0 X)(ht:TInv X s a):∃X',X'.w=X.w/\X'.h=s'.h/\HInv X'/\Step X0 X'/\TInv X' s' a:=by
 obtain⟨tb,h0,h1,h2,h3,h4,h5,h6⟩:=h;rw[<- hh] at h4;obtain⟨g1,g2,g3⟩:=LR hn hi hs h1 h2 h3 h4 h5;refine⟨perm X tb s'.h,rfl,rfl,g1,g2,ht.size.trans h0.symm,λi=>?_,ht.defs⟩;rcases h6.look i with h7|⟨h7,h8⟩
 .rw[h7];exact True.intro
 .have:=ht.rel i;rw[h7] at this;exact bD.pull g3 h8 this
theorem oQ(tb:List Nat){h':aD}(h0:(Nat.ble n0 h'.length && (Nat.beq h'.length tb.length && pW tb))=true)(h4:EF tb n0 h 0 h')(h5:h'.all (bP h'.length)=true)(h6:WkP tb h'.length t t'):zDj n0 ⟨n,t,h⟩ ⟨n,t',h'⟩:=by
 simp only[Bool.and_eq_true] at h0;exact⟨tb,rfl,Nat.le_of_ble_eq_true h0.1,Nat.eq_of_beq_eq_true h0.2.1,h0.2.2,h4,h5,h6⟩
theorem zPY: WkP tb n t []=True:=nr rfl
theorem zN4{d:DV}:WkP tb n t ((i,d)::t')=((look t i=d.rn tb 0/\aL n d=true)/\WkP tb n t t'):=nr rfl
theorem zOV: EF tb n0 h i []=True:=nr rfl
theorem zMH: EF tb n0 h i (.dead::l)=EF tb n0 h (i+1) l:=nr rfl
theorem zOU{c:List CV}:EF tb n0 h i (.box c::l)=((h[rn tb 0 i]?=some (DB.rn tb 0 (.box c))/\(Nat.ble n0 i || Nat.beq (rn tb 0 i) i)=true)/\EF tb n0 h (i+1) l):=nr rfl
theorem zOT{k:Nat}{es:List (List PV)}{ro:Bool}:EF tb n0 h i (.arr k es ro::l)=((h[rn tb 0 i]?=some (DB.rn tb 0 (.arr k es ro))/\(Nat.ble n0 i || Nat.beq (rn tb 0 i) i)=true)/\EF tb n0 h (i+1) l):=nr rfl
theorem zQy{es:List (Int × PV)}:EF tb n0 h i (.mp es::l)=((h[rn tb 0 i]?=some (DB.rn tb 0 (.mp es))/\(Nat.ble n0 i || Nat.beq (rn tb 0 i) i)=true)/\EF tb n0 h (i+1) l):=nr rfl
section
variable {P:Program}{T:Tab}{X0:Ctx}{s:DS}{Q:Exit->DS->Prop}
end
variable {P:Program}{T:Tab}{X0:Ctx}{s:DS}{Q:Exit->DS->Prop}
def zLx{α:Type}(n0:Nat)(I:α->DS)(J:α->Prop)(μ:α->Nat)(x:α)(Q:Exit->DS->Prop):Exit->DS->Prop:=λe s'=>match e with
 | .normal=>∃y,J y/\μ y < μ x/\(yB n0 s' (I y)∨zDj n0 s' (I y))
 | e=>Q e s'
section
variable {P:Program}{T:Tab}{X0:Ctx}{s:DS}{Q:Exit->DS->Prop}
end
theorem zQX{α:Type}{I:α->DS}{J:α->Prop}{μ:α->Nat}{x:α}{id:Nat}:zLx n0 I J μ x Q (.exit id) s=Q (.exit id) s:=nr rfl
theorem zQY{α:Type}{I:α->DS}{J:α->Prop}{μ:α->Nat}{x:α}:zLx n0 I J μ x Q .ret s=Q .ret s:=nr rfl
section
variable {P:Program}{T:Tab}{X0:Ctx}{s:DS}{Q:Exit->DS->Prop}
end
section
variable {P:Program}{T:Tab}{X0:Ctx}{s:DS}{Q:Exit->DS->Prop}
end
end perm
attribute [go_sem] zQX zQY
theorem aA.perm{P:Program}{f:FuncId}{args:List DV}{h h1 h2:aD}{d1 d2:DV}(tb:List Nat)(hc:aA P f args h λd h'=>d=d1/\h'=h1)(hd:d1=d2.rn tb 0)
  (h0:(Nat.ble h.length h2.length && (Nat.beq h2.length tb.length && (pW tb && (h2.all (bP h2.length) && aL h2.length d2))))=true)(h4:EF tb h.length h1 0 h2):aA P f args h λd h'=>d=d2/\h'=h2:=by
 simp only[Bool.and_eq_true] at h0;intro X vals hh hi gd hr;have key:∀v w',Ret X (λd h'=>d=d1/\h'=h1) v w'->Ret X (λd h'=>d=d2/\h'=h2) v w':=by
  rintro v w' ⟨d,Z,k1,k2,k3,k4,k5,k6⟩;rw[<- k6] at h4;obtain⟨g1,g2,g3⟩:=LR (h:=h2) (congrArg List.length hh) k2 k3 (Nat.le_of_ble_eq_true h0.1) (Nat.eq_of_beq_eq_true h0.2.1) h0.2.2.1 h4 h0.2.2.2.1;refine⟨d2,Dm.perm Z tb h2,k1,g1,g2,?_,rfl,rfl⟩;rw[k5,hd] at k4;exact bD.pull g3 h0.2.2.2.2 k4
 rcases hc X vals hh hi gd hr with⟨h1,h2⟩|⟨v,w',h1,h2⟩
 .exact .inl ⟨h1,h2.mono λe w' ⟨v,he,hv⟩=>⟨v,he,key v w' hv⟩⟩
 .exact .inr ⟨v,w',h1,key v w' h2⟩
end
end Go.Dm
end
