/- Part 15 of roomPlays_card. No condition. -/
import Derived.Test.YtfcindonokhbeaaGreatDoorP13
set_option linter.all false
set_option maxRecDepth 100000
set_option maxHeartbeats 0
section
namespace Go.Dm
open Go
section
variable {w w':World}{S S':Nat->Prop}{bl k n i:Nat}{X Y:Ctx}{x d:DV}{v:Value}{P:Program}{f:FuncId}{h h1:aF}{es es0:Bc}{K:Bd}
def lR: DB->Bool
 | .dead=>true
 | .arr _ es a=>!a && es.all (λe=>e.all yF)
 | _=>false
def sL: CV->Bool
 | .p x=>yF x
 | .own _ _ _=>true
 | _=>false
def zIN: EV->Bool
 | .c x=>sL x
 | .agg a=>a.all sL
def xS: DV->Bool
 | .c x=>sL x
 | .agg a=>a.all sL
 | .tup a=>a.all zIN
 | _=>false
theorem HA(e:w'.heap[bl]?=w.heap[bl]?):∀{cs:List PV} {off:Nat},cs.all yF=true->jC w S bl off cs->jC w' S' bl off cs
 | [],_,_,_=>by grind [jC]
 | c::cs,off,b,h=>by
  simp only[dz,bn] at b;obtain⟨⟨v,h1,g⟩,j⟩:=h;exact⟨⟨v,by rw[World.cell?_of_block (a:=⟨bl,off,none⟩) e];exact h1,HB b.1 g⟩,HA e b.2 j⟩
theorem MO(b:w'.heap[bl]?=w.heap[bl]?):∀{es:Bc} {off:Nat},es.all (λe=>e.all yF)=true->hD w S k bl off es->hD w' S' k bl off es
 | [],_,_,_=>by grind [hD]
 | e::es,off,a,h=>by
  simp only[dz,bn] at a;exact⟨⟨h.1.1,HA b a.1 h.1.2⟩,MO b a.2 h.2⟩
theorem zL(b:∀id off len v,cJ X (.own id off len) v->cJ Y (.own (id+n) off len) v){x:CV}(a:sL x=true)(h:cJ X x v):cJ Y (x.sh n) v:=by
 cases x<;>simp only[sL,av] at a
 case p=>exact HB a h
 case own=>exact b _ _ _ _ h
theorem wE(c:∀id off len v,cJ X (.own id off len) v->cJ Y (.own (id+n) off len) v):∀{a:Bf} {vs:Bb},a.all sL=true->bP X a vs->bP Y (a.map (CV.sh n)) vs
 | [],[],_,_=>True.intro
 | x::a,v::vs,b,h=>by
  simp only[dz,bn] at b;exact⟨zL c b.1 h.1,wE c b.2 h.2⟩
 | [],_::_,_,h=>h.elim
 | _::_,[],_,h=>h.elim
theorem GA(e:∀id off len v,cJ X (.own id off len) v->cJ Y (.own (id+n) off len) v):∀{a:Bj} {vs:Bb},a.all zIN=true->cY X a vs->cY Y (a.map (EV.sh n)) vs
 | [],[],_,_=>True.intro
 | x::a,v::vs,b,h=>by
  simp only[dz,bn] at b;refine⟨?_,GA e b.2 h.2⟩;have h1:=h.1;cases x with
  | c x=>exact zL e b.1 h1
  | agg m=>obtain⟨g,j,l⟩:=h1;exact⟨g,j,wE e b.1 l⟩
 | [],_::_,_,h=>h.elim
 | _::_,[],_,h=>h.elim
theorem zEc(b:∀id off len v,cJ X (.own id off len) v->cJ Y (.own (id+n) off len) v)(a:xS x=true)(h:bH X x v):bH Y (x.sh n) v:=by
 cases x with
 | jk=>cases a
 | c x=>exact zL b a h
 | agg j=>obtain⟨e,h1,g⟩:=h;exact⟨e,h1,wE b a g⟩
 | tup j=>obtain⟨e,h1,g⟩:=h;exact⟨e,h1,GA b a g⟩
theorem aA.lendH(L:List (Option DV)){R:Bd}(hL:∀d,some d∈L->JG d=true)
 (hc:aA P f (L.map (zSF k (es.take n))) [] R)(h0:h[i]?=some (.arr k es false))(hk:∀d h',R d h'->(xS d && h'.all lR)=true/\K (d.sh h.length) (h++h'.map (DB.sh h.length))):
  aA P f (L.map (zTO i n)) h K:=by
 intro X vals hh F gd hr;subst hh;have hb0:=F.blk i _ h0
 let Y:Ctx:=⟨X.w,λb=>X.S b∨∃g,X.G i=some g/\b=g.1,λ_=>none,[]⟩
 have hiY:HInv Y:=⟨λb p=>by
  rcases p with p|⟨g,u,rfl⟩
  .exact F.slt b p
  .exact F.block_lt h0 rfl u,λid m c=>by simp[Y] at c,λid m g c=>by simp[Y] at c,λid m id' J g1 T c=>by simp[Y] at c⟩
 have hkp:uK X.w Y.w X.S Y.S:=λb p=>⟨.inl p,rfl⟩;have gdY:Gnd P Y:=by
  obtain⟨W0,g1,T⟩:=gd;exact⟨W0,g1,λb p=>⟨.inl (T b p).1,(T b p).2⟩⟩
 have hrY:eC Y (L.map (zSF k (es.take n))) vals:=CN hkp (λv U=>by
  obtain⟨_,_,U⟩:=U;obtain⟨hv1,Q⟩:=U _ _ _ h0;have hln:(es.take n).length=n:=by rw[cr];omega
  simp only[bH,cJ,dO];cases u:X.G i with
  | none =>
   rw[u] at Q;rcases hb0 with⟨_,rfl⟩|⟨H,_,_,_,hq,_⟩
   .simp only[mu] at hln ⊢;exact⟨none,0,Q,bg _,.inl trivial⟩
   .rw[u] at hq;cases hq
  | some g =>
   rw[u] at Q;obtain⟨cap,o,arr,el,fz,I,r,q3,q4,q5,q6⟩:=Q;refine⟨some ⟨g.1,o,none⟩,cap,by rw[hln];exact r,qd,?_⟩
   by_cases hn:n=0
   .subst hn;exact .inl lu
   .right;have V:o=g.2:=by rcases q3 with q3|q3<;>omega
    subst V;refine⟨g.1,g.2,rfl,.inr ⟨g,u,rfl⟩,?_⟩;rcases hb0 with⟨hq,_⟩|⟨H,arr',el',fz',p1,p2,p3,p4,p5⟩
    .rw[u] at hq;cases hq
    .rw[u] at p1;cases p1;exact(p5.take n).move hkp rfl) hL hr
 have key:∀v w',Ret Y R v w'->Ret X K v w':=by
  rintro v w' ⟨d,Z,h1,W,M,h4,h5⟩;obtain⟨hs,hK⟩:=hk d Z.h h5;rw[bn] at hs;obtain⟨hs1,hs2⟩:=hs;have hfr:∀b,b<X.w.heap.size->Z.w.heap[b]?=X.w.heap[b]? := λb p=>M.frame b p λid m g c=>by simp[Y] at c
  have hno:∀g,X.G i=some g->¬ X.S g.1:=λg u=>(F.own i _ g h0 rfl u).1 rfl;have z:∀j m g,Z.h[j]?=some m->m.live=true->Z.G j=some g->X.w.heap.size<=g.1:=λj m g I r q4=>by
   have E:m.fix=false:=by
    have:=fb.1 hs2 m (dr I);cases m with
    | arr _ _ ro=>simp only[lR,bn,dg] at this;exact this.1
    | _=>rfl
   rcases M.mine j m g I r E q4 with h|⟨_,_,_,h,_⟩
   .exact h
   .simp[Y] at h
  let Z':Ctx:=⟨Z.w,λb=>Z.S b/\∀g,X.G i=some g->b≠g.1,λj=>if j<X.h.length then X.G j else Z.G (j-X.h.length),X.h++Z.h.map (DB.sh X.h.length)⟩
  have s:∀{j:Nat},j<X.h.length->Z'.h[j]?=X.h[j]?/\Z'.G j=X.G j:=λ{j} hj=>⟨by show (X.h++_)[j]? = _;rw[fu hj],by show (if j<X.h.length then X.G j else _)=_;rw[aw hj]⟩
  have t:∀(j:Nat),Z'.h[j+X.h.length]?=(Z.h[j]?).map (DB.sh X.h.length)/\Z'.G (j+X.h.length)=Z.G j:=λj=>⟨by show (X.h++_)[_]? = _;rw[gv qd,dv];congr 2;omega,by show (if _ then _ else Z.G _)=_;rw[au qd];congr 1;omega⟩
  have N:∀{j:Nat} {m:DB},Z'.h[j]?=some m->(j<X.h.length/\X.h[j]?=some m)∨∃q a,j=q+X.h.length/\Z.h[q]?=some a/\m=a.sh X.h.length:=λ{j m} hd=>by
   rcases cc j X.h.length with hlt|hge
   .exact .inl ⟨hlt,by rw[<- (s hlt).1];exact hd⟩
   .obtain⟨q,rfl⟩:∃q,j=q+X.h.length:=⟨j-X.h.length,qd⟩
    rw[(t q).1] at hd;obtain⟨a,e1,e2⟩:=du.1 hd;exact .inr ⟨q,a,rfl,e1,e2.symm⟩
  have hst:Step X Z':=by
   refine⟨M.size,M.os,M.tape,M.output,λb p=>⟨⟨(M.kept b (.inl p)).1,λg u e=>hno g u (e▸p)⟩,(M.kept b (.inl p)).2⟩,by show _<=(X.h++_).length;rw[bo];omega,λid J A y hlv=>?_,λb p _=>hfr b p,λid m H c B E l=>?_,λb p=>?_⟩
   .rw[(s A).1] at y;refine⟨J,y,cX.refl hlv,(s A).2,λH l=>?_⟩;rw[show Z'.w.heap[H.1]?=X.w.heap[H.1]? from hfr _ (F.block_lt y hlv l)]
    exact(F.blk id J y).same hlv H l
   .rcases N c with⟨I,r⟩|⟨q,a,rfl,r,rfl⟩
    .rw[(s I).2] at l;exact .inr ⟨id,m,H,r,B,E,l,rfl⟩
    .rw[(t q).2] at l;rw[DB.sh_live] at B;exact .inl (z q a H r B l)
   .obtain ⟨hb1,hb2⟩:=p;rcases M.upper b hb1 with h|h|⟨id,m,H,c,_⟩
    .rcases h with h|⟨g,u,e⟩
     .exact .inl h
     .exact absurd e (hb2 g u)
    .exact .inr (.inl h)
    .simp[Y] at c
  have hi':HInv Z':=by
   refine⟨λb p=>W.slt b p.1,λid m c=>?_,λid m H c B l=>?_,λid m id' J g1 T c B E y A C D he=>?_⟩
   .rcases N c with⟨I,r⟩|⟨q,a,rfl,r,rfl⟩
    .by_cases B:m.live=true
     .exact(F.blk id m r).move hst (s I).2 λH l=>hfr _ (F.block_lt r B l)
     .cases m<;>simp_all[DB.live,fI]
    .have hp:=fb.1 hs2 a (dr r);have p:=W.blk q a r;cases a with
     | dead=>simp only[DB.sh,fI]
     | box _=>cases hp
     | mp _=>cases hp
     | arr k' es' ro =>
      simp only[lR,bn] at hp;simp only[fI,DB.sh,(t q).2] at p ⊢;rcases p with p|⟨g,arr,el,fz,b1,b2,b3,b4,b5⟩
      .exact .inl p
      .exact .inr ⟨g,arr,el,fz,b1,b2,b3,b4,MO rfl hp.2 b5⟩
   .rcases N c with⟨I,r⟩|⟨q,a,rfl,r,rfl⟩
    .rw [(s I).2] at l;have V:=F.own id m H r B l;refine⟨λE hS=>?_,λE=>⟨(M.kept _ (.inl (V.2 E))).1,λg u e=>hno g u (e▸V.2 E)⟩⟩;rcases M.upper _ hS.1 with h|h|⟨j,d',T,hdb2,_⟩
     .rcases h with h|⟨g,u,e⟩
      .exact V.1 E h
      .exact hS.2 g u e
     .have:=F.block_lt r B l;have hYw:Y.w.heap.size=X.w.heap.size:=rfl;omega
     .simp[Y] at hdb2
    .rw[(t q).2] at l;rw[DB.sh_live] at B;rw[DB.sh_fix];have V:=W.own q a H r B l;refine⟨λE hS=>V.1 E hS.1,λE=>⟨V.2 E,λg u e=>?_⟩⟩;have e1:=z q a H r B l;have e2:=F.block_lt h0 rfl u;omega
   .rcases N c with⟨I,r⟩|⟨q,a,rfl,r,rfl⟩<;>rcases N y with⟨q1',O⟩|⟨q',db0',rfl,O,rfl⟩
    .rw[(s I).2] at C;rw[(s q1').2] at D;exact F.inj id m id' J g1 T r B E O A C D he
    .rw[(s I).2] at C;rw[(t q').2] at D;rw[DB.sh_live] at A;have e1:=z q' db0' T O A D;have e2:=F.block_lt r B C;omega
    .rw[(t q).2] at C;rw[(s q1').2] at D;rw[DB.sh_live] at B;have e1:=z q a g1 r B C;have e2:=F.block_lt O A D;omega
    .rw[(t q).2] at C;rw[(t q').2] at D;rw[DB.sh_live] at B A;rw[DB.sh_fix] at E;rw[W.inj q a q' db0' g1 T r B E O A C D he]
  refine⟨d.sh X.h.length,Z',h1,hi',hst,zEc (λid off len v U=>?_) hs1 h4,hK⟩;simp only[cJ] at U ⊢;obtain⟨r1,r2,r3⟩:=U;refine⟨by show _<(X.h++_).length;rw[bo,di];omega,r2,λk' es' ro hd=>?_⟩
  rw[(t id).1] at hd;obtain⟨a,e1,e2⟩:=du.1 hd;cases a<;>simp only[DB.sh,reduceCtorEq] at e2;cases e2;rw[(t id).2];exact r3 _ _ _ e1
 rcases hc Y _ rfl hiY gdY hrY with⟨h1,W⟩|⟨v,w',h1,W⟩
 .exact .inl ⟨h1,W.mono λe w' ⟨v,he,U⟩=>⟨v,he,key v w' U⟩⟩
 .exact .inr ⟨v,w',h1,key v w' W⟩
theorem zOw(a:es.take n=es0)
 (e:aA P f [.c (.p (.sl k es0))] [] λr b=>r=d/\b=h1)(g:h[i]?=some (.arr k es false))(j:(xS d && h1.all lR)=true)(l:K (d.sh h.length) (h++h1.map (DB.sh h.length))):aA P f [.c (.own i 0 n)] h K:=by
 subst a;exact aA.lendH [none] ql e g λr b ⟨m,o⟩=>by subst m;subst o;exact⟨j,l⟩
theorem zOx(e:JG x=true)(a:es.take n=es0)
 (g:aA P f [.c (.p (.sl k es0)),x] [] λr b=>r=d/\b=h1)(j:h[i]?=some (.arr k es false))(l:(xS d && h1.all lR)=true)(m:K (d.sh h.length) (h++h1.map (DB.sh h.length))):aA P f [.c (.own i 0 n),x] h K:=by
 subst a;exact aA.lendH [none,some x] (by simpa using e) g j λr b ⟨o,q⟩=>by subst o;subst q;exact⟨l,m⟩
theorem zSU{y:DV}(g:JG x=true)(j:JG y=true)(a:es.take n=es0)
 (l:aA P f [.c (.p (.sl k es0)),x,y] [] λr b=>r=d/\b=h1)(m:h[i]?=some (.arr k es false))(o:(xS d && h1.all lR)=true)(q:K (d.sh h.length) (h++h1.map (DB.sh h.length))):aA P f [.c (.own i 0 n),x,y] h K:=by
 subst a;exact aA.lendH [none,some x,some y] (by
  intro d e;simp only[bx,b0,oc,or_false,reduceCtorEq,false_or] at e;rcases e with rfl|rfl
  .exact g
  .exact j) l m λr b ⟨s,t⟩=>by subst s;subst t;exact⟨o,q⟩
end
section
variable {tb:List Nat}{N:Nat}{db a b:DB}
def rn(tb:List Nat)(N i:Nat):Nat:=match tb[i]? with
 | some j=>j
 | none=>N+(i-tb.length)
def KV.rn(tb:List Nat)(N:Nat):KV->KV
 | .p x=>.p x
 | .ptr id c=>.ptr (Dm.rn tb N id) c
def CV.rn(tb:List Nat)(N:Nat):CV->CV
 | .p x=>.p x
 | .own id c len=>.own (Dm.rn tb N id) c len
 | .ptr id c=>.ptr (Dm.rn tb N id) c
 | .aptr id i j=>.aptr (Dm.rn tb N id) i j
 | .mp id=>.mp (Dm.rn tb N id)
 | .bs id n=>.bs (Dm.rn tb N id) n
 | .eptr cs=>.eptr cs
 | .full k e=>.full k e
 | .clo f d=>.clo f (d.map (KV.rn tb N))
def EV.rn(tb:List Nat)(N:Nat):EV->EV
 | .c x=>.c (x.rn tb N)
 | .agg d=>.agg (d.map (CV.rn tb N))
def DV.rn(tb:List Nat)(N:Nat):DV->DV
 | .jk=>.jk
 | .c x=>.c (x.rn tb N)
 | .agg d=>.agg (d.map (CV.rn tb N))
 | .tup d=>.tup (d.map (EV.rn tb N))
def DB.rn(tb:List Nat)(N:Nat):DB->DB
 | .dead=>.dead
 | .box cells=>.box (cells.map (CV.rn tb N))
 | .arr k c d=>.arr k c d
 | .mp c=>.mp c
theorem DB.rn_live: (db.rn tb N).live=db.live:=by cases db<;>rfl
theorem DB.rn_fix: (db.rn tb N).fix=db.fix:=by cases db<;>rfl
theorem cX.rn_r(h:cX a (b.rn tb N)):cX a b:=by cases a<;>cases b<;>simp_all[cX,DB.rn]
theorem cX.rn_lr{M:Nat}(h:cX a b):cX (a.rn tb N) (b.rn tb M):=by
 cases a<;>cases b<;>first|exact h|exact h.elim
section pull
variable {X Y:Ctx}{tb:List Nat}{N:Nat}
variable {v:Value}
structure Pull (X Y:Ctx) (tb:List Nat) (N:Nat):Prop where
 w:Y.w=X.w
 S:Y.S=X.S
 h:∀i db,Y.h[i]?=some db->db.live=true->X.h[rn tb N i]?=some (db.rn tb N)
 G:∀i,i<Y.h.length->Y.G i=X.G (rn tb N i)
theorem rO.pull(p:Pull X Y tb N){c:KV}(d:jZ Y.h.length c=true)(h:rO X (c.rn tb N) v):rO Y c v:=by
 cases c<;>simp only[rO,KV.rn] at h ⊢
 case p=>rw[p.w,p.S];exact h
 case ptr id e =>
  simp only[jZ,ew] at d;exact⟨d,h.2.1,λcells f=>by rw[p.G _ d];exact h.2.2 _ (p.h _ _ f rfl)⟩
theorem gI.pull(p:Pull X Y tb N):∀{cs:List KV} {vs:Bb},cs.all (jZ Y.h.length)=true->gI X (cs.map (KV.rn tb N)) vs->gI Y cs vs
 | [],[],_,_=>True.intro
 | _::_,_::_,c,h=>by
  simp only[dz,bn] at c;exact⟨rO.pull p c.1 h.1,gI.pull p c.2 h.2⟩
 | [],_::_,_,h=>h.elim
 | _::_,[],_,h=>h.elim
theorem cJ.pull(p:Pull X Y tb N){c:CV}(d:aX Y.h.length c=true)(h:cJ X (c.rn tb N) v):cJ Y c v:=by
 cases c<;>simp only[cJ,CV.rn] at h ⊢<;>simp only[aX,ew] at d
 case p=>rw[p.w,p.S];exact h
 case own id f len =>
  refine⟨d,h.2.1,λk g m e=>?_⟩;rw[p.G _ d,p.w];exact h.2.2 _ _ _ (p.h _ _ e rfl)
 case ptr id f=>exact⟨d,h.2.1,λcells e=>by rw[p.G _ d];exact h.2.2 _ (p.h _ _ e rfl)⟩
 case aptr id i j=>exact⟨d,h.2.1,λk g m e=>by rw[p.G _ d];exact h.2.2 _ _ _ (p.h _ _ e rfl)⟩
 case mp id=>exact⟨d,h.2.1,λg e=>by rw[p.G _ d];exact h.2.2 _ (p.h _ _ e rfl)⟩
 case bs id n=>exact⟨d,h.2.1,λcells e=>by rw[p.G _ d];exact h.2.2 _ (p.h _ _ e rfl)⟩
 case eptr=>rw[p.w,p.S];exact h
 case full=>rw[p.w,p.S];exact h
 grind [gI.pull]
theorem bP.pull(p:Pull X Y tb N):∀{cs:Bf} {vs:Bb},cs.all (aX Y.h.length)=true->bP X (cs.map (CV.rn tb N)) vs->bP Y cs vs
 | [],[],_,_=>True.intro
 | _::_,_::_,c,h=>by
  simp only[dz,bn] at c;exact⟨cJ.pull p c.1 h.1,bP.pull p c.2 h.2⟩
 | [],_::_,_,h=>h.elim
 | _::_,[],_,h=>h.elim
theorem fK.pull(p:Pull X Y tb N){c:EV}(d:rR Y.h.length c=true)(h:fK X (c.rn tb N) v):fK Y c v:=by
 cases c<;>simp only[fK,EV.rn] at h ⊢<;>simp only[rR] at d
 .grind [cJ.pull]
 .grind [bP.pull]
theorem cY.pull(p:Pull X Y tb N):∀{cs:Bj} {vs:Bb},cs.all (rR Y.h.length)=true->cY X (cs.map (EV.rn tb N)) vs->cY Y cs vs
 | [],[],_,_=>True.intro
 | _::_,_::_,c,h=>by
  simp only[dz,bn] at c;exact⟨fK.pull p c.1 h.1,cY.pull p c.2 h.2⟩
 | [],_::_,_,h=>h.elim
 | _::_,[],_,h=>h.elim
theorem bH.pull(p:Pull X Y tb N){c:DV}(d:bD Y.h.length c=true)(h:bH X (c.rn tb N) v):bH Y c v:=by
 cases c<;>simp only[bH,DV.rn] at h ⊢<;>simp only[bD] at d
 .grind [cJ.pull]
 .grind [bP.pull]
 .grind [cY.pull]
theorem eC.pull(p:Pull X Y tb N):∀{cs:Bi} {vs:Bb},cs.all (bD Y.h.length)=true->eC X (cs.map (DV.rn tb N)) vs->eC Y cs vs
 | [],[],_,_=>True.intro
 | _::_,_::_,c,h=>by
  simp only[dz,bn] at c;exact⟨bH.pull p c.1 h.1,eC.pull p c.2 h.2⟩
 | [],_::_,_,h=>h.elim
 | _::_,[],_,h=>h.elim
theorem fI.pull(p:Pull X Y tb N){id:Nat}{db:DB}(hid:id<Y.h.length)(e:cG Y.h.length db=true)(h:fI X (rn tb N id) (db.rn tb N)):fI Y id db:=by
 cases db<;>simp only[fI,DB.rn] at h ⊢
 case box cells =>
  obtain⟨g,arr,f,k,m,o,q,r,u⟩:=h;refine⟨g,arr,f,k,by rw[p.G _ hid];exact m,by rw[p.w];exact o,by simpa using q,r,cR.mk λj c d=>?_⟩
  obtain⟨v,x,y⟩:=u.at_ (j:=j) (c:=c.rn tb N) (by rw[dv,d];rfl);exact⟨v,by rw[p.w];exact x,cJ.pull p (JS (show cells.all (aX Y.h.length)=true from e) d) y⟩
 case arr=>rw[p.G _ hid,p.w,p.S];exact h
 case mp=>rw[p.G _ hid,p.w,p.S];exact h
def zTY(tb:List Nat)(N:Nat)(h:aF):Prop:=∀i j db c,h[i]?=some db->db.live=true->h[j]?=some c->c.live=true->rn tb N i=rn tb N j->i=j
theorem HInv.pull(hi:HInv X)(p:Pull X Y tb N)(m:Y.h.all (cG Y.h.length)=true)(o:zTY tb N Y.h):HInv Y where
 slt:=λb k=>by rw[p.S] at k;rw[p.w];exact hi.slt b k
 blk:=λid db h=>by
  by_cases c:db.live=true
  .exact fI.pull p (aR h) (JS m h) (hi.blk _ _ (p.h _ _ h c))
  .grind [DB.live,fI]
 own:=λid db g h c e=>by
  rw[p.G _ (aR h)] at e;have:=hi.own _ _ g (p.h _ _ h c) (by rw[DB.rn_live];exact c) e;rw[DB.rn_fix] at this;rw[p.S];exact this
 inj:=λid db q r g u h c x j d e f y=>by
  rw[p.G _ (aR h)] at e;rw[p.G _ (aR j)] at f;exact o _ _ _ _ h c j d (hi.inj _ _ _ _ g u (p.h _ _ h c) (by rw[DB.rn_live];exact c) (by rw[DB.rn_fix];exact x) (p.h _ _ j d) (by rw[DB.rn_live];exact d) e f y)
end pull
section perm
variable {tb:List Nat}{n n0 N i:Nat}{t t':Fr}{h l:aF}{X0 X:Ctx}{s:DS}
def perm(X:Ctx)(tb:List Nat)(h:aF):Ctx:=⟨X.w,X.S,λi=>X.G (rn tb 0 i),h⟩
def WkP(tb:List Nat)(n:Nat)(t:Fr):Fr->Prop
 | []=>True
 | p::t'=>(look t p.1=p.2.rn tb 0/\bD n p.2=true)/\WkP tb n t t'
theorem WkP.look: ∀{t':Fr},WkP tb n t t'->∀i,look t' i=.jk∨(Dm.look t i=(Dm.look t' i).rn tb 0/\bD n (Dm.look t' i)=true)
 | [],_,_=>.inl rfl
 | p::t',h,i=>by
  simp only[Dm.look];split
  .rename_i c;subst c;exact .inr ⟨h.1.1,h.1.2⟩
  .exact WkP.look h.2 i
def HR(tb:List Nat)(n0:Nat)(h:aF):Nat->aF->Prop
 | _,[]=>True
 | i,.dead::l=>HR tb n0 h (i+1) l
 | i,db::l=>(h[rn tb 0 i]?=some (db.rn tb 0)/\(Nat.ble n0 i || Nat.beq (rn tb 0 i) i)=true)/\HR tb n0 h (i+1) l
theorem HR.at_: ∀{l:aF} {i j:Nat} {db:DB},HR tb n0 h i l->l[j]?=some db->db.live=true->h[rn tb 0 (i+j)]?=some (db.rn tb 0)/\(i+j<n0->rn tb 0 (i+j)=i+j)
 | [],_,_,_,_,e,_=>by simp_all
 | x::l,i,0,db,c,e,k=>by
  simp only[eu,b0] at e;subst e;cases x with
  | dead=>grind [DB.live]
  | box _ =>
   refine⟨c.1.1,λf=>?_⟩;have:=c.1.2;rw[fj] at this;rcases this with d|d
   .have:=gk d;omega
   .simp_all
  | arr _ _ _ =>
   refine⟨c.1.1,λf=>?_⟩;have:=c.1.2;rw[fj] at this;rcases this with d|d
   .have:=gk d;omega
   .simp_all
  | mp _ =>
   refine⟨c.1.1,λf=>?_⟩;have:=c.1.2;rw[fj] at this;rcases this with d|d
   .have:=gk d;omega
   .simp_all
 | x::l,i,j+1,db,c,e,k=>by
  have g:HR tb n0 h (i+1) l:=by
   cases x with
   | dead=>exact c
   | box _=>exact c.2
   | arr _ _ _=>exact c.2
   | mp _=>exact c.2
  have:=HR.at_ g e k;grind
def uY: List Nat->Bool
 | []=>true
 | x::l=>!(l.any (Nat.beq x)) && uY l
theorem FR: ∀{l:List Nat},uY l=true->l.Nodup
 | [],_=>by simp_all
 | x::l,h=>by
  simp only[uY,bn,dg,mw] at h;refine ja.2 ⟨λc=>h.1 x c (Nat.beq_refl x),FR h.2⟩
theorem zBr(h:i<tb.length):rn tb N i=tb[i]:=by grind [rn]
theorem zNe(h:tb.length<=i):rn tb N i=N+(i-tb.length):=by grind [rn]
theorem zCx{x:Nat}:∀{l:List Nat} {i j:Nat},l.Nodup->l[i]?=some x->l[j]?=some x->i=j
 | [],_,_,_,h,_=>by simp_all
 | y::l,0,0,_,_,_=>rfl
 | y::l,0,j+1,c,d,e=>by grind
 | y::l,i+1,0,c,d,e=>by grind
 | y::l,i+1,j+1,c,d,e=>by
  rw[zCx (ja.1 c).2 d e]
theorem zOq{j:Nat}(d:tb.Nodup)(hi:i<tb.length)(c:j<tb.length)(h:rn tb N i=rn tb N j):i=j:=by
 rw[zBr hi,zBr c] at h;exact zCx d (ay hi) (by rw[ay c,h])
def zFb(n0:Nat)(s c:DS):Prop:=∃tb:List Nat,c.n=s.n/\n0<=c.h.length/\c.h.length=tb.length/\uY tb=true/\HR tb n0 s.h 0 c.h/\c.h.all (cG c.h.length)=true/\WkP tb c.h.length s.t c.t
theorem QN(r:X0.h.length=n0)(hi:HInv X)(c:Step X0 X)(h1:n0<=h.length)(u:h.length=tb.length)(x:uY tb=true)(y:HR tb n0 X.h 0 h)(z:h.all (cG h.length)=true):
  HInv (perm X tb h)/\Step X0 (perm X tb h)/\Pull X (perm X tb h) tb 0:=by
 have f:∀i db,h[i]?=some db->db.live=true->X.h[rn tb 0 i]?=some (db.rn tb 0)/\(i<n0->rn tb 0 i=i):=λi db d e=>by
  have:=y.at_ d e;simp_all
 have w:Pull X (perm X tb h) tb 0:=⟨rfl,rfl,λi db d e=>(f i db d e).1,λi _=>rfl⟩;refine⟨hi.pull w z λi j db k d _ p _ A=>zOq (FR x) (u▸aR d) (u▸aR p) A,?_,w⟩;refine⟨c.size,c.os,c.tape,c.output,c.kept,by rw[r];exact h1,λid k m d e=>?_,c.frame,λid db g d e B C=>?_,c.upper⟩
 .obtain⟨o,q⟩:=f id k d e;have q:=q (r▸m);rw[q] at o;obtain⟨db,D,E,H,F⟩:=c.ids id _ m o (by rw[DB.rn_live];exact e);refine⟨db,D,E.rn_r,?_,F⟩;show X.G (rn tb 0 id)=_;simp_all
 .obtain⟨o,_⟩:=f id db d e;exact c.mine _ _ g o (by rw[DB.rn_live];exact e) (by rw[DB.rn_fix];exact B) C
theorem zFb.use{d:DS}(h:zFb n0 s d){a:Act}(j:X0.h.length=n0)(k:X.h=s.h)(hi:HInv X)(m:Step X0 X)(e:TInv X s a):∃c,c.w=X.w/\c.h=d.h/\HInv c/\Step X0 c/\TInv c d a:=by
 obtain⟨tb,o,p,q,r,g,u,x⟩:=h;rw[<- k] at g;obtain⟨y,z,A⟩:=QN j hi m p q r g u;refine⟨perm X tb d.h,rfl,rfl,y,z,e.size.trans o.symm,λi=>?_,e.defs⟩;rcases x.look i with f|⟨f,B⟩
 .rw[f];exact True.intro
 .have:=e.rel i;rw[f] at this;exact bH.pull A B this
theorem dV(tb:List Nat){c:aF}(d:(Nat.ble n0 c.length && (Nat.beq c.length tb.length && uY tb))=true)(e:HR tb n0 h 0 c)(f:c.all (cG c.length)=true)(g:WkP tb c.length t t'):zFb n0 ⟨n,t,h⟩ ⟨n,t',c⟩:=by
 simp only[bn] at d;exact⟨tb,rfl,gk d.1,pc d.2.1,d.2.2,e,f,g⟩
theorem zTd: WkP tb n t []=True:=nr rfl
theorem zQ8{d:DV}:WkP tb n t ((i,d)::t')=((look t i=d.rn tb 0/\bD n d=true)/\WkP tb n t t'):=nr rfl
theorem zR4: HR tb n0 h i []=True:=nr rfl
theorem zPC: HR tb n0 h i (.dead::l)=HR tb n0 h (i+1) l:=nr rfl
theorem zR3{c:Bf}:HR tb n0 h i (.box c::l)=((h[rn tb 0 i]?=some (DB.rn tb 0 (.box c))/\(Nat.ble n0 i || Nat.beq (rn tb 0 i) i)=true)/\HR tb n0 h (i+1) l):=nr rfl
theorem zR2{k:Nat}{es:Bc}{c:Bool}:HR tb n0 h i (.arr k es c::l)=((h[rn tb 0 i]?=some (DB.rn tb 0 (.arr k es c))/\(Nat.ble n0 i || Nat.beq (rn tb 0 i) i)=true)/\HR tb n0 h (i+1) l):=nr rfl
theorem zTD{es:List (Int × PV)}:HR tb n0 h i (.mp es::l)=((h[rn tb 0 i]?=some (DB.rn tb 0 (.mp es))/\(Nat.ble n0 i || Nat.beq (rn tb 0 i) i)=true)/\HR tb n0 h (i+1) l):=nr rfl
section
variable {P:Program}{T:Tab}{X0:Ctx}{s:DS}{Q:Be}
end
variable {P:Program}{T:Tab}{X0:Ctx}{s:DS}{Q:Be}
def zOn{α:Type}(n0:Nat)(I:α->DS)(J:α->Prop)(μ:α->Nat)(x:α)(Q:Be):Be:=λe c=>match e with
 | .normal=>∃y,J y/\μ y < μ x/\(BH n0 c (I y)∨zFb n0 c (I y))
 | e=>Q e c
section
variable {P:Program}{T:Tab}{X0:Ctx}{s:DS}{Q:Be}
end
theorem zTW{α:Type}{I:α->DS}{J:α->Prop}{μ:α->Nat}{x:α}{id:Nat}:zOn n0 I J μ x Q (.exit id) s=Q (.exit id) s:=nr rfl
theorem zTX{α:Type}{I:α->DS}{J:α->Prop}{μ:α->Nat}{x:α}:zOn n0 I J μ x Q .ret s=Q .ret s:=nr rfl
section
variable {P:Program}{T:Tab}{X0:Ctx}{s:DS}{Q:Be}
end
section
variable {P:Program}{T:Tab}{X0:Ctx}{s:DS}{Q:Be}
end
end perm
attribute [go_sem] zTW zTX
theorem aA.perm{P:Program}{f:FuncId}{args:Bi}{h h1 h2:aF}{d1 d2:DV}(tb:List Nat)(p:aA P f args h λd c=>d=d1/\c=h1)(q:d1=d2.rn tb 0)
  (g:(Nat.ble h.length h2.length && (Nat.beq h2.length tb.length && (uY tb && (h2.all (cG h2.length) && bD h2.length d2))))=true)(k:HR tb h.length h1 0 h2):aA P f args h λd c=>d=d2/\c=h2:=by
 simp only[bn] at g;intro X vals m r u w;have j:∀v w',Ret X (λd c=>d=d1/\c=h1) v w'->Ret X (λd c=>d=d2/\c=h2) v w':=by
  rintro v w' ⟨d,Z,x,y,z,o,A,B⟩;rw[<- B] at k;obtain⟨C,D,E⟩:=QN (h:=h2) (congrArg List.length m) y z (gk g.1) (pc g.2.1) g.2.2.1 k g.2.2.2.1;refine⟨d2,Dm.perm Z tb h2,x,C,D,?_,rfl,rfl⟩;rw[A,q] at o;exact bH.pull E g.2.2.2.2 o
 rcases p X vals m r u w with⟨h1,h2⟩|⟨v,w',h1,h2⟩
 .exact .inl ⟨h1,h2.mono λe w' ⟨v,F,G⟩=>⟨v,F,j v w' G⟩⟩
 .exact .inr ⟨v,w',h1,j v w' h2⟩
end
end Go.Dm
end
