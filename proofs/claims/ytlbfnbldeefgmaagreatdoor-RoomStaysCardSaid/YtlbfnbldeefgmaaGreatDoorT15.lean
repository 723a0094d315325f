/- Part 16 of the proof of roomStays_card, set without needless blanks. No condition. -/
import Derived.Test.YtlbfnbldeefgmaaGreatDoorT14
set_option linter.all false
set_option maxRecDepth 100000
set_option maxHeartbeats 16000000
section
namespace Go.Dm
open Go
section
variable {x:DV}{v:Value}{X Y:Ctx}{i n k:Nat}{es es0:List (List PV)}{P:Program}{f:FuncId}{h:aB}{R:DV->Prop}{K:DV->aB->Prop}
def uK: PV->Bool
 | .sl _ _=>false
 | _=>true
def zBR: CV->Bool
 | .p x=>uK x
 | _=>false
def zMm: EV->Bool
 | .c x=>zBR x
 | .agg xs=>xs.all zBR
def zF1: DV->Bool
 | .c x=>zBR x
 | .tup xs=>xs.all zMm
 | _=>false
theorem CB{w w':World}{S S':Nat->Prop}{x:PV}(hs:uK x=true)(h:dF w S x v):dF w' S' x v:=by
 cases x<;>simp only[uK,Bool.false_eq_true] at hs<;>exact h
theorem BZ{x:CV}(hs:zBR x=true)(h:bV X x v):bV Y x v:=by
 cases x<;>simp only[zBR,Bool.false_eq_true] at hs;exact CB hs h
theorem FY: ∀{xs:List CV} {vs:List Value},xs.all zBR=true->bC X xs vs->bC Y xs vs
 | [],[],_,_=>True.intro
 | x::xs,v::vs,hs,h=>by
  simp only[List.all_cons,Bool.and_eq_true] at hs;exact⟨BZ hs.1 h.1,FY hs.2 h.2⟩
 | [],_::_,_,h=>h.elim
 | _::_,[],_,h=>h.elim
theorem zF3{x:EV}(hs:zMm x=true)(h:eD X x v):eD Y x v:=by
 cases x with
 | c x=>exact BZ hs h
 | agg xs=>obtain⟨vs,h1,h2⟩:=h;exact⟨vs,h1,FY hs h2⟩
theorem FZ: ∀{xs:List EV} {vs:List Value},xs.all zMm=true->cP X xs vs->cP Y xs vs
 | [],[],_,_=>True.intro
 | x::xs,v::vs,hs,h=>by
  simp only[List.all_cons,Bool.and_eq_true] at hs;exact⟨zF3 hs.1 h.1,FZ hs.2 h.2⟩
 | [],_::_,_,h=>h.elim
 | _::_,[],_,h=>h.elim
theorem zF2(hs:zF1 x=true)(h:bA X x v):bA Y x v:=by
 cases x with
 | jk=>cases hs
 | c x=>exact BZ hs h
 | agg xs=>cases hs
 | tup xs=>obtain⟨vs,h1,h2⟩:=h;exact⟨vs,h1,FZ hs h2⟩
def zEJ: CV->Bool
 | .p _=>true
 | .clo _ []=>true
 | _=>false
def DJ: DV->Bool
 | .c x=>zEJ x
 | .agg xs=>xs.all zEJ
 | _=>false
theorem NR(hk:Kept X.w Y.w X.S Y.S){x:CV}(hs:zEJ x=true)(h:bV X x v):bV Y x v:=by
 cases x<;>simp only[zEJ,Bool.false_eq_true] at hs
 case p=>exact dF.kept hk h
 case clo f cap =>
  cases cap with
  | nil =>
   obtain⟨vs,h1,h2⟩:=h;cases vs with
   | nil=>exact⟨[],h1,True.intro⟩
   | cons _ _=>exact h2.elim
  | cons _ _=>cases hs
theorem EU(hk:Kept X.w Y.w X.S Y.S):∀{xs:List CV} {vs:List Value},xs.all zEJ=true->bC X xs vs->bC Y xs vs
 | [],[],_,_=>True.intro
 | x::xs,v::vs,hs,h=>by
  simp only[List.all_cons,Bool.and_eq_true] at hs;exact⟨NR hk hs.1 h.1,EU hk hs.2 h.2⟩
 | [],_::_,_,h=>h.elim
 | _::_,[],_,h=>h.elim
theorem zEK(hk:Kept X.w Y.w X.S Y.S)(hs:DJ x=true)(h:bA X x v):bA Y x v:=by
 cases x with
 | jk=>cases hs
 | c x=>exact NR hk hs h
 | agg xs=>obtain⟨vs,h1,h2⟩:=h;exact⟨vs,h1,EU hk hs h2⟩
 | tup xs=>cases hs
def zPC(i n:Nat):Option DV->DV
 | some d=>d
 | none=>.c (.own i 0 n)
def zOt(k:Nat)(es:List (List PV)):Option DV->DV
 | some d=>d
 | none=>.c (.p (.sl k es))
theorem yD(hk:Kept X.w Y.w X.S Y.S)(ho:∀v,bA X (.c (.own i 0 n)) v->bA Y (.c (.p (.sl k es))) v):
  ∀{L:List (Option DV)} {vs:List Value},(∀d,some d∈L->DJ d=true)->dL X (L.map (zPC i n)) vs->dL Y (L.map (zOt k es)) vs
 | [],[],_,_=>True.intro
 | none::_,_::_,hL,h=>⟨ho _ h.1,yD hk ho (λd hd=>hL d (List.mem_cons_of_mem _ hd)) h.2⟩
 | some _::_,_::_,hL,h=>⟨zEK hk (hL _ List.mem_cons_self) h.1,yD hk ho (λd hd=>hL d (List.mem_cons_of_mem _ hd)) h.2⟩
 | [],_::_,_,h=>h.elim
 | none::_,[],_,h=>h.elim
 | some _::_,[],_,h=>h.elim
theorem aA.lend(L:List (Option DV))(hL:∀d,some d∈L->DJ d=true)
 (hc:aA P f (L.map (zOt k (es.take n))) [] λd h'=>R d/\h'=[])(h0:h[i]?=some (.arr k es false))(hk:∀d,R d->zF1 d=true/\K d h):
  aA P f (L.map (zPC i n)) h K:=by
 intro X vals hh hi gd hr;subst hh;have hb0:=hi.blk i _ h0
 let Y:Ctx:=⟨X.w,λb=>X.S b∨∃g,X.G i=some g/\b=g.1,λ_=>none,[]⟩
 have hiY:HInv Y:=⟨λb hb=>by
  rcases hb with hb|⟨g,hg,rfl⟩
  .exact hi.slt b hb
  .exact hi.block_lt h0 rfl hg,λid db hdb=>by simp[Y] at hdb,λid db g hdb=>by simp[Y] at hdb,λid db id' db' g1 g2 hdb=>by simp[Y] at hdb⟩
 have hkp:Kept X.w Y.w X.S Y.S:=λb hb=>⟨.inl hb,rfl⟩;have gdY:Gnd P Y:=by
  obtain⟨W0,g1,g2⟩:=gd;exact⟨W0,g1,λb hb=>⟨.inl (g2 b hb).1,(g2 b hb).2⟩⟩
 have hrY:dL Y (L.map (zOt k (es.take n))) vals:=yD hkp (λv hv=>by
  obtain⟨_,_,hv⟩:=hv;obtain⟨hv1,hv2⟩:=hv _ _ _ h0;have hln:(es.take n).length=n:=by rw[List.length_take];omega
  simp only[bA,bV,dF];cases hg:X.G i with
  | none =>
   rw[hg] at hv2;rcases hb0 with⟨_,rfl⟩|⟨g',_,_,_,hq,_⟩
   .simp only[List.take_nil] at hln ⊢;exact⟨none,0,hv2,Nat.le_refl _,.inl trivial⟩
   .rw[hg] at hq;cases hq
  | some g =>
   rw[hg] at hv2;obtain⟨cap,o,arr,el,fz,q1,q2,q3,q4,q5,q6⟩:=hv2;refine⟨some ⟨g.1,o,none⟩,cap,by rw[hln];exact q2,by omega,?_⟩
   by_cases hn:n=0
   .subst hn;exact .inl List.take_zero
   .right;have ho:o=g.2:=by rcases q3 with q3|q3<;>omega
    subst ho;refine⟨g.1,g.2,rfl,.inr ⟨g,hg,rfl⟩,?_⟩;rcases hb0 with⟨hq,_⟩|⟨g',arr',el',fz',p1,p2,p3,p4,p5⟩
    .rw[hg] at hq;cases hq
    .rw[hg] at p1;cases p1;exact(p5.take n).move hkp rfl) hL hr
 have key:∀v w',Ret Y (λd h'=>R d/\h'=[]) v w'->Ret X K v w':=by
  rintro v w' ⟨d,Z,h1,h2,h3,h4,h5,h6⟩;obtain⟨hs,hK⟩:=hk d h5;have hfr:∀b,b<X.w.heap.size->Z.w.heap[b]?=X.w.heap[b]? := λb hb=>h3.frame b hb λid db g hdb=>by simp[Y] at hdb
  have hno:∀g,X.G i=some g->¬ X.S g.1:=λg hg=>(hi.own i _ g h0 rfl hg).1 rfl
  let Z':Ctx:=⟨Z.w,λb=>Z.S b/\∀g,X.G i=some g->b≠g.1,X.G,X.h⟩
  have hst:Step X Z':=by
   refine⟨h3.size,h3.os,h3.tape,h3.output,λb hb=>⟨⟨(h3.kept b (.inl hb)).1,λg hg e=>hno g hg (e▸hb)⟩,(h3.kept b (.inl hb)).2⟩,Nat.le_refl _,λid db' hl' hdb' hlv=>⟨db',hdb',cG.refl hlv,rfl,λg' hg'=>?_⟩,λb hb _=>hfr b hb,λid db g' hdb hl hf hg'=>.inr ⟨id,db,g',hdb,hl,hf,hg',rfl⟩,λb hb=>?_⟩
   .rw[show Z'.w.heap[g'.1]?=X.w.heap[g'.1]? from hfr _ (hi.block_lt hdb' hlv hg')]
    exact(hi.blk id db' hdb').same hlv g' hg'
   .obtain ⟨hb1,hb2⟩:=hb;rcases h3.upper b hb1 with h|h|⟨id,db,g',hdb,_⟩
    .rcases h with h|⟨g,hg,e⟩
     .exact .inl h
     .exact absurd e (hb2 g hg)
    .exact .inr (.inl h)
    .simp[Y] at hdb
  have hi':HInv Z':=by
   refine⟨λb hb=>h2.slt b hb.1,λid db hdb=>?_,λid db g' hdb hl hg'=>?_,λid db id' db' g1 g2 hdb hl hf hdb' hl' hg1 hg2 he=>hi.inj id db id' db' g1 g2 hdb hl hf hdb' hl' hg1 hg2 he⟩
   .by_cases hl:db.live=true
    .exact(hi.blk id db hdb).move hst rfl λg' hg'=>hfr _ (hi.block_lt hdb hl hg')
    .cases db with
     | dead=>simp only[eC]
     | box _=>exact absurd rfl hl
     | arr _ _ _=>exact absurd rfl hl
     | mp _=>exact absurd rfl hl
   .have ho:=hi.own id db g' hdb hl hg';refine⟨λhf hS=>?_,λhf=>⟨(h3.kept _ (.inl (ho.2 hf))).1,λg hg e=>hno g hg (e▸ho.2 hf)⟩⟩;rcases h3.upper _ hS.1 with h|h|⟨j,d',g2,hdb2,_⟩
    .rcases h with h|⟨g,hg,e⟩
     .exact ho.1 hf h
     .exact hS.2 g hg e
    .have:=hi.block_lt hdb hl hg';have hYw:Y.w.heap.size=X.w.heap.size:=rfl;omega
    .simp[Y] at hdb2
  exact⟨d,Z',h1,hi',hst,zF2 hs h4,hK⟩
 rcases hc Y _ rfl hiY gdY hrY with⟨h1,h2⟩|⟨v,w',h1,h2⟩
 .exact .inl ⟨h1,h2.mono λe w' ⟨v,he,hv⟩=>⟨v,he,key v w' hv⟩⟩
 .exact .inr ⟨v,w',h1,key v w' h2⟩
theorem zPV(hes:es.take n=es0)
 (hc:aA P f [.c (.p (.sl k es0))] [] λd h'=>R d/\h'=[])(h0:h[i]?=some (.arr k es false))(hk:∀d,R d->zF1 d=true/\K d h):aA P f [.c (.own i 0 n)] h K:=by
 subst hes;exact aA.lend [none] (by simp) hc h0 hk
theorem XF(hx:DJ x=true)(hes:es.take n=es0)
 (hc:aA P f [.c (.p (.sl k es0)),x] [] λd h'=>R d/\h'=[])(h0:h[i]?=some (.arr k es false))(hk:∀d,R d->zF1 d=true/\K d h):aA P f [.c (.own i 0 n),x] h K:=by
 subst hes;exact aA.lend [none,some x] (by simpa using hx) hc h0 hk
theorem zOG{y:DV}(hx:DJ x=true)(hy:DJ y=true)(hes:es.take n=es0)
 (hc:aA P f [.c (.p (.sl k es0)),x,y] [] λd h'=>R d/\h'=[])(h0:h[i]?=some (.arr k es false))(hk:∀d,R d->zF1 d=true/\K d h):aA P f [.c (.own i 0 n),x,y] h K:=by
 subst hes;exact aA.lend [none,some x,some y] (by
  intro d hd;simp only[List.mem_cons,Option.some.injEq,List.not_mem_nil,or_false,reduceCtorEq,false_or] at hd;rcases hd with rfl|rfl
  .exact hx
  .exact hy) hc h0 hk
end
section
variable {w w':World}{S S':Nat->Prop}{bl k n i:Nat}{X Y:Ctx}{x d:DV}{v:Value}{P:Program}{f:FuncId}{h h1:aB}{es es0:List (List PV)}{K:DV->aB->Prop}
def jT: DB->Bool
 | .dead=>true
 | .arr _ es ro=>!ro && es.all (λe=>e.all uK)
 | _=>false
def pM: CV->Bool
 | .p x=>uK x
 | .own _ _ _=>true
 | _=>false
def zFu: EV->Bool
 | .c x=>pM x
 | .agg xs=>xs.all pM
def tW: DV->Bool
 | .c x=>pM x
 | .agg xs=>xs.all pM
 | .tup xs=>xs.all zFu
 | _=>false
theorem CA(hw:w'.heap[bl]?=w.heap[bl]?):∀{cs:List PV} {off:Nat},cs.all uK=true->gW w S bl off cs->gW w' S' bl off cs
 | [],_,_,_=>by simp only[gW]
 | c::cs,off,hs,h=>by
  simp only[List.all_cons,Bool.and_eq_true] at hs;simp only[gW] at h ⊢;obtain⟨⟨v,h1,h2⟩,h3⟩:=h;exact⟨⟨v,by rw[World.cell?_of_block (a:=⟨bl,off,none⟩) hw];exact h1,CB hs.1 h2⟩,CA hw hs.2 h3⟩
theorem GA(hw:w'.heap[bl]?=w.heap[bl]?):∀{es:List (List PV)} {off:Nat},es.all (λe=>e.all uK)=true->fC w S k bl off es->fC w' S' k bl off es
 | [],_,_,_=>by simp only[fC]
 | e::es,off,hs,h=>by
  simp only[List.all_cons,Bool.and_eq_true] at hs;simp only[fC] at h ⊢;exact⟨⟨h.1.1,CA hw hs.1 h.1.2⟩,GA hw hs.2 h.2⟩
theorem vS(ho:∀id off len v,bV X (.own id off len) v->bV Y (.own (id+n) off len) v){x:CV}(hs:pM x=true)(h:bV X x v):bV Y (x.sh n) v:=by
 cases x<;>simp only[pM,Bool.false_eq_true] at hs
 case p=>exact CB hs h
 case own=>exact ho _ _ _ _ h
theorem sB(ho:∀id off len v,bV X (.own id off len) v->bV Y (.own (id+n) off len) v):∀{xs:List CV} {vs:List Value},xs.all pM=true->bC X xs vs->bC Y (xs.map (CV.sh n)) vs
 | [],[],_,_=>True.intro
 | x::xs,v::vs,hs,h=>by
  simp only[List.all_cons,Bool.and_eq_true] at hs;exact⟨vS ho hs.1 h.1,sB ho hs.2 h.2⟩
 | [],_::_,_,h=>h.elim
 | _::_,[],_,h=>h.elim
theorem BG(ho:∀id off len v,bV X (.own id off len) v->bV Y (.own (id+n) off len) v):∀{xs:List EV} {vs:List Value},xs.all zFu=true->cP X xs vs->cP Y (xs.map (EV.sh n)) vs
 | [],[],_,_=>True.intro
 | x::xs,v::vs,hs,h=>by
  simp only[List.all_cons,Bool.and_eq_true] at hs;refine⟨?_,BG ho hs.2 h.2⟩;have h1:=h.1;cases x with
  | c x=>exact vS ho hs.1 h1
  | agg ys=>obtain⟨us,k1,k2⟩:=h1;exact⟨us,k1,sB ho hs.1 k2⟩
 | [],_::_,_,h=>h.elim
 | _::_,[],_,h=>h.elim
theorem zBk(ho:∀id off len v,bV X (.own id off len) v->bV Y (.own (id+n) off len) v)(hs:tW x=true)(h:bA X x v):bA Y (x.sh n) v:=by
 cases x with
 | jk=>cases hs
 | c x=>exact vS ho hs h
 | agg xs=>obtain⟨vs,h1,h2⟩:=h;exact⟨vs,h1,sB ho hs h2⟩
 | tup xs=>obtain⟨vs,h1,h2⟩:=h;exact⟨vs,h1,BG ho hs h2⟩
theorem aA.lendH(L:List (Option DV)){R:DV->aB->Prop}(hL:∀d,some d∈L->DJ d=true)
 (hc:aA P f (L.map (zOt k (es.take n))) [] R)(h0:h[i]?=some (.arr k es false))(hk:∀d h',R d h'->(tW d && h'.all jT)=true/\K (d.sh h.length) (h++h'.map (DB.sh h.length))):
  aA P f (L.map (zPC i n)) h K:=by
 intro X vals hh hi gd hr;subst hh;have hb0:=hi.blk i _ h0
 let Y:Ctx:=⟨X.w,λb=>X.S b∨∃g,X.G i=some g/\b=g.1,λ_=>none,[]⟩
 have hiY:HInv Y:=⟨λb hb=>by
  rcases hb with hb|⟨g,hg,rfl⟩
  .exact hi.slt b hb
  .exact hi.block_lt h0 rfl hg,λid db hdb=>by simp[Y] at hdb,λid db g hdb=>by simp[Y] at hdb,λid db id' db' g1 g2 hdb=>by simp[Y] at hdb⟩
 have hkp:Kept X.w Y.w X.S Y.S:=λb hb=>⟨.inl hb,rfl⟩;have gdY:Gnd P Y:=by
  obtain⟨W0,g1,g2⟩:=gd;exact⟨W0,g1,λb hb=>⟨.inl (g2 b hb).1,(g2 b hb).2⟩⟩
 have hrY:dL Y (L.map (zOt k (es.take n))) vals:=yD hkp (λv hv=>by
  obtain⟨_,_,hv⟩:=hv;obtain⟨hv1,hv2⟩:=hv _ _ _ h0;have hln:(es.take n).length=n:=by rw[List.length_take];omega
  simp only[bA,bV,dF];cases hg:X.G i with
  | none =>
   rw[hg] at hv2;rcases hb0 with⟨_,rfl⟩|⟨g',_,_,_,hq,_⟩
   .simp only[List.take_nil] at hln ⊢;exact⟨none,0,hv2,Nat.le_refl _,.inl trivial⟩
   .rw[hg] at hq;cases hq
  | some g =>
   rw[hg] at hv2;obtain⟨cap,o,arr,el,fz,q1,q2,q3,q4,q5,q6⟩:=hv2;refine⟨some ⟨g.1,o,none⟩,cap,by rw[hln];exact q2,by omega,?_⟩
   by_cases hn:n=0
   .subst hn;exact .inl List.take_zero
   .right;have ho:o=g.2:=by rcases q3 with q3|q3<;>omega
    subst ho;refine⟨g.1,g.2,rfl,.inr ⟨g,hg,rfl⟩,?_⟩;rcases hb0 with⟨hq,_⟩|⟨g',arr',el',fz',p1,p2,p3,p4,p5⟩
    .rw[hg] at hq;cases hq
    .rw[hg] at p1;cases p1;exact(p5.take n).move hkp rfl) hL hr
 have key:∀v w',Ret Y R v w'->Ret X K v w':=by
  rintro v w' ⟨d,Z,h1,h2,h3,h4,h5⟩;obtain⟨hs,hK⟩:=hk d Z.h h5;rw[Bool.and_eq_true] at hs;obtain⟨hs1,hs2⟩:=hs;have hfr:∀b,b<X.w.heap.size->Z.w.heap[b]?=X.w.heap[b]? := λb hb=>h3.frame b hb λid db g hdb=>by simp[Y] at hdb
  have hno:∀g,X.G i=some g->¬ X.S g.1:=λg hg=>(hi.own i _ g h0 rfl hg).1 rfl;have hmine:∀j db g,Z.h[j]?=some db->db.live=true->Z.G j=some g->X.w.heap.size<=g.1:=λj db g q1 q2 q4=>by
   have hf:db.fix=false:=by
    have:=List.all_eq_true.1 hs2 db (List.mem_of_getElem? q1);cases db with
    | arr _ _ ro=>simp only[jT,Bool.and_eq_true,Bool.not_eq_true'] at this;exact this.1
    | _=>rfl
   rcases h3.mine j db g q1 q2 hf q4 with h|⟨_,_,_,h,_⟩
   .exact h
   .simp[Y] at h
  let Z':Ctx:=⟨Z.w,λb=>Z.S b/\∀g,X.G i=some g->b≠g.1,λj=>if j<X.h.length then X.G j else Z.G (j-X.h.length),X.h++Z.h.map (DB.sh X.h.length)⟩
  have zlt:∀{j:Nat},j<X.h.length->Z'.h[j]?=X.h[j]?/\Z'.G j=X.G j:=λ{j} hj=>⟨by show (X.h++_)[j]? = _;rw[List.getElem?_append_left hj],by show (if j<X.h.length then X.G j else _)=_;rw[if_pos hj]⟩
  have zge:∀(j:Nat),Z'.h[j+X.h.length]?=(Z.h[j]?).map (DB.sh X.h.length)/\Z'.G (j+X.h.length)=Z.G j:=λj=>⟨by show (X.h++_)[_]? = _;rw[List.getElem?_append_right (by omega),List.getElem?_map];congr 2;omega,by show (if _ then _ else Z.G _)=_;rw[if_neg (by omega)];congr 1;omega⟩
  have zin:∀{j:Nat} {db:DB},Z'.h[j]?=some db->(j<X.h.length/\X.h[j]?=some db)∨∃q db0,j=q+X.h.length/\Z.h[q]?=some db0/\db=db0.sh X.h.length:=λ{j db} hd=>by
   rcases Nat.lt_or_ge j X.h.length with hlt|hge
   .exact .inl ⟨hlt,by rw[<- (zlt hlt).1];exact hd⟩
   .obtain⟨q,rfl⟩:∃q,j=q+X.h.length:=⟨j-X.h.length,by omega⟩
    rw[(zge q).1] at hd;obtain⟨db0,e1,e2⟩:=Option.map_eq_some_iff.1 hd;exact .inr ⟨q,db0,rfl,e1,e2.symm⟩
  have hst:Step X Z':=by
   refine⟨h3.size,h3.os,h3.tape,h3.output,λb hb=>⟨⟨(h3.kept b (.inl hb)).1,λg hg e=>hno g hg (e▸hb)⟩,(h3.kept b (.inl hb)).2⟩,by show _<=(X.h++_).length;rw[List.length_append];omega,λid db' hl' hdb' hlv=>?_,λb hb _=>hfr b hb,λid db g' hdb hl hf hg'=>?_,λb hb=>?_⟩
   .rw[(zlt hl').1] at hdb';refine⟨db',hdb',cG.refl hlv,(zlt hl').2,λg' hg'=>?_⟩;rw[show Z'.w.heap[g'.1]?=X.w.heap[g'.1]? from hfr _ (hi.block_lt hdb' hlv hg')]
    exact(hi.blk id db' hdb').same hlv g' hg'
   .rcases zin hdb with⟨q1,q2⟩|⟨q,db0,rfl,q2,rfl⟩
    .rw[(zlt q1).2] at hg';exact .inr ⟨id,db,g',q2,hl,hf,hg',rfl⟩
    .rw[(zge q).2] at hg';rw[DB.sh_live] at hl;exact .inl (hmine q db0 g' q2 hl hg')
   .obtain ⟨hb1,hb2⟩:=hb;rcases h3.upper b hb1 with h|h|⟨id,db,g',hdb,_⟩
    .rcases h with h|⟨g,hg,e⟩
     .exact .inl h
     .exact absurd e (hb2 g hg)
    .exact .inr (.inl h)
    .simp[Y] at hdb
  have hi':HInv Z':=by
   refine⟨λb hb=>h2.slt b hb.1,λid db hdb=>?_,λid db g' hdb hl hg'=>?_,λid db id' db' g1 g2 hdb hl hf hdb' hl' hg1 hg2 he=>?_⟩
   .rcases zin hdb with⟨q1,q2⟩|⟨q,db0,rfl,q2,rfl⟩
    .by_cases hl:db.live=true
     .exact(hi.blk id db q2).move hst (zlt q1).2 λg' hg'=>hfr _ (hi.block_lt q2 hl hg')
     .cases db<;>simp_all[DB.live,eC]
    .have hp:=List.all_eq_true.1 hs2 db0 (List.mem_of_getElem? q2);have hb:=h2.blk q db0 q2;cases db0 with
     | dead=>simp only[DB.sh,eC]
     | box _=>cases hp
     | mp _=>cases hp
     | arr k' es' ro =>
      simp only[jT,Bool.and_eq_true] at hp;simp only[eC,DB.sh,(zge q).2] at hb ⊢;rcases hb with hb|⟨g,arr,el,fz,b1,b2,b3,b4,b5⟩
      .exact .inl hb
      .exact .inr ⟨g,arr,el,fz,b1,b2,b3,b4,GA rfl hp.2 b5⟩
   .rcases zin hdb with⟨q1,q2⟩|⟨q,db0,rfl,q2,rfl⟩
    .rw [(zlt q1).2] at hg';have ho:=hi.own id db g' q2 hl hg';refine⟨λhf hS=>?_,λhf=>⟨(h3.kept _ (.inl (ho.2 hf))).1,λg hg e=>hno g hg (e▸ho.2 hf)⟩⟩;rcases h3.upper _ hS.1 with h|h|⟨j,d',g2,hdb2,_⟩
     .rcases h with h|⟨g,hg,e⟩
      .exact ho.1 hf h
      .exact hS.2 g hg e
     .have:=hi.block_lt q2 hl hg';have hYw:Y.w.heap.size=X.w.heap.size:=rfl;omega
     .simp[Y] at hdb2
    .rw[(zge q).2] at hg';rw[DB.sh_live] at hl;rw[DB.sh_fix];have ho:=h2.own q db0 g' q2 hl hg';refine⟨λhf hS=>ho.1 hf hS.1,λhf=>⟨ho.2 hf,λg hg e=>?_⟩⟩;have e1:=hmine q db0 g' q2 hl hg';have e2:=hi.block_lt h0 rfl hg;omega
   .rcases zin hdb with⟨q1,q2⟩|⟨q,db0,rfl,q2,rfl⟩<;>rcases zin hdb' with⟨q1',q2'⟩|⟨q',db0',rfl,q2',rfl⟩
    .rw[(zlt q1).2] at hg1;rw[(zlt q1').2] at hg2;exact hi.inj id db id' db' g1 g2 q2 hl hf q2' hl' hg1 hg2 he
    .rw[(zlt q1).2] at hg1;rw[(zge q').2] at hg2;rw[DB.sh_live] at hl';have e1:=hmine q' db0' g2 q2' hl' hg2;have e2:=hi.block_lt q2 hl hg1;omega
    .rw[(zge q).2] at hg1;rw[(zlt q1').2] at hg2;rw[DB.sh_live] at hl;have e1:=hmine q db0 g1 q2 hl hg1;have e2:=hi.block_lt q2' hl' hg2;omega
    .rw[(zge q).2] at hg1;rw[(zge q').2] at hg2;rw[DB.sh_live] at hl hl';rw[DB.sh_fix] at hf;rw[h2.inj q db0 q' db0' g1 g2 q2 hl hf q2' hl' hg1 hg2 he]
  refine⟨d.sh X.h.length,Z',h1,hi',hst,zBk (λid off len v hv=>?_) hs1 h4,hK⟩;simp only[bV] at hv ⊢;obtain⟨r1,r2,r3⟩:=hv;refine⟨by show _<(X.h++_).length;rw[List.length_append,List.length_map];omega,r2,λk' es' ro hd=>?_⟩
  rw[(zge id).1] at hd;obtain⟨db0,e1,e2⟩:=Option.map_eq_some_iff.1 hd;cases db0<;>simp only[DB.sh,reduceCtorEq] at e2;cases e2;rw[(zge id).2];exact r3 _ _ _ e1
 rcases hc Y _ rfl hiY gdY hrY with⟨h1,h2⟩|⟨v,w',h1,h2⟩
 .exact .inl ⟨h1,h2.mono λe w' ⟨v,he,hv⟩=>⟨v,he,key v w' hv⟩⟩
 .exact .inr ⟨v,w',h1,key v w' h2⟩
theorem zKI(hes:es.take n=es0)
 (hc:aA P f [.c (.p (.sl k es0))] [] λr h'=>r=d/\h'=h1)(h0:h[i]?=some (.arr k es false))(hp:(tW d && h1.all jT)=true)(hk:K (d.sh h.length) (h++h1.map (DB.sh h.length))):aA P f [.c (.own i 0 n)] h K:=by
 subst hes;exact aA.lendH [none] (by simp) hc h0 λr h' ⟨e1,e2⟩=>by subst e1;subst e2;exact⟨hp,hk⟩
theorem zKJ(hx:DJ x=true)(hes:es.take n=es0)
 (hc:aA P f [.c (.p (.sl k es0)),x] [] λr h'=>r=d/\h'=h1)(h0:h[i]?=some (.arr k es false))(hp:(tW d && h1.all jT)=true)(hk:K (d.sh h.length) (h++h1.map (DB.sh h.length))):aA P f [.c (.own i 0 n),x] h K:=by
 subst hes;exact aA.lendH [none,some x] (by simpa using hx) hc h0 λr h' ⟨e1,e2⟩=>by subst e1;subst e2;exact⟨hp,hk⟩
theorem zOF{y:DV}(hx:DJ x=true)(hy:DJ y=true)(hes:es.take n=es0)
 (hc:aA P f [.c (.p (.sl k es0)),x,y] [] λr h'=>r=d/\h'=h1)(h0:h[i]?=some (.arr k es false))(hp:(tW d && h1.all jT)=true)(hk:K (d.sh h.length) (h++h1.map (DB.sh h.length))):aA P f [.c (.own i 0 n),x,y] h K:=by
 subst hes;exact aA.lendH [none,some x,some y] (by
  intro d hd;simp only[List.mem_cons,Option.some.injEq,List.not_mem_nil,or_false,reduceCtorEq,false_or] at hd;rcases hd with rfl|rfl
  .exact hx
  .exact hy) hc h0 λr h' ⟨e1,e2⟩=>by subst e1;subst e2;exact⟨hp,hk⟩
end
end Go.Dm
end
