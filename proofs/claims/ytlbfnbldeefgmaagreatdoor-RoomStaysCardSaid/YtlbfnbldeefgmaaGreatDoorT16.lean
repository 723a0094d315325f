/- Part 17 of the proof of roomStays_card, set without needless blanks. No condition. -/
import Derived.Test.YtlbfnbldeefgmaaGreatDoorT15
set_option linter.all false
set_option maxRecDepth 100000
set_option maxHeartbeats 16000000
section
namespace Go.Dm
open Go
section
variable {tb:List Nat}{N:Nat}{db a b:DB}
def rn(tb:List Nat)(N i:Nat):Nat:=match tb[i]? with
 | some j=>j
 | none=>N+(i-tb.length)
def KV.rn(tb:List Nat)(N:Nat):KV->KV
 | .p x=>.p x
 | .ptr id off=>.ptr (Dm.rn tb N id) off
def CV.rn(tb:List Nat)(N:Nat):CV->CV
 | .p x=>.p x
 | .own id off len=>.own (Dm.rn tb N id) off len
 | .ptr id off=>.ptr (Dm.rn tb N id) off
 | .aptr id i j=>.aptr (Dm.rn tb N id) i j
 | .mp id=>.mp (Dm.rn tb N id)
 | .bs id n=>.bs (Dm.rn tb N id) n
 | .eptr cs=>.eptr cs
 | .full k es=>.full k es
 | .clo f cap=>.clo f (cap.map (KV.rn tb N))
def EV.rn(tb:List Nat)(N:Nat):EV->EV
 | .c x=>.c (x.rn tb N)
 | .agg xs=>.agg (xs.map (CV.rn tb N))
def DV.rn(tb:List Nat)(N:Nat):DV->DV
 | .jk=>.jk
 | .c x=>.c (x.rn tb N)
 | .agg xs=>.agg (xs.map (CV.rn tb N))
 | .tup xs=>.tup (xs.map (EV.rn tb N))
def DB.rn(tb:List Nat)(N:Nat):DB->DB
 | .dead=>.dead
 | .box cells=>.box (cells.map (CV.rn tb N))
 | .arr k es ro=>.arr k es ro
 | .mp es=>.mp es
theorem DB.rn_live: (db.rn tb N).live=db.live:=by cases db<;>rfl
theorem DB.rn_fix: (db.rn tb N).fix=db.fix:=by cases db<;>rfl
theorem cG.rn_r(h:cG a (b.rn tb N)):cG a b:=by cases a<;>cases b<;>simp_all[cG,DB.rn]
theorem cG.rn_lr{M:Nat}(h:cG a b):cG (a.rn tb N) (b.rn tb M):=by
 cases a<;>cases b<;>first|exact h|exact h.elim
section pull
variable {X Y:Ctx}{tb:List Nat}{N:Nat}
variable {v:Value}
structure Pull (X Y:Ctx) (tb:List Nat) (N:Nat):Prop where
 w:Y.w=X.w
 S:Y.S=X.S
 h:∀i db,Y.h[i]?=some db->db.live=true->X.h[rn tb N i]?=some (db.rn tb N)
 G:∀i,i<Y.h.length->Y.G i=X.G (rn tb N i)
theorem rB.pull(p:Pull X Y tb N){c:KV}(hc:iJ Y.h.length c=true)(h:rB X (c.rn tb N) v):rB Y c v:=by
 cases c<;>simp only[rB,KV.rn] at h ⊢
 case p=>rw[p.w,p.S];exact h
 case ptr id off =>
  simp only[iJ,decide_eq_true_eq] at hc;exact⟨hc,h.2.1,λcells hd=>by rw[p.G _ hc];exact h.2.2 _ (p.h _ _ hd rfl)⟩
theorem fL.pull(p:Pull X Y tb N):∀{cs:List KV} {vs:List Value},cs.all (iJ Y.h.length)=true->fL X (cs.map (KV.rn tb N)) vs->fL Y cs vs
 | [],[],_,_=>True.intro
 | _::_,_::_,hc,h=>by
  simp only[List.all_cons,Bool.and_eq_true] at hc;exact⟨rB.pull p hc.1 h.1,fL.pull p hc.2 h.2⟩
 | [],_::_,_,h=>h.elim
 | _::_,[],_,h=>h.elim
theorem bV.pull(p:Pull X Y tb N){c:CV}(hc:aT Y.h.length c=true)(h:bV X (c.rn tb N) v):bV Y c v:=by
 cases c<;>simp only[bV,CV.rn] at h ⊢<;>simp only[aT,decide_eq_true_eq] at hc
 case p=>rw[p.w,p.S];exact h
 case own id off len =>
  refine⟨hc,h.2.1,λk es ro hd=>?_⟩;rw[p.G _ hc,p.w];exact h.2.2 _ _ _ (p.h _ _ hd rfl)
 case ptr id off=>exact⟨hc,h.2.1,λcells hd=>by rw[p.G _ hc];exact h.2.2 _ (p.h _ _ hd rfl)⟩
 case aptr id i j=>exact⟨hc,h.2.1,λk es ro hd=>by rw[p.G _ hc];exact h.2.2 _ _ _ (p.h _ _ hd rfl)⟩
 case mp id=>exact⟨hc,h.2.1,λes hd=>by rw[p.G _ hc];exact h.2.2 _ (p.h _ _ hd rfl)⟩
 case bs id n=>exact⟨hc,h.2.1,λcells hd=>by rw[p.G _ hc];exact h.2.2 _ (p.h _ _ hd rfl)⟩
 case eptr=>rw[p.w,p.S];exact h
 case full=>rw[p.w,p.S];exact h
 case clo =>
  obtain⟨vs,h1,h2⟩:=h;exact⟨vs,h1,fL.pull p hc h2⟩
theorem bC.pull(p:Pull X Y tb N):∀{cs:List CV} {vs:List Value},cs.all (aT Y.h.length)=true->bC X (cs.map (CV.rn tb N)) vs->bC Y cs vs
 | [],[],_,_=>True.intro
 | _::_,_::_,hc,h=>by
  simp only[List.all_cons,Bool.and_eq_true] at hc;exact⟨bV.pull p hc.1 h.1,bC.pull p hc.2 h.2⟩
 | [],_::_,_,h=>h.elim
 | _::_,[],_,h=>h.elim
theorem eD.pull(p:Pull X Y tb N){c:EV}(hc:oL Y.h.length c=true)(h:eD X (c.rn tb N) v):eD Y c v:=by
 cases c<;>simp only[eD,EV.rn] at h ⊢<;>simp only[oL] at hc
 .exact bV.pull p hc h
 .obtain⟨vs,h1,h2⟩:=h;exact⟨vs,h1,bC.pull p hc h2⟩
theorem cP.pull(p:Pull X Y tb N):∀{cs:List EV} {vs:List Value},cs.all (oL Y.h.length)=true->cP X (cs.map (EV.rn tb N)) vs->cP Y cs vs
 | [],[],_,_=>True.intro
 | _::_,_::_,hc,h=>by
  simp only[List.all_cons,Bool.and_eq_true] at hc;exact⟨eD.pull p hc.1 h.1,cP.pull p hc.2 h.2⟩
 | [],_::_,_,h=>h.elim
 | _::_,[],_,h=>h.elim
theorem bA.pull(p:Pull X Y tb N){c:DV}(hc:bW Y.h.length c=true)(h:bA X (c.rn tb N) v):bA Y c v:=by
 cases c<;>simp only[bA,DV.rn] at h ⊢<;>simp only[bW] at hc
 .exact bV.pull p hc h
 .obtain⟨vs,h1,h2⟩:=h;exact⟨vs,h1,bC.pull p hc h2⟩
 .obtain⟨vs,h1,h2⟩:=h;exact⟨vs,h1,cP.pull p hc h2⟩
theorem dL.pull(p:Pull X Y tb N):∀{cs:List DV} {vs:List Value},cs.all (bW Y.h.length)=true->dL X (cs.map (DV.rn tb N)) vs->dL Y cs vs
 | [],[],_,_=>True.intro
 | _::_,_::_,hc,h=>by
  simp only[List.all_cons,Bool.and_eq_true] at hc;exact⟨bA.pull p hc.1 h.1,dL.pull p hc.2 h.2⟩
 | [],_::_,_,h=>h.elim
 | _::_,[],_,h=>h.elim
theorem eC.pull(p:Pull X Y tb N){id:Nat}{db:DB}(hid:id<Y.h.length)(hc:bH Y.h.length db=true)(h:eC X (rn tb N id) (db.rn tb N)):eC Y id db:=by
 cases db<;>simp only[eC,DB.rn] at h ⊢
 case box cells =>
  obtain⟨g,arr,el,fz,h1,h2,h3,h4,h5⟩:=h;refine⟨g,arr,el,fz,by rw[p.G _ hid];exact h1,by rw[p.w];exact h2,by simpa using h3,h4,cY.mk λj c hj=>?_⟩
  obtain⟨v,h6,h7⟩:=h5.at_ (j:=j) (c:=c.rn tb N) (by rw[List.getElem?_map,hj];rfl);exact⟨v,by rw[p.w];exact h6,bV.pull p (DT (show cells.all (aT Y.h.length)=true from hc) hj) h7⟩
 case arr=>rw[p.G _ hid,p.w,p.S];exact h
 case mp=>rw[p.G _ hid,p.w,p.S];exact h
def zPP(tb:List Nat)(N:Nat)(h:aB):Prop:=∀i j db db',h[i]?=some db->db.live=true->h[j]?=some db'->db'.live=true->rn tb N i=rn tb N j->i=j
theorem HInv.pull(hi:HInv X)(p:Pull X Y tb N)(hc:Y.h.all (bH Y.h.length)=true)(hj:zPP tb N Y.h):HInv Y where
 slt:=λb hb=>by rw[p.S] at hb;rw[p.w];exact hi.slt b hb
 blk:=λid db h=>by
  by_cases hl:db.live=true
  .exact eC.pull p (aH h) (DT hc h) (hi.blk _ _ (p.h _ _ h hl))
  .cases db<;>simp_all[DB.live,eC]
 own:=λid db g h hl hg=>by
  rw[p.G _ (aH h)] at hg;have:=hi.own _ _ g (p.h _ _ h hl) (by rw[DB.rn_live];exact hl) hg;rw[DB.rn_fix] at this;rw[p.S];exact this
 inj:=λid db id' db' g g' h hl hf h' hl' hg hg' he=>by
  rw[p.G _ (aH h)] at hg;rw[p.G _ (aH h')] at hg';exact hj _ _ _ _ h hl h' hl' (hi.inj _ _ _ _ g g' (p.h _ _ h hl) (by rw[DB.rn_live];exact hl) (by rw[DB.rn_fix];exact hf) (p.h _ _ h' hl') (by rw[DB.rn_live];exact hl') hg hg' he)
end pull
section perm
variable {tb:List Nat}{n n0 N i:Nat}{t t':Fr}{h l:aB}{X0 X:Ctx}{s:DS}
def perm(X:Ctx)(tb:List Nat)(h:aB):Ctx:=⟨X.w,X.S,λi=>X.G (rn tb 0 i),h⟩
def WkP(tb:List Nat)(n:Nat)(t:Fr):Fr->Prop
 | []=>True
 | p::t'=>(look t p.1=p.2.rn tb 0/\bW n p.2=true)/\WkP tb n t t'
theorem WkP.look: ∀{t':Fr},WkP tb n t t'->∀i,look t' i=.jk∨(Dm.look t i=(Dm.look t' i).rn tb 0/\bW n (Dm.look t' i)=true)
 | [],_,_=>.inl rfl
 | p::t',h,i=>by
  simp only[Dm.look];split
  .rename_i hi;subst hi;exact .inr ⟨h.1.1,h.1.2⟩
  .exact WkP.look h.2 i
def CU(tb:List Nat)(n0:Nat)(h:aB):Nat->aB->Prop
 | _,[]=>True
 | i,.dead::l=>CU tb n0 h (i+1) l
 | i,db::l=>(h[rn tb 0 i]?=some (db.rn tb 0)/\(Nat.ble n0 i || Nat.beq (rn tb 0 i) i)=true)/\CU tb n0 h (i+1) l
theorem CU.at_: ∀{l:aB} {i j:Nat} {db:DB},CU tb n0 h i l->l[j]?=some db->db.live=true->h[rn tb 0 (i+j)]?=some (db.rn tb 0)/\(i+j<n0->rn tb 0 (i+j)=i+j)
 | [],_,_,_,_,hj,_=>by simp at hj
 | x::l,i,0,db,hh,hj,hl=>by
  simp only[List.getElem?_cons_zero,Option.some.injEq] at hj;subst hj;cases x with
  | dead=>simp[DB.live] at hl
  | box _ =>
   refine⟨hh.1.1,λhlt=>?_⟩;have:=hh.1.2;rw[Bool.or_eq_true] at this;rcases this with h1|h1
   .have:=Nat.le_of_ble_eq_true h1;omega
   .exact Nat.eq_of_beq_eq_true h1
  | arr _ _ _ =>
   refine⟨hh.1.1,λhlt=>?_⟩;have:=hh.1.2;rw[Bool.or_eq_true] at this;rcases this with h1|h1
   .have:=Nat.le_of_ble_eq_true h1;omega
   .exact Nat.eq_of_beq_eq_true h1
  | mp _ =>
   refine⟨hh.1.1,λhlt=>?_⟩;have:=hh.1.2;rw[Bool.or_eq_true] at this;rcases this with h1|h1
   .have:=Nat.le_of_ble_eq_true h1;omega
   .exact Nat.eq_of_beq_eq_true h1
 | x::l,i,j+1,db,hh,hj,hl=>by
  simp only[List.getElem?_cons_succ] at hj;have hh':CU tb n0 h (i+1) l:=by
   cases x with
   | dead=>exact hh
   | box _=>exact hh.2
   | arr _ _ _=>exact hh.2
   | mp _=>exact hh.2
  have:=CU.at_ hh' hj hl
  rwa[show i+1+j=i+(j+1) by omega] at this
def pG: List Nat->Bool
 | []=>true
 | x::l=>!(l.any (Nat.beq x)) && pG l
theorem pH: ∀{l:List Nat},pG l=true->l.Nodup
 | [],_=>List.nodup_nil
 | x::l,h=>by
  simp only[pG,Bool.and_eq_true,Bool.not_eq_true',List.any_eq_false] at h;refine List.nodup_cons.2 ⟨λhx=>h.1 x hx (Nat.beq_refl x),pH h.2⟩
theorem vW(h:i<tb.length):rn tb N i=tb[i]:=by
 unfold rn;rw[List.getElem?_eq_getElem h]
theorem QE(h:tb.length<=i):rn tb N i=N+(i-tb.length):=by
 unfold rn;rw[List.getElem?_eq_none h]
theorem YV{x:Nat}:∀{l:List Nat} {i j:Nat},l.Nodup->l[i]?=some x->l[j]?=some x->i=j
 | [],_,_,_,h,_=>by simp at h
 | y::l,0,0,_,_,_=>rfl
 | y::l,0,j+1,hn,h1,h2=>by
  simp only[List.getElem?_cons_zero,Option.some.injEq,List.getElem?_cons_succ] at h1 h2;subst h1;exact absurd (List.mem_of_getElem? h2) (List.nodup_cons.1 hn).1
 | y::l,i+1,0,hn,h1,h2=>by
  simp only[List.getElem?_cons_zero,Option.some.injEq,List.getElem?_cons_succ] at h1 h2;subst h2;exact absurd (List.mem_of_getElem? h1) (List.nodup_cons.1 hn).1
 | y::l,i+1,j+1,hn,h1,h2=>by
  simp only[List.getElem?_cons_succ] at h1 h2;rw[YV (List.nodup_cons.1 hn).2 h1 h2]
theorem zFV{j:Nat}(hd:tb.Nodup)(hi:i<tb.length)(hj:j<tb.length)(h:rn tb N i=rn tb N j):i=j:=by
 rw[vW hi,vW hj] at h;exact YV hd (List.getElem?_eq_getElem hi) (by rw[List.getElem?_eq_getElem hj,h])
def zCh(n0:Nat)(s s':DS):Prop:=∃tb:List Nat,s'.n=s.n/\n0<=s'.h.length/\s'.h.length=tb.length/\pG tb=true/\CU tb n0 s.h 0 s'.h/\s'.h.all (bH s'.h.length)=true/\WkP tb s'.h.length s.t s'.t
theorem JU(hn:X0.h.length=n0)(hi:HInv X)(hs:Step X0 X)(h1:n0<=h.length)(h2:h.length=tb.length)(h3:pG tb=true)(h4:CU tb n0 X.h 0 h)(h5:h.all (bH h.length)=true):
  HInv (perm X tb h)/\Step X0 (perm X tb h)/\Pull X (perm X tb h) tb 0:=by
 have hat:∀i db,h[i]?=some db->db.live=true->X.h[rn tb 0 i]?=some (db.rn tb 0)/\(i<n0->rn tb 0 i=i):=λi db hd hl=>by
  have:=h4.at_ hd hl
  rwa[Nat.zero_add] at this
 have hp:Pull X (perm X tb h) tb 0:=⟨rfl,rfl,λi db hd hl=>(hat i db hd hl).1,λi _=>rfl⟩;refine⟨hi.pull hp h5 λi j db db' hd _ hd' _ he=>zFV (pH h3) (h2▸aH hd) (h2▸aH hd') he,?_,hp⟩;refine⟨hs.size,hs.os,hs.tape,hs.output,hs.kept,by rw[hn];exact h1,λid db' hlt hd hl=>?_,hs.frame,λid db g hd hl hf hg=>?_,hs.upper⟩
 .obtain⟨k1,k2⟩:=hat id db' hd hl;have k2:=k2 (hn▸hlt);rw[k2] at k1;obtain⟨db,q1,q2,q3,q4⟩:=hs.ids id _ hlt k1 (by rw[DB.rn_live];exact hl);refine⟨db,q1,q2.rn_r,?_,q4⟩;show X.G (rn tb 0 id)=_;rw[k2];exact q3
 .obtain⟨k1,_⟩:=hat id db hd hl;exact hs.mine _ _ g k1 (by rw[DB.rn_live];exact hl) (by rw[DB.rn_fix];exact hf) hg
theorem zCh.use{s':DS}(h:zCh n0 s s'){a:Act}(hn:X0.h.length=n0)(hh:X.h=s.h)(hi:HInv X)(hs:Step X0 X)(ht:TInv X s a):∃X',X'.w=X.w/\X'.h=s'.h/\HInv X'/\Step X0 X'/\TInv X' s' a:=by
 obtain⟨tb,h0,h1,h2,h3,h4,h5,h6⟩:=h;rw[<- hh] at h4;obtain⟨g1,g2,g3⟩:=JU hn hi hs h1 h2 h3 h4 h5;refine⟨perm X tb s'.h,rfl,rfl,g1,g2,ht.size.trans h0.symm,λi=>?_,ht.defs⟩;rcases h6.look i with h7|⟨h7,h8⟩
 .rw[h7];exact True.intro
 .have:=ht.rel i;rw[h7] at this;exact bA.pull g3 h8 this
theorem dQ(tb:List Nat){h':aB}(h0:(Nat.ble n0 h'.length && (Nat.beq h'.length tb.length && pG tb))=true)(h4:CU tb n0 h 0 h')(h5:h'.all (bH h'.length)=true)(h6:WkP tb h'.length t t'):zCh n0 ⟨n,t,h⟩ ⟨n,t',h'⟩:=by
 simp only[Bool.and_eq_true] at h0;exact⟨tb,rfl,Nat.le_of_ble_eq_true h0.1,Nat.eq_of_beq_eq_true h0.2.1,h0.2.2,h4,h5,h6⟩
theorem zOX: WkP tb n t []=True:=nr rfl
theorem zM2{d:DV}:WkP tb n t ((i,d)::t')=((look t i=d.rn tb 0/\bW n d=true)/\WkP tb n t t'):=nr rfl
theorem zNU: CU tb n0 h i []=True:=nr rfl
theorem zLK: CU tb n0 h i (.dead::l)=CU tb n0 h (i+1) l:=nr rfl
theorem zNT{c:List CV}:CU tb n0 h i (.box c::l)=((h[rn tb 0 i]?=some (DB.rn tb 0 (.box c))/\(Nat.ble n0 i || Nat.beq (rn tb 0 i) i)=true)/\CU tb n0 h (i+1) l):=nr rfl
theorem zNS{k:Nat}{es:List (List PV)}{ro:Bool}:CU tb n0 h i (.arr k es ro::l)=((h[rn tb 0 i]?=some (DB.rn tb 0 (.arr k es ro))/\(Nat.ble n0 i || Nat.beq (rn tb 0 i) i)=true)/\CU tb n0 h (i+1) l):=nr rfl
theorem zPr{es:List (Int × PV)}:CU tb n0 h i (.mp es::l)=((h[rn tb 0 i]?=some (DB.rn tb 0 (.mp es))/\(Nat.ble n0 i || Nat.beq (rn tb 0 i) i)=true)/\CU tb n0 h (i+1) l):=nr rfl
variable {P:Program}{T:Tab}{X0:Ctx}{s:DS}{Q:Exit->DS->Prop}
def zKw{α:Type}(n0:Nat)(I:α->DS)(J:α->Prop)(μ:α->Nat)(x:α)(Q:Exit->DS->Prop):Exit->DS->Prop:=λe s'=>match e with
 | .normal=>∃y,J y/\μ y < μ x/\(xA n0 s' (I y)∨zCh n0 s' (I y))
 | e=>Q e s'
theorem zPN{α:Type}{I:α->DS}{J:α->Prop}{μ:α->Nat}{x:α}{id:Nat}:zKw n0 I J μ x Q (.exit id) s=Q (.exit id) s:=nr rfl
theorem zPO{α:Type}{I:α->DS}{J:α->Prop}{μ:α->Nat}{x:α}:zKw n0 I J μ x Q .ret s=Q .ret s:=nr rfl
end perm
attribute [go_sem] zPN zPO
theorem aA.perm{P:Program}{f:FuncId}{args:List DV}{h h1 h2:aB}{d1 d2:DV}(tb:List Nat)(hc:aA P f args h λd h'=>d=d1/\h'=h1)(hd:d1=d2.rn tb 0)
  (h0:(Nat.ble h.length h2.length && (Nat.beq h2.length tb.length && (pG tb && (h2.all (bH h2.length) && bW h2.length d2))))=true)(h4:CU tb h.length h1 0 h2):aA P f args h λd h'=>d=d2/\h'=h2:=by
 simp only[Bool.and_eq_true] at h0;intro X vals hh hi gd hr;have key:∀v w',Ret X (λd h'=>d=d1/\h'=h1) v w'->Ret X (λd h'=>d=d2/\h'=h2) v w':=by
  rintro v w' ⟨d,Z,k1,k2,k3,k4,k5,k6⟩;rw[<- k6] at h4;obtain⟨g1,g2,g3⟩:=JU (h:=h2) (congrArg List.length hh) k2 k3 (Nat.le_of_ble_eq_true h0.1) (Nat.eq_of_beq_eq_true h0.2.1) h0.2.2.1 h4 h0.2.2.2.1;refine⟨d2,Dm.perm Z tb h2,k1,g1,g2,?_,rfl,rfl⟩;rw[k5,hd] at k4;exact bA.pull g3 h0.2.2.2.2 k4
 rcases hc X vals hh hi gd hr with⟨h1,h2⟩|⟨v,w',h1,h2⟩
 .exact .inl ⟨h1,h2.mono λe w' ⟨v,he,hv⟩=>⟨v,he,key v w' hv⟩⟩
 .exact .inr ⟨v,w',h1,key v w' h2⟩
end
end Go.Dm
end
