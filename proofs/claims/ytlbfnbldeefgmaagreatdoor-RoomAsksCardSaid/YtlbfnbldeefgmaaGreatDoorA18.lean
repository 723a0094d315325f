/- Part 19 of the proof of roomAsks_card, set without needless blanks. No condition. -/
import Derived.Test.YtlbfnbldeefgmaaGreatDoorA17
set_option linter.all false
section
set_option maxRecDepth 100000
namespace Go.Dm
open Go
def rn (tb:List Nat) (N i:Nat):Nat:=match tb[i]? with
 | some j=>j
 | none=>N+(i-tb.length)
def KV.rn (tb:List Nat) (N:Nat):KV→KV
 | .p x=>.p x
 | .ptr id off=>.ptr (Dm.rn tb N id) off
def CV.rn (tb:List Nat) (N:Nat):CV→CV
 | .p x=>.p x
 | .own id off len=>.own (Dm.rn tb N id) off len
 | .ptr id off=>.ptr (Dm.rn tb N id) off
 | .aptr id i j=>.aptr (Dm.rn tb N id) i j
 | .mp id=>.mp (Dm.rn tb N id)
 | .bs id n=>.bs (Dm.rn tb N id) n
 | .eptr cs=>.eptr cs
 | .full k es=>.full k es
 | .clo f cap=>.clo f (cap.map (KV.rn tb N))
def EV.rn (tb:List Nat) (N:Nat):EV→EV
 | .c x=>.c (x.rn tb N)
 | .agg xs=>.agg (xs.map (CV.rn tb N))
def DV.rn (tb:List Nat) (N:Nat):DV→DV
 | .jk=>.jk
 | .c x=>.c (x.rn tb N)
 | .agg xs=>.agg (xs.map (CV.rn tb N))
 | .tup xs=>.tup (xs.map (EV.rn tb N))
def DB.rn (tb:List Nat) (N:Nat):DB→DB
 | .dead=>.dead
 | .box cells=>.box (cells.map (CV.rn tb N))
 | .arr k es ro=>.arr k es ro
 | .mp es=>.mp es
theorem DB.rn_live {tb:List Nat} {N:Nat} {db:DB}:(db.rn tb N).live=db.live:=by cases db <;> rfl
theorem DB.rn_fix {tb:List Nat} {N:Nat} {db:DB}:(db.rn tb N).fix=db.fix:=by cases db <;> rfl
theorem cD.rn_r {tb:List Nat} {N:Nat} {a b:DB} (h:cD a (b.rn tb N)):cD a b:=by cases a <;> cases b <;> simp_all [cD,DB.rn]
theorem cD.rn_lr {tb:List Nat} {N M:Nat} {a b:DB} (h:cD a b):cD (a.rn tb N) (b.rn tb M):=by
 cases a <;> cases b <;> first|exact h|exact h.elim
section pull
variable {X Y:Ctx} {tb:List Nat} {N:Nat}
structure Pull (X Y:Ctx) (tb:List Nat) (N:Nat):Prop where
 w:Y.w=X.w
 S:Y.S=X.S
 h:∀ i db,Y.h[i]? = some db→db.live=true→X.h[rn tb N i]? = some (db.rn tb N)
 G:∀ i,i<Y.h.length→Y.G i=X.G (rn tb N i)
theorem pE.pull (p:Pull X Y tb N) {c:KV} {v:Value} (hc:cH Y.h.length c=true) (h:pE X (c.rn tb N) v):pE Y c v:=by
 cases c <;> simp only [pE,KV.rn] at h ⊢
 case p=>rw [p.w,p.S];exact h
 case ptr id off =>
  simp only [cH,decide_eq_true_eq] at hc;exact ⟨hc,h.2.1,fun cells hd=>by rw [p.G _ hc];exact h.2.2 _ (p.h _ _ hd rfl)⟩
theorem eQ.pull (p:Pull X Y tb N):∀ {cs:List KV} {vs:List Value},cs.all (cH Y.h.length)=true→eQ X (cs.map (KV.rn tb N)) vs→eQ Y cs vs
 | [],[],_,_=>True.intro
 | _::_,_::_,hc,h=>by
  simp only [List.all_cons,Bool.and_eq_true] at hc;exact ⟨pE.pull p hc.1 h.1,eQ.pull p hc.2 h.2⟩
 | [],_::_,_,h=>h.elim
 | _::_,[],_,h=>h.elim
theorem bS.pull (p:Pull X Y tb N) {c:CV} {v:Value} (hc:aF Y.h.length c=true) (h:bS X (c.rn tb N) v):bS Y c v:=by
 cases c <;> simp only [bS,CV.rn] at h ⊢ <;> simp only [aF,decide_eq_true_eq] at hc
 case p=>rw [p.w,p.S];exact h
 case own id off len =>
  refine ⟨hc,h.2.1,fun k es ro hd=>?_⟩;rw [p.G _ hc,p.w];exact h.2.2 _ _ _ (p.h _ _ hd rfl)
 case ptr id off=>exact ⟨hc,h.2.1,fun cells hd=>by rw [p.G _ hc];exact h.2.2 _ (p.h _ _ hd rfl)⟩
 case aptr id i j=>exact ⟨hc,h.2.1,fun k es ro hd=>by rw [p.G _ hc];exact h.2.2 _ _ _ (p.h _ _ hd rfl)⟩
 case mp id=>exact ⟨hc,h.2.1,fun es hd=>by rw [p.G _ hc];exact h.2.2 _ (p.h _ _ hd rfl)⟩
 case bs id n=>exact ⟨hc,h.2.1,fun cells hd=>by rw [p.G _ hc];exact h.2.2 _ (p.h _ _ hd rfl)⟩
 case eptr=>rw [p.w,p.S];exact h
 case full=>rw [p.w,p.S];exact h
 case clo =>
  obtain ⟨vs,h1,h2⟩:=h;exact ⟨vs,h1,eQ.pull p hc h2⟩
theorem bB.pull (p:Pull X Y tb N):∀ {cs:List CV} {vs:List Value},cs.all (aF Y.h.length)=true→bB X (cs.map (CV.rn tb N)) vs→bB Y cs vs
 | [],[],_,_=>True.intro
 | _::_,_::_,hc,h=>by
  simp only [List.all_cons,Bool.and_eq_true] at hc;exact ⟨bS.pull p hc.1 h.1,bB.pull p hc.2 h.2⟩
 | [],_::_,_,h=>h.elim
 | _::_,[],_,h=>h.elim
theorem dN.pull (p:Pull X Y tb N) {c:EV} {v:Value} (hc:mU Y.h.length c=true) (h:dN X (c.rn tb N) v):dN Y c v:=by
 cases c <;> simp only [dN,EV.rn] at h ⊢ <;> simp only [mU] at hc
 ·exact bS.pull p hc h
 ·obtain ⟨vs,h1,h2⟩:=h;exact ⟨vs,h1,bB.pull p hc h2⟩
theorem cG.pull (p:Pull X Y tb N):∀ {cs:List EV} {vs:List Value},cs.all (mU Y.h.length)=true→cG X (cs.map (EV.rn tb N)) vs→cG Y cs vs
 | [],[],_,_=>True.intro
 | _::_,_::_,hc,h=>by
  simp only [List.all_cons,Bool.and_eq_true] at hc;exact ⟨dN.pull p hc.1 h.1,cG.pull p hc.2 h.2⟩
 | [],_::_,_,h=>h.elim
 | _::_,[],_,h=>h.elim
theorem bA.pull (p:Pull X Y tb N) {c:DV} {v:Value} (hc:aJ Y.h.length c=true) (h:bA X (c.rn tb N) v):bA Y c v:=by
 cases c <;> simp only [bA,DV.rn] at h ⊢ <;> simp only [aJ] at hc
 ·exact bS.pull p hc h
 ·obtain ⟨vs,h1,h2⟩:=h;exact ⟨vs,h1,bB.pull p hc h2⟩
 ·obtain ⟨vs,h1,h2⟩:=h;exact ⟨vs,h1,cG.pull p hc h2⟩
theorem dC.pull (p:Pull X Y tb N):∀ {cs:List DV} {vs:List Value},cs.all (aJ Y.h.length)=true→dC X (cs.map (DV.rn tb N)) vs→dC Y cs vs
 | [],[],_,_=>True.intro
 | _::_,_::_,hc,h=>by
  simp only [List.all_cons,Bool.and_eq_true] at hc;exact ⟨bA.pull p hc.1 h.1,dC.pull p hc.2 h.2⟩
 | [],_::_,_,h=>h.elim
 | _::_,[],_,h=>h.elim
theorem dU.pull (p:Pull X Y tb N) {id:Nat} {db:DB} (hid:id<Y.h.length) (hc:bN Y.h.length db=true) (h:dU X (rn tb N id) (db.rn tb N)):dU Y id db:=by
 cases db <;> simp only [dU,DB.rn] at h ⊢
 case box cells =>
  obtain ⟨g,arr,el,fz,h1,h2,h3,h4,h5⟩:=h;refine ⟨g,arr,el,fz,by rw [p.G _ hid];exact h1,by rw [p.w];exact h2,by simpa using h3,h4,cP.mk fun j c hj=>?_⟩
  obtain ⟨v,h6,h7⟩:=h5.at_ (j:=j) (c:=c.rn tb N) (by rw [List.getElem?_map,hj];rfl);exact ⟨v,by rw [p.w];exact h6,bS.pull p (BG (show cells.all (aF Y.h.length)=true from hc) hj) h7⟩
 case arr=>rw [p.G _ hid,p.w,p.S];exact h
 case mp=>rw [p.G _ hid,p.w,p.S];exact h
def zNl (tb:List Nat) (N:Nat) (h:aC):Prop:=∀ i j db db',h[i]? = some db→db.live=true→h[j]? = some db'→db'.live=true→rn tb N i=rn tb N j→i=j
theorem HInv.pull (hi:HInv X) (p:Pull X Y tb N) (hc:Y.h.all (bN Y.h.length)=true) (hj:zNl tb N Y.h):HInv Y where
 slt:=fun b hb=>by rw [p.S] at hb;rw [p.w];exact hi.slt b hb
 blk:=fun id db h=>by
  by_cases hl:db.live=true
  ·exact dU.pull p (aM h) (BG hc h) (hi.blk _ _ (p.h _ _ h hl))
  ·cases db <;> simp_all [DB.live,dU]
 own:=fun id db g h hl hg=>by
  rw [p.G _ (aM h)] at hg;have:=hi.own _ _ g (p.h _ _ h hl) (by rw [DB.rn_live];exact hl) hg;rw [DB.rn_fix] at this;rw [p.S];exact this
 inj:=fun id db id' db' g g' h hl hf h' hl' hg hg' he=>by
  rw [p.G _ (aM h)] at hg;rw [p.G _ (aM h')] at hg';exact hj _ _ _ _ h hl h' hl' (hi.inj _ _ _ _ g g' (p.h _ _ h hl) (by rw [DB.rn_live];exact hl) (by rw [DB.rn_fix];exact hf) (p.h _ _ h' hl') (by rw [DB.rn_live];exact hl') hg hg' he)
end pull
section perm
def perm (X:Ctx) (tb:List Nat) (h:aC):Ctx:=⟨X.w,X.S,fun i=>X.G (rn tb 0 i),h⟩
def WkP (tb:List Nat) (n:Nat) (t:Fr):Fr→Prop
 | []=>True
 | p::t'=>(look t p.1=p.2.rn tb 0∧aJ n p.2=true)∧WkP tb n t t'
theorem WkP.look {tb:List Nat} {n:Nat} {t:Fr}:∀ {t':Fr},WkP tb n t t'→∀ i,look t' i=.jk∨(Dm.look t i=(Dm.look t' i).rn tb 0∧aJ n (Dm.look t' i)=true)
 | [],_,_=>.inl rfl
 | p::t',h,i=>by
  simp only [Dm.look];split
  ·rename_i hi;subst hi;exact .inr ⟨h.1.1,h.1.2⟩
  ·exact WkP.look h.2 i
def BZ (tb:List Nat) (n0:Nat) (h:aC):Nat→aC→Prop
 | _,[]=>True
 | i,.dead::l=>BZ tb n0 h (i+1) l
 | i,db::l=>(h[rn tb 0 i]? = some (db.rn tb 0)∧(Nat.ble n0 i || Nat.beq (rn tb 0 i) i)=true)∧BZ tb n0 h (i+1) l
theorem BZ.at_ {tb:List Nat} {n0:Nat} {h:aC}:∀ {l:aC} {i j:Nat} {db:DB},BZ tb n0 h i l→l[j]? = some db→db.live=true→h[rn tb 0 (i+j)]? = some (db.rn tb 0)∧(i+j<n0→rn tb 0 (i+j)=i+j)
 | [],_,_,_,_,hj,_=>by simp at hj
 | x::l,i,0,db,hh,hj,hl=>by
  simp only [List.getElem?_cons_zero,Option.some.injEq] at hj;subst hj;cases x with
  | dead=>simp [DB.live] at hl
  | box _ =>
   refine ⟨hh.1.1,fun hlt=>?_⟩;have:=hh.1.2;rw [Bool.or_eq_true] at this;rcases this with h1|h1
   ·have:=Nat.le_of_ble_eq_true h1;omega
   ·exact Nat.eq_of_beq_eq_true h1
  | arr _ _ _ =>
   refine ⟨hh.1.1,fun hlt=>?_⟩;have:=hh.1.2;rw [Bool.or_eq_true] at this;rcases this with h1|h1
   ·have:=Nat.le_of_ble_eq_true h1;omega
   ·exact Nat.eq_of_beq_eq_true h1
  | mp _ =>
   refine ⟨hh.1.1,fun hlt=>?_⟩;have:=hh.1.2;rw [Bool.or_eq_true] at this;rcases this with h1|h1
   ·have:=Nat.le_of_ble_eq_true h1;omega
   ·exact Nat.eq_of_beq_eq_true h1
 | x::l,i,j+1,db,hh,hj,hl=>by
  simp only [List.getElem?_cons_succ] at hj;have hh':BZ tb n0 h (i+1) l:=by
   cases x with
   | dead=>exact hh
   | box _=>exact hh.2
   | arr _ _ _=>exact hh.2
   | mp _=>exact hh.2
  have:=BZ.at_ hh' hj hl
  rwa [show i+1+j=i+(j+1) by omega] at this
def nO:List Nat→Bool
 | []=>true
 | x::l=>!(l.any (Nat.beq x)) && nO l
theorem nP:∀ {l:List Nat},nO l=true→l.Nodup
 | [],_=>List.nodup_nil
 | x::l,h=>by
  simp only [nO,Bool.and_eq_true,Bool.not_eq_true',List.any_eq_false] at h;refine List.nodup_cons.2 ⟨fun hx=>h.1 x hx (Nat.beq_refl x),nP h.2⟩
theorem tZ {tb:List Nat} {N i:Nat} (h:i<tb.length):rn tb N i=tb[i]:=by
 unfold rn;rw [List.getElem?_eq_getElem h]
theorem MU {tb:List Nat} {N i:Nat} (h:tb.length≤i):rn tb N i=N+(i-tb.length):=by
 unfold rn;rw [List.getElem?_eq_none h]
theorem WL {x:Nat}:∀ {l:List Nat} {i j:Nat},l.Nodup→l[i]? = some x→l[j]? = some x→i=j
 | [],_,_,_,h,_=>by simp at h
 | y::l,0,0,_,_,_=>rfl
 | y::l,0,j+1,hn,h1,h2=>by
  simp only [List.getElem?_cons_zero,Option.some.injEq,List.getElem?_cons_succ] at h1 h2;subst h1;exact absurd (List.mem_of_getElem? h2) (List.nodup_cons.1 hn).1
 | y::l,i+1,0,hn,h1,h2=>by
  simp only [List.getElem?_cons_zero,Option.some.injEq,List.getElem?_cons_succ] at h1 h2;subst h2;exact absurd (List.mem_of_getElem? h1) (List.nodup_cons.1 hn).1
 | y::l,i+1,j+1,hn,h1,h2=>by
  simp only [List.getElem?_cons_succ] at h1 h2;rw [WL (List.nodup_cons.1 hn).2 h1 h2]
theorem zEl {tb:List Nat} {N i j:Nat} (hd:tb.Nodup) (hi:i<tb.length) (hj:j<tb.length) (h:rn tb N i=rn tb N j):i=j:=by
 rw [tZ hi,tZ hj] at h;exact WL hd (List.getElem?_eq_getElem hi) (by rw [List.getElem?_eq_getElem hj,h])
def zA0 (n0:Nat) (s s':DS):Prop:=∃ tb:List Nat,s'.n=s.n∧n0≤s'.h.length∧s'.h.length=tb.length∧nO tb=true∧BZ tb n0 s.h 0 s'.h∧s'.h.all (bN s'.h.length)=true∧WkP tb s'.h.length s.t s'.t
theorem GJ {n0:Nat} {X0 X:Ctx} {tb:List Nat} {h:aC} (hn:X0.h.length=n0) (hi:HInv X) (hs:Step X0 X) (h1:n0≤h.length) (h2:h.length=tb.length) (h3:nO tb=true) (h4:BZ tb n0 X.h 0 h) (h5:h.all (bN h.length)=true):
  HInv (perm X tb h)∧Step X0 (perm X tb h)∧Pull X (perm X tb h) tb 0:=by
 have hat:∀ i db,h[i]? = some db→db.live=true→X.h[rn tb 0 i]? = some (db.rn tb 0)∧(i<n0→rn tb 0 i=i):=fun i db hd hl=>by
  have:=h4.at_ hd hl
  rwa [Nat.zero_add] at this
 have hp:Pull X (perm X tb h) tb 0:=⟨rfl,rfl,fun i db hd hl=>(hat i db hd hl).1,fun i _=>rfl⟩;refine ⟨hi.pull hp h5 fun i j db db' hd _ hd' _ he=>zEl (nP h3) (h2▸aM hd) (h2▸aM hd') he,?_,hp⟩;refine ⟨hs.size,hs.os,hs.tape,hs.output,hs.kept,by rw [hn];exact h1,fun id db' hlt hd hl=>?_,hs.frame,fun id db g hd hl hf hg=>?_,hs.upper⟩
 ·obtain ⟨k1,k2⟩:=hat id db' hd hl;have k2:=k2 (hn▸hlt);rw [k2] at k1;obtain ⟨db,q1,q2,q3,q4⟩:=hs.ids id _ hlt k1 (by rw [DB.rn_live];exact hl);refine ⟨db,q1,q2.rn_r,?_,q4⟩;show X.G (rn tb 0 id)=_;rw [k2];exact q3
 ·obtain ⟨k1,_⟩:=hat id db hd hl;exact hs.mine _ _ g k1 (by rw [DB.rn_live];exact hl) (by rw [DB.rn_fix];exact hf) hg
theorem zA0.use {n0:Nat} {s s':DS} (h:zA0 n0 s s') {X0 X:Ctx} {a:Act} (hn:X0.h.length=n0) (hh:X.h=s.h) (hi:HInv X) (hs:Step X0 X) (ht:TInv X s a):∃ X',X'.w=X.w∧X'.h=s'.h∧HInv X'∧Step X0 X'∧TInv X' s' a:=by
 obtain ⟨tb,h0,h1,h2,h3,h4,h5,h6⟩:=h;rw [← hh] at h4;obtain ⟨g1,g2,g3⟩:=GJ hn hi hs h1 h2 h3 h4 h5;refine ⟨perm X tb s'.h,rfl,rfl,g1,g2,ht.size.trans h0.symm,fun i=>?_,ht.defs⟩;rcases h6.look i with h7|⟨h7,h8⟩
 ·rw [h7];exact True.intro
 ·have:=ht.rel i;rw [h7] at this;exact bA.pull g3 h8 this
theorem jZ (tb:List Nat) {n0 n:Nat} {t t':Fr} {h h':aC} (h0:(Nat.ble n0 h'.length && (Nat.beq h'.length tb.length && nO tb))=true) (h4:BZ tb n0 h 0 h') (h5:h'.all (bN h'.length)=true) (h6:WkP tb h'.length t t'):zA0 n0 ⟨n,t,h⟩ ⟨n,t',h'⟩:=by
 simp only [Bool.and_eq_true] at h0;exact ⟨tb,rfl,Nat.le_of_ble_eq_true h0.1,Nat.eq_of_beq_eq_true h0.2.1,h0.2.2,h4,h5,h6⟩
theorem sM {tb:List Nat} {n:Nat} {t:Fr}:WkP tb n t []=True:=nr rfl
theorem mD {tb:List Nat} {n:Nat} {t t':Fr} {i:Nat} {d:DV}:WkP tb n t ((i,d)::t')=((look t i=d.rn tb 0∧aJ n d=true)∧WkP tb n t t'):=nr rfl
theorem iD {tb:List Nat} {n0 i:Nat} {h:aC}:BZ tb n0 h i []=True:=nr rfl
theorem tL {tb:List Nat} {n0 i:Nat} {h l:aC}:BZ tb n0 h i (.dead::l)=BZ tb n0 h (i+1) l:=nr rfl
theorem kW {tb:List Nat} {n0 i:Nat} {h l:aC} {c:List CV}:BZ tb n0 h i (.box c::l)=((h[rn tb 0 i]? = some (DB.rn tb 0 (.box c))∧(Nat.ble n0 i || Nat.beq (rn tb 0 i) i)=true)∧BZ tb n0 h (i+1) l):=nr rfl
theorem iC {tb:List Nat} {n0 i k:Nat} {h l:aC} {es:List (List PV)} {ro:Bool}:BZ tb n0 h i (.arr k es ro::l)=((h[rn tb 0 i]? = some (DB.rn tb 0 (.arr k es ro))∧(Nat.ble n0 i || Nat.beq (rn tb 0 i) i)=true)∧BZ tb n0 h (i+1) l):=nr rfl
theorem rH {tb:List Nat} {n0 i:Nat} {h l:aC} {es:List (Int × PV)}:BZ tb n0 h i (.mp es::l)=((h[rn tb 0 i]? = some (DB.rn tb 0 (.mp es))∧(Nat.ble n0 i || Nat.beq (rn tb 0 i) i)=true)∧BZ tb n0 h (i+1) l):=nr rfl
variable {P:Program} {T:Tab} {X0:Ctx} {s:DS} {Q:Exit→DS→Prop}
def zIt {α:Type} (n0:Nat) (I:α→DS) (J:α→Prop) (μ:α→Nat) (x:α) (Q:Exit→DS→Prop):Exit→DS→Prop:=fun e s'=>match e with
 | .normal=>∃ y,J y∧μ y < μ x∧(vH n0 s' (I y)∨zA0 n0 s' (I y))
 | e=>Q e s'
theorem zNj {α:Type} {n0:Nat} {I:α→DS} {J:α→Prop} {μ:α→Nat} {x:α} {id:Nat} {s:DS}:zIt n0 I J μ x Q (.exit id) s=Q (.exit id) s:=nr rfl
theorem zNk {α:Type} {n0:Nat} {I:α→DS} {J:α→Prop} {μ:α→Nat} {x:α} {s:DS}:zIt n0 I J μ x Q .ret s=Q .ret s:=nr rfl
end perm
attribute [go_sem] zNj zNk
theorem aA.perm {P:Program} {f:FuncId} {args:List DV} {h h1 h2:aC} {d1 d2:DV} (tb:List Nat) (hc:aA P f args h fun d h'=>d=d1∧h'=h1) (hd:d1=d2.rn tb 0)
  (h0:(Nat.ble h.length h2.length && (Nat.beq h2.length tb.length && (nO tb && (h2.all (bN h2.length) && aJ h2.length d2))))=true) (h4:BZ tb h.length h1 0 h2):aA P f args h fun d h'=>d=d2∧h'=h2:=by
 simp only [Bool.and_eq_true] at h0;intro X vals hh hi gd hr;have key:∀ v w',Ret X (fun d h'=>d=d1∧h'=h1) v w'→Ret X (fun d h'=>d=d2∧h'=h2) v w':=by
  rintro v w' ⟨d,Z,k1,k2,k3,k4,k5,k6⟩;rw [← k6] at h4;obtain ⟨g1,g2,g3⟩:=GJ (h:=h2) (congrArg List.length hh) k2 k3 (Nat.le_of_ble_eq_true h0.1) (Nat.eq_of_beq_eq_true h0.2.1) h0.2.2.1 h4 h0.2.2.2.1;refine ⟨d2,Dm.perm Z tb h2,k1,g1,g2,?_,rfl,rfl⟩;rw [k5,hd] at k4;exact bA.pull g3 h0.2.2.2.2 k4
 rcases hc X vals hh hi gd hr with ⟨h1,h2⟩|⟨v,w',h1,h2⟩
 ·exact .inl ⟨h1,h2.mono fun e w' ⟨v,he,hv⟩=>⟨v,he,key v w' hv⟩⟩
 ·exact .inr ⟨v,w',h1,key v w' h2⟩
end Go.Dm
end
