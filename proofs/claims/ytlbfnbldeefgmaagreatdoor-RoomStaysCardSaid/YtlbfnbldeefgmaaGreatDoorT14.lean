/- Part 15 of the proof of roomStays_card, set without needless blanks. No condition. -/
import Derived.Test.YtlbfnbldeefgmaaGreatDoorT13
set_option linter.all false
set_option maxRecDepth 100000
set_option maxHeartbeats 16000000
section
section
namespace Go.Dm
open Go
variable {n i k bl:Nat}{rs:List ResultVar}{R:DV->aB->Prop}{s:DS}{t:Fr}{h:aB}{P:Program}{T:Tab}{f:FuncId}{fn:Func}{c:Code}{args:List DV}{w:World}{S:Nat->Prop}
def vO(n:Nat)(h:aB)(R:DV->aB->Prop):DV->Prop
 | .c (.own id off len)=>off=0/\n<=id/\(h.take n).all (bH n)=true/\∃k es,h[id]?=some (.arr k es false)/\R (.c (.own n 0 len)) (h.take n++[.arr k es false])
 | _=>False
def XI(n:Nat)(t:Fr)(h:aB)(R:DV->aB->Prop):List ResultVar->Prop
 | [.tmp i]=>vO n h R (look t i)
 | _=>False
def ZV(n:Nat)(rs:List ResultVar)(R:DV->aB->Prop):Exit->DS->Prop
 | .normal,s=>XI n s.t s.h R rs
 | .ret,s=>XI n s.t s.h R rs
 | _,_=>False
theorem zJV: ZV n rs R .normal s=XI n s.t s.h R rs:=nr rfl
theorem zJW: ZV n rs R .ret s=XI n s.t s.h R rs:=nr rfl
theorem zGD: XI n t h R [.tmp i]=vO n h R (look t i):=nr rfl
attribute [go_sem] zJV zJW zGD
theorem zOH{d:DV}(hv:vO n h R d):Fin n h d R:=by
 unfold vO at hv;split at hv
 .obtain⟨rfl,h1,h2,k,es,h3,h4⟩:=hv;exact .inr (.inr ⟨_,_,k,es,rfl,h1,h3,h2,h4⟩)
 .exact hv.elim
theorem zPl (hT:bF P T) (hm:P.follows .mixedOrders=true) (hf:P.funcs[f]?=some fn) (hb:fn.body=some c)
 (hc:(Nat.ble args.length fn.ntmps && !(fn.name == "runtime.NumGoroutine"))=true)
 (hs:∀X0:Ctx,X0.h=h->vc P T X0 c ⟨fn.ntmps,kH 0 args,h⟩ (ZV h.length fn.results.toList R)):aA P f args h R:=by
 simp only[Bool.and_eq_true,Bool.not_eq_true'] at hc;refine fN hT hf hb (Nat.le_of_ble_eq_true hc.1) hc.2 λX0 hX=>?_;rw[gJ];refine gI (dX hT hm c (hs X0 hX)) λe s hv=>?_;have key:XI h.length s.t s.h R fn.results.toList->dpost T h.length fn.results.toList R .normal s/\dpost T h.length fn.results.toList R .ret s:=by
  intro hr;generalize fn.results.toList=rs at hr;unfold XI at hr;split at hr
  .rename_i i;have hf:=zOH hr;have:∃x,look s.t i=.c x:=by
    unfold vO at hr;split at hr
    .rename_i he;exact⟨_,he⟩
    .exact hr.elim
   obtain⟨x,hx⟩:=this;rw[hx] at hf;simp only[dpost,nI,hx];exact⟨hf,hf⟩
  .exact hr.elim
 cases e<;>simp only[ZV] at hv
 case normal=>exact(key hv).1
 case ret=>exact(key hv).2
theorem zB6{args':List DV}{K:DV->aB->Prop}{es:List (List PV)}(hc:aA P f args' [] λd h'=>d=.c (.own 0 0 n)/\h'=[.arr k es false])(hp:iH h args=some args')
 (hk:K (.c (.own h.length 0 n)) (rL h (lY args)++[.arr k es false])):aA P f args h K :=
 (aA.frame h hp hc).mono λd h' ⟨d0,h0,⟨h1,h2⟩,h3,h4⟩=>by
  subst h1;subst h2;subst h3;subst h4;simpa[DV.sh,CV.sh,DB.sh] using hk
def vR(h:aB)(R:DV->aB->Prop):DV->Prop
 | .c x=>R (.c x) h
 | _=>False
def XJ(t:Fr)(h:aB)(R:DV->aB->Prop):List ResultVar->Prop
 | [.tmp i]=>vR h R (look t i)
 | _=>False
def ZW(rs:List ResultVar)(R:DV->aB->Prop):Exit->DS->Prop
 | .normal,s=>XJ s.t s.h R rs
 | .ret,s=>XJ s.t s.h R rs
 | _,_=>False
theorem zJX: ZW rs R .normal s=XJ s.t s.h R rs:=nr rfl
theorem zJY: ZW rs R .ret s=XJ s.t s.h R rs:=nr rfl
theorem zGE: XJ t h R [.tmp i]=vR h R (look t i):=nr rfl
theorem vR_c{x:CV}:vR h R (.c x)=R (.c x) h:=nr rfl
attribute [go_sem] zJX zJY zGE vR_c
theorem SB (hT:bF P T) (hm:P.follows .mixedOrders=true) (hf:P.funcs[f]?=some fn) (hb:fn.body=some c)
 (hc:(Nat.ble args.length fn.ntmps && !(fn.name == "runtime.NumGoroutine"))=true)
 (hs:∀X0:Ctx,X0.h=h->vc P T X0 c ⟨fn.ntmps,kH 0 args,h⟩ (ZW fn.results.toList R)):aA P f args h R:=by
 simp only[Bool.and_eq_true,Bool.not_eq_true'] at hc;refine fN hT hf hb (Nat.le_of_ble_eq_true hc.1) hc.2 λX0 hX=>?_;rw[gJ];refine gI (dX hT hm c (hs X0 hX)) λe s hv=>?_;have key:XJ s.t s.h R fn.results.toList->dpost T h.length fn.results.toList R .normal s/\dpost T h.length fn.results.toList R .ret s:=by
  intro hr;generalize fn.results.toList=rs at hr;unfold XJ at hr;split at hr
  .rename_i i;unfold vR at hr;split at hr
   .rename_i x hx;simp only[dpost,nI,hx];exact⟨.inl hr,.inl hr⟩
   .exact hr.elim
  .exact hr.elim
 cases e<;>simp only[ZW] at hv
 case normal=>exact(key hv).1
 case ret=>exact(key hv).2
def zJ1: List PV->List PV->Prop
 | [],[]=>True
 | x::xs,y::ys=>wkP x y/\zJ1 xs ys
 | _,_=>False
def lG: List (List PV)->List (List PV)->Prop
 | [],[]=>True
 | e::es,f::fs=>zJ1 e f/\lG es fs
 | _,_=>False
theorem zJ1.len: ∀{e f:List PV},zJ1 e f->f.length=e.length
 | [],[],_=>rfl
 | _::_,_::_,h=>by simp[zJ1.len h.2]
 | [],_::_,h=>h.elim
 | _::_,[],h=>h.elim
theorem lG.len: ∀{e f:List (List PV)},lG e f->f.length=e.length
 | [],[],_=>rfl
 | _::_,_::_,h=>by simp[lG.len h.2]
 | [],_::_,h=>h.elim
 | _::_,[],h=>h.elim
theorem wkP.relP{x y:PV}{v:Value}(h:wkP x y)(hr:dF w S x v):dF w S y v:=by
 rcases h with rfl|⟨rfl,k,rfl⟩
 .exact hr
 .exact dF.nilOf k hr
theorem zJ1.relE: ∀{e f:List PV} {off:Nat},zJ1 e f->gW w S bl off e->gW w S bl off f
 | [],[],_,_,_=>True.intro
 | _::_,_::_,_,h,⟨⟨v,h1,h2⟩,h3⟩=>⟨⟨v,h1,h.1.relP h2⟩,zJ1.relE h.2 h3⟩
 | [],_::_,_,h,_=>h.elim
 | _::_,[],_,h,_=>h.elim
theorem lG.relL: ∀{e f:List (List PV)} {off:Nat},lG e f->fC w S k bl off e->fC w S k bl off f
 | [],[],_,_,_=>True.intro
 | _::_,_::_,_,h,⟨⟨h1,h2⟩,h3⟩=>⟨⟨h.1.len.trans h1,h.1.relE h2⟩,lG.relL h.2 h3⟩
 | [],_::_,_,h,_=>h.elim
 | _::_,[],_,h,_=>h.elim
end Go.Dm
end
section
namespace Go.Dm
open Go
variable {X Y:Ctx}{v:Value}{bl i:Nat}{G:Nat->Option (Nat × Nat)}{h:aB}{P:Program}{f:FuncId}{c0 c1:List CV}{r:DV}{K:DV->aB->Prop}
def HF: CV->Bool
 | .p _=>true
 | _=>false
def zOZ: EV->Bool
 | .c x=>HF x
 | .agg xs=>xs.all HF
def zCN: DV->Bool
 | .jk=>true
 | .c x=>HF x
 | .agg xs=>xs.all HF
 | .tup xs=>xs.all zOZ
theorem xQ(hw:Y.w=X.w)(hS:Y.S=X.S){x:CV}(hf:HF x=true)(h:bV X x v):bV Y x v:=by
 cases x<;>simp only[HF] at hf
 .simp only[bV] at h ⊢;rw[hw,hS];exact h
 all_goals cases hf
theorem zH(hw:Y.w=X.w)(hS:Y.S=X.S):∀{xs:List CV} {vs:List Value},xs.all HF=true->bC X xs vs->bC Y xs vs
 | [],[],_,_=>True.intro
 | _::_,_::_,hf,h=>by
  simp only[List.all_cons,Bool.and_eq_true] at hf;exact⟨xQ hw hS hf.1 h.1,zH hw hS hf.2 h.2⟩
 | [],_::_,_,h=>h.elim
 | _::_,[],_,h=>h.elim
theorem zHe(hw:Y.w=X.w)(hS:Y.S=X.S){x:EV}(hf:zOZ x=true)(h:eD X x v):eD Y x v:=by
 cases x<;>simp only[zOZ] at hf<;>simp only[eD] at h ⊢
 .exact xQ hw hS hf h
 .obtain⟨vs,h1,h2⟩:=h;exact⟨vs,h1,zH hw hS hf h2⟩
theorem LR(hw:Y.w=X.w)(hS:Y.S=X.S):∀{xs:List EV} {vs:List Value},xs.all zOZ=true->cP X xs vs->cP Y xs vs
 | [],[],_,_=>True.intro
 | _::_,_::_,hf,h=>by
  simp only[List.all_cons,Bool.and_eq_true] at hf;exact⟨zHe hw hS hf.1 h.1,LR hw hS hf.2 h.2⟩
 | [],_::_,_,h=>h.elim
 | _::_,[],_,h=>h.elim
theorem xR(hw:Y.w=X.w)(hS:Y.S=X.S){x:DV}(hf:zCN x=true)(h:bA X x v):bA Y x v:=by
 cases x<;>simp only[zCN] at hf<;>simp only[bA] at h ⊢
 .exact xQ hw hS hf h
 .obtain⟨vs,h1,h2⟩:=h;exact⟨vs,h1,zH hw hS hf h2⟩
 .obtain⟨vs,h1,h2⟩:=h;exact⟨vs,h1,LR hw hS hf h2⟩
theorem EB(hw:Y.w=X.w)(hS:Y.S=X.S):∀{off:Nat} {cs:List CV},cs.all HF=true->cY X bl off cs->cY Y bl off cs
 | _,[],_,_=>True.intro
 | _,_::_,hf,h=>by
  simp only[List.all_cons,Bool.and_eq_true] at hf;obtain⟨⟨v,h1,h2⟩,h3⟩:=h;exact⟨⟨v,by rw[hw];exact h1,xQ hw hS hf.1 h2⟩,EB hw hS hf.2 h3⟩
theorem PZ(hw:Y.w=X.w)(hS:Y.S=X.S):∀{ps:List PV} {vs:List Value},dL X (ps.map λx=>.c (.p x)) vs->dL Y (ps.map λx=>.c (.p x)) vs
 | [],[],_=>True.intro
 | _::_,_::_,h=>⟨xR hw hS rfl h.1,PZ hw hS h.2⟩
 | [],_::_,h=>h.elim
 | _::_,[],h=>h.elim
theorem sV{off:Nat}{cs:List CV}(hf:cs.all HF=true)(hb:cY X bl off cs):cY ⟨X.w,X.S,G,h⟩ bl off cs:=EB (X:=X) (Y:=⟨X.w,X.S,G,h⟩) rfl rfl hf hb
theorem TD{d:DV}(hf:zCN d=true)(hd:bA X d v):bA ⟨X.w,X.S,G,h⟩ d v:=xR (X:=X) (Y:=⟨X.w,X.S,G,h⟩) rfl rfl hf hd
theorem aA.box{ps:List PV}
 (hc:aA P f (.c (.ptr 0 0)::ps.map λx=>.c (.p x)) [.box c0] λd h'=>d=r/\h'=[.box c1])
 (h0:h[i]?=some (.box c0))(hd:(c0.all HF && (c1.all HF && zCN r))=true)(hk:K r (h.set i (.box c1))):
  aA P f (.c (.ptr i 0)::ps.map λx=>.c (.p x)) h K:=by
 simp only[Bool.and_eq_true] at hd;obtain⟨hd0,hd1,hdr⟩:=hd;intro X vals hh hi gd hr;subst hh;have hlt:=aH h0;obtain⟨g,arr,el,fz,hg,hb1,hb2,hb3,hb4⟩:=hi.blk i _ h0
 let Y:Ctx:=⟨X.w,X.S,λj=>if j=0 then some g else none,[.box c0]⟩
 have hiY:HInv Y:=by
  refine⟨hi.slt,λid db hdb=>?_,λid db g' hdb hl hg'=>?_,λid db id' db' g1 g2 hdb _ _ hdb' _ _ _ _=>?_⟩
  .cases id with
   | zero =>
    simp only[Y,List.getElem?_cons_zero,Option.some.injEq] at hdb;subst hdb;exact⟨g,arr,el,fz,rfl,hb1,hb2,hb3,sV hd0 hb4⟩
   | succ n=>simp[Y] at hdb
  .cases id with
   | zero =>
    simp only[Y,List.getElem?_cons_zero,Option.some.injEq,if_true] at hdb hg';subst hdb;subst hg';exact hi.own i _ g h0 rfl hg
   | succ n=>simp[Y] at hdb
  .have e1:=aH hdb;have e2:=aH hdb';simp only[Y,List.length_cons,List.length_nil] at e1 e2;omega
 cases vals with
 | nil=>exact hr.elim
 | cons v0 vs =>
  obtain ⟨⟨_,hv1,hv2⟩,hr2⟩:=hr;obtain⟨g',hg',rfl⟩:=hv2 _ h0;rw[hg] at hg';cases hg';have hrY:dL Y (.c (.ptr 0 0)::ps.map λx=>.c (.p x)) (.pointer (some ⟨g.1,g.2+0,none⟩)::vs) :=
   ⟨⟨Nat.zero_lt_one,rfl,λcells hcells=>⟨g,rfl,rfl⟩⟩,PZ (X:=X) (Y:=Y) rfl rfl hr2⟩
  have key:∀v w',Ret Y (λd h'=>d=r/\h'=[.box c1]) v w'->Ret X K v w':=by
   rintro v w' ⟨d,Z,h1,h2,h3,h4,rfl,h5⟩;have hZ0:Z.h[0]?=some (.box c1):=by rw[h5];rfl
   obtain ⟨db,e1,e2,e3,e4⟩:=h3.ids 0 _ (by simp[Y]) hZ0 rfl;have hGZ:Z.G 0=some g:=e3;have e4:=e4 g rfl;have hfr:∀b,b<X.w.heap.size->b≠g.1->Z.w.heap[b]?=X.w.heap[b]? := λb hb hne=>h3.frame b hb λid db g' hdb hl hf hg'=>by
    have e1:=aH hdb;simp only[Y,List.length_cons,List.length_nil] at e1;have:id=0:=by omega
    subst this;simp only[Y,if_true,Option.some.injEq] at hg';subst hg';exactλe=>hne e.symm
   have hst:Step X ⟨Z.w,Z.S,X.G,X.h.set i (.box c1)⟩:=by
    refine⟨h3.size,h3.os,h3.tape,h3.output,h3.kept,by simp,λid db' hl' hdb' hlv=>?_,λb hb hno=>?_,λid db g' hdb hl hf hg'=>?_,λb hb=>?_⟩
    .rcases bZ hdb' with⟨rfl,rfl,_⟩|⟨hne,h'⟩
     .exact⟨_,h0,True.intro,rfl,λg' hg'=>by rw[hg] at hg';cases hg';exact e4⟩
     .refine⟨db',h',cG.refl hlv,rfl,λg' hg'=>?_⟩;rw[show Z.w.heap[g'.1]?=X.w.heap[g'.1]? from hfr _ (hi.block_lt h' hlv hg') λe=>hne (hi.inj i _ id db' g g' h0 rfl rfl h' hlv hg hg' e.symm).symm]
      exact(hi.blk id db' h').same hlv g' hg'
    .exact hfr b hb λe=>hno i _ g h0 rfl rfl hg e.symm
    .rcases bZ hdb with⟨rfl,rfl,_⟩|⟨hne,h'⟩
     .exact .inr ⟨id,_,g',h0,rfl,rfl,hg',rfl⟩
     .exact .inr ⟨id,db,g',h',hl,hf,hg',rfl⟩
    .rcases h3.upper b hb with h|h|⟨id,db,g',hdb,hl,hg',e⟩
     .exact .inl h
     .exact .inr (.inl h)
     .have e1:=aH hdb;simp only[Y,List.length_cons,List.length_nil] at e1;have:id=0:=by omega
      subst this;simp only[Y,if_true,Option.some.injEq] at hg';subst hg';exact .inr (.inr ⟨i,_,g,h0,rfl,hg,e⟩)
   refine⟨d,⟨Z.w,Z.S,X.G,X.h.set i (.box c1)⟩,h1,⟨h2.slt,λid db hdb=>?_,λid db g' hdb hl hg'=>?_,λid db id' db' g1 g2 hdb hl hf hdb' hl' hg1 hg2 he=>?_⟩,hst,TD hdr h4,hk⟩
   .rcases bZ hdb with⟨rfl,rfl,_⟩|⟨hne,h'⟩
    .obtain⟨g',arr',el',fz',k1,k2,k3,k4,k5⟩:=h2.blk 0 _ hZ0;rw[hGZ] at k1;cases k1;exact⟨g,arr',el',fz',hg,k2,k3,k4,sV hd1 k5⟩
    .by_cases hl:db.live=true
     .exact(hi.blk id db h').move hst rfl λg' hg'=>hfr _ (hi.block_lt h' hl hg') λe=>hne (hi.inj i _ id db g g' h0 rfl rfl h' hl hg hg' e.symm).symm
     .cases db<;>simp_all[DB.live,eC]
   .rcases bZ hdb with⟨rfl,rfl,_⟩|⟨hne,h'⟩
    .have hgg:g'=g:=by
      have:X.G id=some g':=hg';rw[hg] at this;cases this;rfl
     subst hgg;exact h2.own 0 _ g' hZ0 rfl hGZ
    .have ho:=hi.own id db g' h' hl hg';refine⟨λhf hS=>?_,λhf=>(h3.kept _ (ho.2 hf)).1⟩;rcases h3.upper _ hS with h|h|⟨j,d',g2,hdb2,hl2,hg2,e⟩
     .exact ho.1 hf h
     .have:=hi.block_lt h' hl hg';have hYw:Y.w.heap.size=X.w.heap.size:=rfl;omega
     .have e1:=aH hdb2;simp only[Y,List.length_cons,List.length_nil] at e1;have:j=0:=by omega
      subst this;simp only[Y,if_true,Option.some.injEq] at hg2;subst hg2;exact hne (hi.inj i _ id db g g' h0 rfl rfl h' hl hg hg' e).symm
   .rcases bZ hdb with⟨rfl,rfl,_⟩|⟨hne,h1'⟩<;>rcases bZ hdb' with⟨rfl,rfl,_⟩|⟨hne',h2'⟩
    .rfl
    .exact hi.inj id _ id' db' g1 g2 h0 rfl rfl h2' hl' hg1 hg2 he
    .exact hi.inj id db id' _ g1 g2 h1' hl hf h0 rfl hg1 hg2 he
    .exact hi.inj id db id' db' g1 g2 h1' hl hf h2' hl' hg1 hg2 he
  have gdY:Gnd P Y:=gd;rcases hc Y _ rfl hiY gdY hrY with⟨h1,h2⟩|⟨v,w',h1,h2⟩
  .exact .inl ⟨h1,h2.mono λe w' ⟨v,he,hv⟩=>⟨v,he,key v w' hv⟩⟩
  .exact .inr ⟨v,w',h1,key v w' h2⟩
theorem zOD{x:PV}
 (hc:aA P f [.c (.ptr 0 0),.c (.p x)] [.box c0] λd h'=>d=r/\h'=[.box c1])
 (h0:h[i]?=some (.box c0))(hd:(c0.all HF && (c1.all HF && zCN r))=true)(hk:K r (h.set i (.box c1))):
  aA P f [.c (.ptr i 0),.c (.p x)] h K:=aA.box (ps:=[x]) hc h0 hd hk
end Go.Dm
end
section
namespace Go.Dm
open Go
section
variable {P:Program}{T:Tab}{X0:Ctx}{Q:Exit->DS->Prop}
variable {c x y:Code}{s:DS}{id:Nat}{h:aB}
theorem ZQ(i id off len:Nat){x:PV}(hl:look s.t i=.c (.own id off len))(hp:PT s.h (.own id off len)=some x)
 (h:SWP P X0 c ⟨s.n,(i,.c (.p x))::s.t,rL s.h [id]⟩ Q):SWP P X0 c s Q:=by
 intro gd X a hh hi hs ht;obtain⟨X',h1,h2,h3,h4,h5,h6⟩:=jJ [id] hi;rw[<- h1];refine h gd X' a (by rw[h2,hh]) h5 (hs.trans hi h4) ⟨ht.size,λj=>?_,ht.defs⟩;simp only[look];split
 .rename_i hij;subst hij;have:=ht.rel j;rw[hl] at this;simp only[bA] at this;simp only[bA,bV];exact qK hi h4 h1 this (by rw[hh];exact hp) h6
 .exact(ht.rel j).step h4
def WkS(P:Program)(X0:Ctx)(s s':DS):Prop:=∀(c:Code) (Q:Exit->DS->Prop),SWP P X0 c s' Q->SWP P X0 c s Q
def zBp{α:Type}(P:Program)(X0:Ctx)(I:α->DS)(J:α->Prop)(Q:Exit->DS->Prop):Exit->DS->Prop:=λe s'=>match e with
 | .normal=>∃y,J y/\WkS P X0 s' (I y)
 | e=>Q e s'
theorem yL(hT:bF P T)(hm:P.follows .mixedOrders=true){α:Type}(I:α->DS)(J:α->Prop)(h1:vc P T X0 x s (zBp P X0 I J Q))
 (h2:∀a,J a->SWP P X0 y (I a) Q):SWP P X0 (.seq x y) s Q :=
 CH (gI (dX hT hm x h1) λe s' hq=>by
  cases e<;>simp only[zBp] at hq ⊢
  case normal =>
   obtain⟨a,ha,hw⟩:=hq;exact hw _ _ (h2 a ha)
  all_goals exact hq)
theorem qj_e{α:Type}{I:α->DS}{J:α->Prop}:zBp P X0 I J Q (.exit id) s=Q (.exit id) s:=nr rfl
theorem qj_r{α:Type}{I:α->DS}{J:α->Prop}:zBp P X0 I J Q .ret s=Q .ret s:=nr rfl
theorem zO8{α:Type}{I:α->DS}{J:α->Prop}(y:α)(h1:J y)(h3:DR X0.h.length s (I y)):zBp P X0 I J Q .normal s:=⟨y,h1,λ_ _ h=>ZR h3 h⟩
def WL(P:Program)(X0:Ctx)(y:Code)(Q:Exit->DS->Prop):Exit->DS->Prop:=λe s'=>match e with
 | .normal=>SWP P X0 y s' Q
 | e=>Q e s'
theorem cC(hT:bF P T)(hm:P.follows .mixedOrders=true)(h1:vc P T X0 x s (WL P X0 y Q)):SWP P X0 (.seq x y) s Q :=
 CH (gI (dX hT hm x h1) λe s' hq=>by
  cases e<;>simp only[WL] at hq ⊢<;>exact hq)
theorem qf_n: WL P X0 y Q .normal s=SWP P X0 y s Q:=nr rfl
theorem qf_e: WL P X0 y Q (.exit id) s=Q (.exit id) s:=nr rfl
theorem qf_r: WL P X0 y Q .ret s=Q .ret s:=nr rfl
attribute [go_sem] qj_e qj_r qf_n qf_e qf_r
theorem ZA{k n:Nat}{es:List (List PV)}{ro:Bool}(h0:h[id]?=some (.arr k es ro))(hn:es.length=n):PT h (.own id 0 n)=some (.sl k es):=by
 subst hn;simp[PT,h0]
theorem zO2 {f:FuncId} {fn:Func} {args:List DV} {R:DV->aB->Prop} (hT:bF P T) (hf:P.funcs[f]?=some fn) (hb:fn.body=some c)
 (hc:(Nat.ble args.length fn.ntmps && !(fn.name == "runtime.NumGoroutine"))=true)
 (hs:∀X0:Ctx,X0.h=h->SWP P X0 c ⟨fn.ntmps,kH 0 args,h⟩ (XH T h.length fn.results.toList R)):aA P f args h R:=by
 simp only[Bool.and_eq_true,Bool.not_eq_true'] at hc;refine fN hT hf hb (Nat.le_of_ble_eq_true hc.1) hc.2 λX0 hX=>?_;rw[gJ];exact gI (hs X0 hX) λe s=>CO
end
end Go.Dm
end
end
section
namespace Go.Dm
open Go
section
section
variable {P:Program}{T:Tab}{X0:Ctx}{Q:Exit->DS->Prop}
variable {id:Nat}{c:Code}{s:DS}
theorem zBX(h:SWP P X0 c s (mT id Q)):SWP P X0 (.block id c) s Q :=
 RM (gI h λe s' hq=>by cases e<;>simp only[mT] at hq ⊢<;>exact hq)
theorem jF(hT:bF P T)(hm:P.follows .mixedOrders=true)(h:vc P T X0 c s Q):SWP P X0 c s Q:=dX hT hm c h
theorem uO{y:Code}(h:SWP P X0 c s (mT id (WL P X0 y Q))):SWP P X0 (.seq (.block id c) y) s Q :=
 CH (gI (zBX h) λe s' hq=>by cases e<;>simp only[WL] at hq ⊢<;>exact hq)
theorem tN{α:Type}(I:α->DS)(J:α->Prop)(μ:α->Nat)(x0:α)(hJ:J x0)(hw:xA X0.h.length s (I x0))
 (h:∀x,J x->SWP P X0 c (I x) (wS X0.h.length I J μ x Q)):SWP P X0 (.loop c) s Q:=by
 intro gd X a hh hi hs ht;obtain⟨X',h1,h2,h3,h4,h5⟩:=hw.use rfl hh hi hs ht;rw[<- h1];refine wp_loop_ghost (λn a w=>∃x X,μ x=n/\J x/\X.w=w/\X.h=(I x).h/\HInv X/\Step X0 X/\TInv X (I x) a) (μ x0) ⟨x0,X',rfl,hJ,rfl,h2,h3,h4,h5⟩ ?_;rintro n a' w' ⟨x,Y,rfl,k1,rfl,k2,k3,k4,k5⟩;refine wp_mono (h x k1 gd Y a' k2 k3 k4 k5) λe a w hp=>?_;obtain⟨s',Z,p1,rfl,p3,p4,p5,p6⟩:=hp;cases e<;>simp only[Exit.then,wS] at p1 ⊢
 case normal =>
  obtain⟨y,q1,q2,q3⟩:=p1;obtain⟨Z',r1,r2,r3,r4,r5⟩:=q3.use rfl p3 p4 p5 p6;exact⟨μ y,q2,y,Z',rfl,q1,r1,r2,r3,r4,r5⟩
 all_goals exact⟨s',Z,p1,rfl,p3,p4,p5,p6⟩
end
theorem yU:bytesOf []=some []:=rfl
attribute [go_sem] yU
end
section
variable {w:World}{S:Nat->Prop}{k bl:Nat}{v:Value}
def wkQ(x y:PV):Prop:=wkP x y∨∃k es es',x=.sl k es/\y=.sl k es'/\lG es es'
def zKP: List PV->List PV->Prop
 | [],[]=>True
 | x::xs,y::ys=>wkQ x y/\zKP xs ys
 | _,_=>False
def sG: List (List PV)->List (List PV)->Prop
 | [],[]=>True
 | e::es,f::fs=>zKP e f/\sG es fs
 | _,_=>False
theorem zKP.len: ∀{e f:List PV},zKP e f->f.length=e.length
 | [],[],_=>rfl
 | _::_,_::_,h=>by simp[zKP.len h.2]
 | [],_::_,h=>h.elim
 | _::_,[],h=>h.elim
theorem sG.len: ∀{e f:List (List PV)},sG e f->f.length=e.length
 | [],[],_=>rfl
 | _::_,_::_,h=>by simp[sG.len h.2]
 | [],_::_,h=>h.elim
 | _::_,[],h=>h.elim
theorem WN{es es':List (List PV)}(hw:lG es es')(hr:dF w S (.sl k es) v):dF w S (.sl k es') v:=by
 simp only[dF] at hr ⊢;obtain⟨a,c,h1,h2,h3⟩:=hr;refine⟨a,c,by rw[hw.len];exact h1,by rw[hw.len];exact h2,?_⟩
 rcases h3 with h3|⟨bl,off,h4,h5,h6⟩
 .left;subst h3;exact List.eq_nil_of_length_eq_zero hw.len
 .exact .inr ⟨bl,off,h4,h5,hw.relL h6⟩
theorem wkQ.relP{x y:PV}(h:wkQ x y)(hr:dF w S x v):dF w S y v:=by
 rcases h with h|⟨k,es,es',rfl,rfl,h⟩
 .exact h.relP hr
 .exact WN h hr
theorem zKP.relE: ∀{e f:List PV} {off:Nat},zKP e f->gW w S bl off e->gW w S bl off f
 | [],[],_,_,_=>True.intro
 | _::_,_::_,_,h,⟨⟨v,h1,h2⟩,h3⟩=>⟨⟨v,h1,h.1.relP h2⟩,zKP.relE h.2 h3⟩
 | [],_::_,_,h,_=>h.elim
 | _::_,[],_,h,_=>h.elim
theorem sG.relL: ∀{e f:List (List PV)} {off:Nat},sG e f->fC w S k bl off e->fC w S k bl off f
 | [],[],_,_,_=>True.intro
 | _::_,_::_,_,h,⟨⟨h1,h2⟩,h3⟩=>⟨⟨h.1.len.trans h1,h.1.relE h2⟩,sG.relL h.2 h3⟩
 | [],_::_,_,h,_=>h.elim
 | _::_,[],_,h,_=>h.elim
end
theorem OkE.nil:OkE []:=⟨λx hx=>(by cases hx),List.Pairwise.nil,List.Pairwise.nil,λx hx=>(by cases hx),by decide⟩
structure Nm where
 n:List UInt8
 l:Int
def aV(l:List Nm):List (List PV):=l.map λx=>[.s x.n,.i .i64 x.l]
theorem fF(l:List Nm):(aV l).length=l.length:=by simp[aV]
theorem zDK:aV []=[]:=rfl
theorem jV{l:List Nm}{k:Nat}{x:Nm}(h:l[k]?=some x):(aV l).getD k []=[.s x.n,.i .i64 x.l]:=by
 simp only[aV,List.getD_eq_getElem?_getD,List.getElem?_map,h];rfl
theorem MN(l:List Nm):(∀x∈aV l,x.length=2)=True:=eq_true λx hx=>by
 obtain⟨y,_,rfl⟩:=List.mem_map.1 hx;rfl
theorem zAC(a:List Nm)(n:Nat):(aV a).take n=aV (a.take n):=by simp[aV]
theorem zAA(a:List Nm)(n:Nat):(aV a).drop n=aV (a.drop n):=by simp[aV]
theorem zDJ(a b:List Nm):aV a++aV b=aV (a++b):=by simp[aV]
theorem zAB(t:List Nm)(n:List UInt8)(i:Int):aV t++[[.s n,.i .i64 i]]=aV (t++[⟨n,i⟩]):=by simp[aV]
theorem zDL(t:List Nm)(k:Nat)(n:List UInt8)(i:Int):(aV t).set k [.s n,.i .i64 i]=aV (t.set k ⟨n,i⟩):=by simp[aV,List.map_set]
theorem zOh(x:Nm):Nm.mk x.n x.l=x:=rfl
def lH:List (Int × List En)->Int->List En
 | [],_=>[]
 | e::es,n=>if e.1=n then e.2 else lH es n
def oI:List (Int × List En)->Int->List En->List (Int × List En)
 | [],n,x=>[(n,x)]
 | e::es,n,x=>if e.1=n then (n,x)::es else e::oI es n x
def jI(l:List (Int × List En)):List (Int × PV):=l.map λe=>(e.1,.sl 7 (gD e.2))
theorem zHW:jI []=[]:=rfl
theorem MM:∀(l:List (Int × List En)) (n:Int),oG (jI l) n (.sl 7 [])=.sl 7 (gD (lH l n))
 | [],_=>rfl
 | e::es,n=>by
  simp only[jI,List.map_cons,oG,lH];split
  .rfl
  .exact MM es n
theorem YD:∀(l:List (Int × List En)) (n:Int) (x:List En),CX (jI l) n (.sl 7 (gD x))=jI (oI l n x)
 | [],_,_=>rfl
 | e::es,n,x=>by
  simp only[jI,List.map_cons,CX,oI];split
  .rfl
  .exact congrArg _ (YD es n x)
theorem tY:∀(l:List (Int × List En)) (n:Int) (x:List En),lH (oI l n x) n=x
 | [],n,x=>by simp[oI,lH]
 | e::es,n,x=>by
  simp only[oI];split
  .simp[lH]
  .rename_i h;simp only[lH];rw[if_neg h];exact tY es n x
theorem qJ:∀(l:List (Int × List En)) {n m:Int} (x:List En),m≠n->lH (oI l n x) m=lH l m
 | [],n,m,x,h=>by simp[oI,lH,Ne.symm h]
 | e::es,n,m,x,h=>by
  simp only[oI];split
  .rename_i h1;simp only[lH];rw[if_neg (Ne.symm h),if_neg (by rw[h1];exact Ne.symm h)]
  .simp only[lH];rw[qJ es x h]
structure Rm where
 N:List Nm
 L:List Ly
 E:List (Int × List En)
 x:Int
def nQ(r:Rm)(id:Int):List (List En):=(bN r.L id).map (lH r.E)
def HS(r:Rm)(id:Int):List It × Bool:=oT [] (nQ r id)
def treeR(r:Rm)(id:Int):List It:=(HS r id).1
theorem zAF{r:Rm}(hg:OkG r.L)(T:Int->List It)(h0:T 0=[])(hok:∀x∈r.L,OkT (T x.i))(hE:∀x∈r.L,lH r.E x.i=eG (T x.p) (T x.i)):∀(k:Nat) {x:Ly},r.L[k]?=some x->HS r x.i=(T x.i,true):=by
 intro k
 induction k using Nat.strongRecOn with
 | ind k ih =>
  intro x hx;have hm:=List.mem_of_getElem? hx;have key:oT [] ((bN r.L x.p).map (lH r.E))=(T x.p,true)/\OkT (T x.p):=by
   rcases hg.par k x hx with hp|⟨j,y,h1,h2,h3,_⟩
   .rw[hp,qA hg.lo1,h0];exact⟨rfl,OkT.nil⟩
   .rw[<- h3];exact⟨ih j h1 h2,hok y (List.mem_of_getElem? h2)⟩
  unfold HS nQ;rw[hg.step hm,List.map_append,List.map_cons,List.map_nil,EK,key.1,if_pos rfl,hE x hm,zFl key.2 (hok x hm),if_pos rfl]
attribute [go_sem] fF zDK MN zAC zAA zDJ zAB zDL zOh zHW MM YD
section
section
variable {P:Program}{T:Tab}{X0:Ctx}
structure RInvF (P:Program) (X0:Ctx) (ops:Array Oper) (n:Nat) (chain:List Nat) (f:Nat) (V:Nat->DV) (H:Nat->Bool->aB) (t0:Fr) (L:Array Bool) (X:Ctx) (a:Act):Prop where
 size:L.size=ops.size
 closed:zCf ops L
 hh:X.h=H (chain.filter λe=>L.getD e false).length (L.getD f false)
 hi:HInv X
 hs:Step X0 X
 sz:a.tmps.size=n
 defs:a.defers=[]
 relA:∀k j,L.getD k false=true->dM ops k=some j->bA X (V k) (a.tmps.getD j undef)
 relB:∀j,(∀k,L.getD k false=true->dM ops k≠some j)->bA X (look t0 j) (a.tmps.getD j undef)
section plan
variable {ops:Array Oper}{n:Nat}{chain order:List Nat}
end plan
end
end
section
variable {rs:List ResultVar}{R:DV->aB->Prop}{s:DS}{h:aB}{i n:Nat}{P:Program}{f:FuncId}
def v2(h:aB)(R:DV->aB->Prop):DV->DV->Prop
 | .c x,.c y=>R (.tup [.c x,.c y]) h
 | _,_=>False
def zGB(t:Fr)(h:aB)(R:DV->aB->Prop):List ResultVar->Prop
 | [.tmp i,.tmp j]=>v2 h R (look t i) (look t j)
 | _=>False
def zKM(rs:List ResultVar)(R:DV->aB->Prop):Exit->DS->Prop
 | .normal,s=>zGB s.t s.h R rs
 | .ret,s=>zGB s.t s.h R rs
 | _,_=>False
theorem zJR: zKM rs R .normal s=zGB s.t s.h R rs:=nr rfl
theorem zJS: zKM rs R .ret s=zGB s.t s.h R rs:=nr rfl
theorem zGC{t:Fr}{j:Nat}:zGB t h R [.tmp i,.tmp j]=v2 h R (look t i) (look t j):=nr rfl
theorem v2_c{x y:CV}:v2 h R (.c x) (.c y)=R (.tup [.c x,.c y]) h:=nr rfl
attribute [go_sem] zJR zJS zGC v2_c
def zEL(i n:Nat):Option PV->DV
 | some x=>.c (.p x)
 | none=>.c (.own i 0 n)
theorem JF{X Y:Ctx}(hw:Y.w=X.w)(hS:Y.S=X.S)(ho:∀v,bA X (.c (.own i 0 n)) v->bA Y (.c (.own 0 0 n)) v):∀{L:List (Option PV)} {vs:List Value},dL X (L.map (zEL i n)) vs->dL Y (L.map (zEL 0 n)) vs
 | [],[],_=>True.intro
 | none::_,_::_,h=>⟨ho _ h.1,JF hw hS ho h.2⟩
 | some _::_,_::_,h=>⟨xR (X:=X) (Y:=Y) hw hS rfl h.1,JF hw hS ho h.2⟩
 | [],_::_,h=>h.elim
 | none::_,[],h=>h.elim
 | some _::_,[],h=>h.elim
theorem aA.lent{k:Nat}{es:List (List PV)}(L:List (Option PV)){r:DV}{K:DV->aB->Prop}
 (hc:aA P f (L.map (zEL 0 n)) [.arr k es false] λd h'=>d=r/\h'=[.arr k es false])
 (h0:h[i]?=some (.arr k es false))(hdr:zCN r=true)(hk:K r h):
  aA P f (L.map (zEL i n)) h K:=by
 intro X vals hh hi gd hr;subst hh;have hlt:=aH h0;have hb0:=hi.blk i _ h0
 let Y:Ctx:=⟨X.w,X.S,λj=>if j=0 then X.G i else none,[.arr k es false]⟩
 have at0:∀{id:Nat} {db:DB},Y.h[id]?=some db->id=0/\db=.arr k es false:=λ{id db} h=>by
  cases id with
  | zero=>simp only[Y,List.getElem?_cons_zero,Option.some.injEq] at h;exact⟨rfl,h.symm⟩
  | succ n=>simp[Y] at h
 have hiY:HInv Y:=by
  refine⟨hi.slt,λid db hdb=>?_,λid db g' hdb hl hg'=>?_,λid db id' db' g1 g2 hdb _ _ hdb' _ _ _ _=>?_⟩
  .obtain⟨rfl,rfl⟩:=at0 hdb;simpa only[eC,Y,if_true] using hb0
  .obtain⟨rfl,rfl⟩:=at0 hdb;have hg2:X.G i=some g':=by simpa[Y] using hg'
   exact hi.own i _ g' h0 rfl hg2
  .obtain⟨rfl,_⟩:=at0 hdb;obtain⟨rfl,_⟩:=at0 hdb';rfl
 have hrY:dL Y (L.map (zEL 0 n)) vals:=JF (X:=X) (Y:=Y) rfl rfl (λv hv=>by
  simp only[bA,bV] at hv ⊢;obtain⟨_,hv1,hv2⟩:=hv;refine⟨by simp[Y],hv1,λk' es' ro' he=>?_⟩
  obtain⟨_,e⟩:=at0 he;cases e;have:=hv2 _ _ _ h0;simpa only[Y,if_true] using this) hr
 have key:∀v w',Ret Y (λd h'=>d=r/\h'=[.arr k es false]) v w'->Ret X K v w':=by
  rintro v w' ⟨d,Z,h1,h2,h3,h4,rfl,h5⟩;have hZ0:Z.h[0]?=some (.arr k es false):=by rw[h5];rfl
  obtain⟨db,e1,e2,e3,e4⟩:=h3.ids 0 _ (by simp[Y]) hZ0 rfl;have hGZ:Z.G 0=X.G i:=by simpa[Y] using e3
  have e4:∀g,X.G i=some g->uV (X.w.heap[g.1]?) (Z.w.heap[g.1]?):=λg hg=>e4 g (by simpa[Y] using hg);have hfr:∀b,b<X.w.heap.size->(∀g,X.G i=some g->b≠g.1)->Z.w.heap[b]?=X.w.heap[b]? := λb hb hne=>h3.frame b hb λid db g' hdb hl hf hg'=>by
   obtain⟨rfl,_⟩:=at0 hdb;have hg2:X.G i=some g':=by simpa[Y] using hg'
   exactλe=>hne g' hg2 e.symm
  have apart:∀{id:Nat} {db:DB} {g':Nat × Nat},id≠i->X.h[id]?=some db->db.live=true->X.G id=some g'->∀g,X.G i=some g->g'.1≠g.1:=λ{id db g'} hne h' hl hg' g hg e=>hne (hi.inj i _ id db g g' h0 rfl rfl h' hl hg hg' e.symm).symm;have hst:Step X ⟨Z.w,Z.S,X.G,X.h⟩:=by
   refine⟨h3.size,h3.os,h3.tape,h3.output,h3.kept,Nat.le_refl _,λid db' hl' hdb' hlv=>⟨db',hdb',cG.refl hlv,rfl,λg' hg'=>?_⟩,λb hb hno=>hfr b hb λg hg e=>hno i _ g h0 rfl rfl hg e.symm,λid db g' hdb hl hf hg'=>.inr ⟨id,db,g',hdb,hl,hf,hg',rfl⟩,λb hb=>?_⟩
   .by_cases hne:id=i
    .subst hne;exact e4 g' hg'
    .rw[show Z.w.heap[g'.1]?=X.w.heap[g'.1]? from hfr _ (hi.block_lt hdb' hlv hg') (apart hne hdb' hlv hg')]
     exact(hi.blk id db' hdb').same hlv g' hg'
   .rcases h3.upper b hb with h|h|⟨id,db,g',hdb,hl,hg',e⟩
    .exact .inl h
    .exact .inr (.inl h)
    .obtain⟨rfl,_⟩:=at0 hdb;have hg2:X.G i=some g':=by simpa[Y] using hg'
     exact .inr (.inr ⟨i,_,g',h0,rfl,hg2,e⟩)
  refine⟨d,⟨Z.w,Z.S,X.G,X.h⟩,h1,⟨h2.slt,λid db hdb=>?_,λid db g' hdb hl hg'=>?_,λid db id' db' g1 g2 hdb hl hf hdb' hl' hg1 hg2 he=>hi.inj id db id' db' g1 g2 hdb hl hf hdb' hl' hg1 hg2 he⟩,hst,TD hdr h4,hk⟩
  .by_cases hne:id=i
   .subst hne;have hdb2:X.h[id]?=some db:=hdb;rw[h0] at hdb2;cases hdb2;have:=h2.blk 0 _ hZ0;simp only[eC,hGZ] at this ⊢;exact this
   .by_cases hl:db.live=true
    .exact(hi.blk id db hdb).move hst rfl λg' hg'=>hfr _ (hi.block_lt hdb hl hg') (apart hne hdb hl hg')
    .cases db with
     | dead=>simp only[eC]
     | box _=>exact absurd rfl hl
     | arr _ _ _=>exact absurd rfl hl
     | mp _=>exact absurd rfl hl
  .by_cases hne:id=i
   .subst hne;have hdb2:X.h[id]?=some db:=hdb;rw[h0] at hdb2;cases hdb2;exact h2.own 0 _ g' hZ0 rfl (by rw[hGZ];exact hg')
   .have ho:=hi.own id db g' hdb hl hg';refine⟨λhf hS=>?_,λhf=>(h3.kept _ (ho.2 hf)).1⟩;rcases h3.upper _ hS with h|h|⟨j,d',g2,hdb2,hl2,hg2,e⟩
    .exact ho.1 hf h
    .have:=hi.block_lt hdb hl hg';have hYw:Y.w.heap.size=X.w.heap.size:=rfl;omega
    .obtain⟨rfl,_⟩:=at0 hdb2;have hg3:X.G i=some g2:=by simpa[Y] using hg2
     exact apart hne hdb hl hg' g2 hg3 e.symm
 have gdY:Gnd P Y:=gd;rcases hc Y _ rfl hiY gdY hrY with⟨h1,h2⟩|⟨v,w',h1,h2⟩
 .exact .inl ⟨h1,h2.mono λe w' ⟨v,he,hv⟩=>⟨v,he,key v w' hv⟩⟩
 .exact .inr ⟨v,w',h1,key v w' h2⟩
theorem aA.wkA{args args':List DV}(hw:zGV args args')(hc:aA P f args' h R):aA P f args h R :=
 λX vals hh hi gd hr=>hc X vals hh hi gd (zGV.rel hw hr)
end
end Go.Dm
end
