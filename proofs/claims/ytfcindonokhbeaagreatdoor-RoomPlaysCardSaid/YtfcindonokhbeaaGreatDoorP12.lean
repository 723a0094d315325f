/- Part 13 of roomPlays_card. No condition. -/
import Derived.Test.YtfcindonokhbeaaGreatDoorP11
set_option linter.all false
set_option maxRecDepth 100000
set_option maxHeartbeats 0
section
section
namespace Go.Dm
open Go
section
variable {n i k bl:Nat}{rs:List ResultVar}{R:Bd}{s:DS}{t:Fr}{h:aF}{P:Program}{T:Tab}{f:FuncId}{fn:Func}{c:Code}{args:Bi}{w:World}{S:Nat->Prop}
def vO(n:Nat)(h:aF)(R:Bd):DV->Prop
 | .c (.own id a len)=>a=0/\n<=id/\(h.take n).all (cG n)=true/\∃k b,h[id]?=some (.arr k b false)/\R (.c (.own n 0 len)) (h.take n++[.arr k b false])
 | _=>False
def zBH(n:Nat)(t:Fr)(h:aF)(R:Bd):List ResultVar->Prop
 | [.tmp i]=>vO n h R (look t i)
 | _=>False
def zCY(n:Nat)(rs:List ResultVar)(R:Bd):Be
 | .normal,s=>zBH n s.t s.h R rs
 | .ret,s=>zBH n s.t s.h R rs
 | _,_=>False
theorem zNL: zCY n rs R .normal s=zBH n s.t s.h R rs:=nr rfl
theorem zNM: zCY n rs R .ret s=zBH n s.t s.h R rs:=nr rfl
theorem zJ8: zBH n t h R [.tmp i]=vO n h R (look t i):=nr rfl
attribute [go_sem] zNL zNM zJ8
theorem zSW{d:DV}(a:vO n h R d):Fin n h d R:=by
 unfold vO at a;split at a
 .obtain⟨rfl,b,e,k,g,j,l⟩:=a;exact .inr (.inr ⟨_,_,k,g,rfl,b,j,e,l⟩)
 .simp_all
theorem zTy (j:bQ P T) (o:P.follows .mixedOrders=true) (a:P.funcs[f]?=some fn) (p:fn.body=some c)
 (d:(Nat.ble args.length fn.ntmps && !(fn.name == "runtime.NumGoroutine"))=true)
 (q:∀X0:Ctx,X0.h=h->vc P T X0 c ⟨fn.ntmps,mV 0 args,h⟩ (zCY h.length fn.results.toList R)):aA P f args h R:=by
 simp only[bn,dg] at d;refine hZ j a p (gk d.1) d.2 λX0 u=>?_;rw[iR];refine iP (eN j o c (q X0 u)) λe s l=>?_;have g:zBH h.length s.t s.h R fn.results.toList->BK T h.length fn.results.toList R .normal s/\BK T h.length fn.results.toList R .ret s:=by
  intro b;generalize fn.results.toList=rs at b;unfold zBH at b;split at b
  .rename_i i;have a:=zSW b;have:∃x,look s.t i=.c x:=by
    unfold vO at b;grind
   obtain⟨x,m⟩:=this;rw[m] at a;simp only[BK,rG,m];exact⟨a,a⟩
  .simp_all
 cases e<;>simp only[zCY] at l
 case normal=>exact(g l).1
 simp_all
theorem zEX{args':Bi}{K:Bd}{es:Bc}(b:aA P f args' [] λd a=>d=.c (.own 0 0 n)/\a=[.arr k es false])(e:jI h args=some args')
 (g:K (.c (.own h.length 0 n)) (uM h (nN args)++[.arr k es false])):aA P f args h K :=
 (aA.frame h e b).mono λd a ⟨d0,j,⟨l,m⟩,o,p⟩=>by
  grind [DV.sh,CV.sh,DB.sh]
def vR(h:aF)(R:Bd):DV->Prop
 | .c x=>R (.c x) h
 | _=>False
def zBI(t:Fr)(h:aF)(R:Bd):List ResultVar->Prop
 | [.tmp i]=>vR h R (look t i)
 | _=>False
def zCZ(rs:List ResultVar)(R:Bd):Be
 | .normal,s=>zBI s.t s.h R rs
 | .ret,s=>zBI s.t s.h R rs
 | _,_=>False
theorem zNN: zCZ rs R .normal s=zBI s.t s.h R rs:=nr rfl
theorem zNO: zCZ rs R .ret s=zBI s.t s.h R rs:=nr rfl
theorem zJ9: zBI t h R [.tmp i]=vR h R (look t i):=nr rfl
theorem vR_c{x:CV}:vR h R (.c x)=R (.c x) h:=nr rfl
attribute [go_sem] zNN zNO zJ9 vR_c
theorem VN (g:bQ P T) (l:P.follows .mixedOrders=true) (m:P.funcs[f]?=some fn) (o:fn.body=some c)
 (b:(Nat.ble args.length fn.ntmps && !(fn.name == "runtime.NumGoroutine"))=true)
 (p:∀X0:Ctx,X0.h=h->vc P T X0 c ⟨fn.ntmps,mV 0 args,h⟩ (zCZ fn.results.toList R)):aA P f args h R:=by
 simp only[bn,dg] at b;refine hZ g m o (gk b.1) b.2 λX0 q=>?_;rw[iR];refine iP (eN g l c (p X0 q)) λe s j=>?_;have d:zBI s.t s.h R fn.results.toList->BK T h.length fn.results.toList R .normal s/\BK T h.length fn.results.toList R .ret s:=by
  intro a;generalize fn.results.toList=rs at a;unfold zBI at a;split at a
  .rename_i i;unfold vR at a;split at a
   .rename_i x u;simp only[BK,rG,u];exact⟨.inl a,.inl a⟩
   .simp_all
  .simp_all
 cases e<;>simp only[zCZ] at j
 case normal=>exact(d j).1
 simp_all
def zNS: List PV->List PV->Prop
 | [],[]=>True
 | x::a,y::b=>wkP x y/\zNS a b
 | _,_=>False
def nL: Bc->Bc->Prop
 | [],[]=>True
 | e::a,f::b=>zNS e f/\nL a b
 | _,_=>False
theorem zNS.len: ∀{e f:List PV},zNS e f->f.length=e.length
 | [],[],_=>rfl
 | _::_,_::_,h=>by simp[zNS.len h.2]
 | [],_::_,h=>h.elim
 | _::_,[],h=>h.elim
theorem nL.len: ∀{e f:Bc},nL e f->f.length=e.length
 | [],[],_=>rfl
 | _::_,_::_,h=>by simp[nL.len h.2]
 | [],_::_,h=>h.elim
 | _::_,[],h=>h.elim
theorem wkP.relP{x y:PV}{v:Value}(h:wkP x y)(a:dO w S x v):dO w S y v:=by
 rcases h with rfl|⟨rfl,k,rfl⟩
 .exact a
 .grind [dO.nilOf]
theorem zNS.relE: ∀{e f:List PV} {off:Nat},zNS e f->jC w S bl off e->jC w S bl off f
 | [],[],_,_,_=>by omega
 | _::_,_::_,_,h,⟨⟨v,a,b⟩,d⟩=>⟨⟨v,a,h.1.relP b⟩,zNS.relE h.2 d⟩
 | [],_::_,_,h,_=>h.elim
 | _::_,[],_,h,_=>h.elim
theorem nL.relL: ∀{e f:Bc} {off:Nat},nL e f->hD w S k bl off e->hD w S k bl off f
 | [],[],_,_,_=>by omega
 | _::_,_::_,_,h,⟨⟨a,b⟩,d⟩=>⟨⟨h.1.len.trans a,h.1.relE b⟩,nL.relL h.2 d⟩
 | [],_::_,_,h,_=>h.elim
 | _::_,[],_,h,_=>h.elim
end
section
variable {X Y:Ctx}{v:Value}{bl i:Nat}{G:Nat->Option (Nat × Nat)}{h:aF}{P:Program}{f:FuncId}{c0 c1:Bf}{r:DV}{K:Bd}
def NT: CV->Bool
 | .p _=>true
 | _=>false
def zTg: EV->Bool
 | .c x=>NT x
 | .agg a=>a.all NT
def zFT: DV->Bool
 | .jk=>true
 | .c x=>NT x
 | .agg a=>a.all NT
 | .tup a=>a.all zTg
theorem CC(b:Y.w=X.w)(d:Y.S=X.S){x:CV}(a:NT x=true)(h:cJ X x v):cJ Y x v:=by
 cases x<;>simp only[NT] at a
 .grind [cJ]
 all_goals cases a
theorem DR(d:Y.w=X.w)(e:Y.S=X.S):∀{a:Bf} {vs:Bb},a.all NT=true->bP X a vs->bP Y a vs
 | [],[],_,_=>True.intro
 | _::_,_::_,b,h=>by
  simp only[dz,bn] at b;exact⟨CC d e b.1 h.1,DR d e b.2 h.2⟩
 | [],_::_,_,h=>h.elim
 | _::_,[],_,h=>h.elim
theorem zKO(b:Y.w=X.w)(d:Y.S=X.S){x:EV}(a:zTg x=true)(h:fK X x v):fK Y x v:=by
 cases x<;>simp only[zTg] at a<;>simp only[fK] at h ⊢
 .grind [CC]
 .grind [DR]
theorem TF(d:Y.w=X.w)(e:Y.S=X.S):∀{a:Bj} {vs:Bb},a.all zTg=true->cY X a vs->cY Y a vs
 | [],[],_,_=>True.intro
 | _::_,_::_,b,h=>by
  simp only[dz,bn] at b;exact⟨zKO d e b.1 h.1,TF d e b.2 h.2⟩
 | [],_::_,_,h=>h.elim
 | _::_,[],_,h=>h.elim
theorem CD(b:Y.w=X.w)(d:Y.S=X.S){x:DV}(a:zFT x=true)(h:bH X x v):bH Y x v:=by
 cases x<;>simp only[zFT] at a<;>simp only[bH] at h ⊢
 .grind [CC]
 .grind [DR]
 .grind [TF]
theorem JZ(a:Y.w=X.w)(d:Y.S=X.S):∀{off:Nat} {cs:Bf},cs.all NT=true->cR X bl off cs->cR Y bl off cs
 | _,[],_,_=>True.intro
 | _,_::_,b,h=>by
  simp only[dz,bn] at b;obtain⟨⟨v,e,g⟩,j⟩:=h;exact⟨⟨v,by rw[a];exact e,CC a d b.1 g⟩,JZ a d b.2 j⟩
theorem YD(a:Y.w=X.w)(b:Y.S=X.S):∀{ps:List PV} {vs:Bb},eC X (ps.map λx=>.c (.p x)) vs->eC Y (ps.map λx=>.c (.p x)) vs
 | [],[],_=>True.intro
 | _::_,_::_,h=>⟨CD a b rfl h.1,YD a b h.2⟩
 | [],_::_,h=>h.elim
 | _::_,[],h=>h.elim
theorem wY{off:Nat}{cs:Bf}(a:cs.all NT=true)(b:cR X bl off cs):cR ⟨X.w,X.S,G,h⟩ bl off cs:=by grind [JZ]
theorem zAs{d:DV}(a:zFT d=true)(b:bH X d v):bH ⟨X.w,X.S,G,h⟩ d v:=by grind [CD]
theorem aA.box{ps:List PV}
 (hc:aA P f (.c (.ptr 0 0)::ps.map λx=>.c (.p x)) [.box c0] λd o=>d=r/\o=[.box c1])
 (C:h[i]?=some (.box c0))(hd:(c0.all NT && (c1.all NT && zFT r))=true)(hk:K r (h.set i (.box c1))):
  aA P f (.c (.ptr i 0)::ps.map λx=>.c (.p x)) h K:=by
 simp only[bn] at hd;obtain⟨hd0,hd1,hdr⟩:=hd;intro X vals hh z gd hr;subst hh;have hlt:=aR C;obtain⟨g,arr,el,fz,E,hb1,hb2,hb3,hb4⟩:=z.blk i _ C
 let Y:Ctx:=⟨X.w,X.S,λj=>if j=0 then some g else none,[.box c0]⟩
 have hiY:HInv Y:=by
  refine⟨z.slt,λid q l=>?_,λid q g' l B a=>?_,λid q H A g1 W l _ _ u _ _ _ _=>?_⟩
  .cases id with
   | zero =>
    simp only[Y,eu,b0] at l;subst l;exact⟨g,arr,el,fz,rfl,hb1,hb2,hb3,wY hd0 hb4⟩
   | succ n=>simp[Y] at l
  .cases id with
   | zero =>
    simp only[Y,eu,b0,az] at l a;subst l;subst a;exact z.own i _ g C rfl E
   | succ n=>simp[Y] at l
  .have L:=aR l;have e2:=aR u;simp only[Y,bw,da] at L e2;omega
 cases vals with
 | nil=>exact hr.elim
 | cons v0 vs =>
  obtain ⟨⟨_,hv1,hv2⟩,hr2⟩:=hr;obtain⟨g',a,rfl⟩:=hv2 _ C;rw[E] at a;cases a;have hrY:eC Y (.c (.ptr 0 0)::ps.map λx=>.c (.p x)) (.pointer (some ⟨g.1,g.2+0,none⟩)::vs) :=
   ⟨⟨Nat.zero_lt_one,rfl,λcells hcells=>⟨g,rfl,rfl⟩⟩,YD (X:=X) (Y:=Y) rfl rfl hr2⟩
  have key:∀v w',Ret Y (λd o=>d=r/\o=[.box c1]) v w'->Ret X K v w':=by
   rintro v w' ⟨d,Z,h1,M,F,h4,rfl,h5⟩;have N:Z.h[0]?=some (.box c1):=by rw[h5];rfl
   obtain ⟨q,L,e2,e3,e4⟩:=F.ids 0 _ (by simp[Y]) N rfl;have hGZ:Z.G 0=some g:=e3;have e4:=e4 g rfl;have O:∀b,b<X.w.heap.size->b≠g.1->Z.w.heap[b]?=X.w.heap[b]? := λb hb m=>F.frame b hb λid q g' l B I a=>by
    have L:=aR l;simp only[Y,bw,da] at L;have:id=0:=qd
    subst this;simp only[Y,az,b0] at a;subst a;exactλe=>m e.symm
   have hst:Step X ⟨Z.w,Z.S,X.G,X.h.set i (.box c1)⟩:=by
    refine⟨F.size,F.os,F.tape,F.output,F.kept,ql,λid A U u J=>?_,λb hb hno=>?_,λid q g' l B I a=>?_,λb hb=>?_⟩
    .rcases cM u with⟨rfl,rfl,_⟩|⟨m,o⟩
     .exact⟨_,C,True.intro,rfl,λg' a=>by rw[E] at a;cases a;exact e4⟩
     .refine⟨A,o,cX.refl J,rfl,λg' a=>?_⟩;rw[show Z.w.heap[g'.1]?=X.w.heap[g'.1]? from O _ (z.block_lt o J a) λe=>m (z.inj i _ id A g g' C rfl rfl o J E a e.symm).symm]
      exact(z.blk id A o).same J g' a
    .exact O b hb λe=>hno i _ g C rfl rfl E e.symm
    .rcases cM l with⟨rfl,rfl,_⟩|⟨m,o⟩
     .exact .inr ⟨id,_,g',C,rfl,rfl,a,rfl⟩
     .exact .inr ⟨id,q,g',o,B,I,a,rfl⟩
    .rcases F.upper b hb with h|h|⟨id,q,g',l,B,a,e⟩
     .exact .inl h
     .exact .inr (.inl h)
     .have L:=aR l;simp only[Y,bw,da] at L;have:id=0:=qd
      subst this;simp only[Y,az,b0] at a;subst a;exact .inr (.inr ⟨i,_,g,C,rfl,E,e⟩)
   refine⟨d,⟨Z.w,Z.S,X.G,X.h.set i (.box c1)⟩,h1,⟨M.slt,λid q l=>?_,λid q g' l B a=>?_,λid q H A g1 W l B I u U V D he=>?_⟩,hst,zAs hdr h4,hk⟩
   .rcases cM l with⟨rfl,rfl,_⟩|⟨m,o⟩
    .obtain⟨g',arr',el',fz',k1,k2,k3,k4,k5⟩:=M.blk 0 _ N;rw[hGZ] at k1;cases k1;exact⟨g,arr',el',fz',E,k2,k3,k4,wY hd1 k5⟩
    .by_cases B:q.live=true
     .exact(z.blk id q o).move hst rfl λg' a=>O _ (z.block_lt o B a) λe=>m (z.inj i _ id q g g' C rfl rfl o B E a e.symm).symm
     .cases q<;>simp_all[DB.live,fI]
   .rcases cM l with⟨rfl,rfl,_⟩|⟨m,o⟩
    .have hgg:g'=g:=by
      have:X.G id=some g':=a;rw[E] at this;cases this;rfl
     subst hgg;exact M.own 0 _ g' N rfl hGZ
    .have ho:=z.own id q g' o B a;refine⟨λI hS=>?_,λI=>(F.kept _ (ho.2 I)).1⟩;rcases F.upper _ hS with h|h|⟨j,d',W,hdb2,hl2,D,e⟩
     .exact ho.1 I h
     .have:=z.block_lt o B a;have hYw:Y.w.heap.size=X.w.heap.size:=rfl;omega
     .have L:=aR hdb2;simp only[Y,bw,da] at L;have:j=0:=qd
      subst this;simp only[Y,az,b0] at D;subst D;exact m (z.inj i _ id q g g' C rfl rfl o B E a e).symm
   .rcases cM l with⟨rfl,rfl,_⟩|⟨m,h1'⟩<;>rcases cM u with⟨rfl,rfl,_⟩|⟨hne',h2'⟩
    .rfl
    .exact z.inj id _ H A g1 W C rfl rfl h2' U V D he
    .exact z.inj id q H _ g1 W h1' B I C rfl V D he
    .exact z.inj id q H A g1 W h1' B I h2' U V D he
  have gdY:Gnd P Y:=gd;rcases hc Y _ rfl hiY gdY hrY with⟨h1,M⟩|⟨v,w',h1,M⟩
  .exact .inl ⟨h1,M.mono λe w' ⟨v,he,hv⟩=>⟨v,he,key v w' hv⟩⟩
  .exact .inr ⟨v,w',h1,key v w' M⟩
theorem zSS{x:PV}
 (a:aA P f [.c (.ptr 0 0),.c (.p x)] [.box c0] λd b=>d=r/\b=[.box c1])
 (e:h[i]?=some (.box c0))(g:(c0.all NT && (c1.all NT && zFT r))=true)(j:K r (h.set i (.box c1))):
  aA P f [.c (.ptr i 0),.c (.p x)] h K:=aA.box (ps:=[x]) a e g j
section
variable {P:Program}{T:Tab}{X0:Ctx}{Q:Be}
end
end
section
variable {P:Program}{T:Tab}{X0:Ctx}{Q:Be}
variable {c x y:Code}{s:DS}{id:Nat}{h:aF}
theorem RY(i id off len:Nat){x:PV}(o:look s.t i=.c (.own id off len))(q:XW s.h (.own id off len)=some x)
 (h:SWP P X0 c ⟨s.n,(i,.c (.p x))::s.t,uM s.h [id]⟩ Q):SWP P X0 c s Q:=by
 intro u X a l d z b;obtain⟨A,m,B,E,e,C,D⟩:=kF [id] d;rw[<- m];refine h u A a (by rw[B,l]) C (z.trans d e) ⟨b.size,λj=>?_,b.defs⟩;simp only[look];split
 .rename_i g;subst g;have:=b.rel j;rw[o] at this;simp only[bH] at this;simp only[bH,cJ];exact qQ d e m this (by rw[l];exact q) D
 .exact(b.rel j).step e
def WkS(P:Program)(X0:Ctx)(s a:DS):Prop:=∀(c:Code) (Q:Be),SWP P X0 c a Q->SWP P X0 c s Q
def zBf{α:Type}(P:Program)(X0:Ctx)(I:α->DS)(J:α->Prop)(Q:Be):Be:=λe a=>match e with
 | .normal=>∃y,J y/\WkS P X0 a (I y)
 | e=>Q e a
theorem mF(d:bQ P T)(g:P.follows .mixedOrders=true){α:Type}(I:α->DS)(J:α->Prop)(h1:vc P T X0 x s (zBf P X0 I J Q))
 (j:∀a,J a->SWP P X0 y (I a) Q):SWP P X0 (.seq x y) s Q :=
 RZ (iP (eN d g x h1) λe o b=>by
  cases e<;>simp only[zBf] at b ⊢
  case normal =>
   obtain⟨a,l,m⟩:=b;exact m _ _ (j a l)
  all_goals exact b)
section
variable {P:Program}{T:Tab}{X0:Ctx}{Q:Be}
end
section
variable {P:Program}{T:Tab}{X0:Ctx}{Q:Be}
end
theorem qj_e{α:Type}{I:α->DS}{J:α->Prop}:zBf P X0 I J Q (.exit id) s=Q (.exit id) s:=nr rfl
theorem qj_r{α:Type}{I:α->DS}{J:α->Prop}:zBf P X0 I J Q .ret s=Q .ret s:=nr rfl
theorem zRh{α:Type}{I:α->DS}{J:α->Prop}(y:α)(h1:J y)(a:SF X0.h.length s (I y)):zBf P X0 I J Q .normal s:=⟨y,h1,λ_ _ h=>SA a h⟩
section
variable {P:Program}{T:Tab}{X0:Ctx}{Q:Be}
end
section
variable {P:Program}{T:Tab}{X0:Ctx}{Q:Be}
theorem zI1{α:Type}{I:α->DS}{J:α->Prop}{s:DS}(y:α)(i id off len:Nat){x:PV}(h1:J y)(a:look s.t i=.c (.own id off len))(b:XW s.h (.own id off len)=some x)
  (d:SF X0.h.length ⟨s.n,(i,.c (.p x))::s.t,uM s.h [id]⟩ (I y)):zBf P X0 I J Q .normal s:=⟨y,h1,λ_ _ h=>RY i id off len a b (SA d h)⟩
end
def zBg(P:Program)(X0:Ctx)(y:Code)(Q:Be):Be:=λe a=>match e with
 | .normal=>SWP P X0 y a Q
 | e=>Q e a
theorem bE(b:bQ P T)(d:P.follows .mixedOrders=true)(h1:vc P T X0 x s (zBg P X0 y Q)):SWP P X0 (.seq x y) s Q :=
 RZ (iP (eN b d x h1) λe g a=>by
  cases e<;>simp only[zBg] at a ⊢<;>exact a)
theorem qf_n: zBg P X0 y Q .normal s=SWP P X0 y s Q:=nr rfl
theorem qf_e: zBg P X0 y Q (.exit id) s=Q (.exit id) s:=nr rfl
theorem qf_r: zBg P X0 y Q .ret s=Q .ret s:=nr rfl
attribute [go_sem] qj_e qj_r qf_n qf_e qf_r
theorem iD{k n:Nat}{es:Bc}{a:Bool}(b:h[id]?=some (.arr k es a))(d:es.length=n):XW h (.own id 0 n)=some (.sl k es):=by grind [XW]
section
variable {P:Program}{T:Tab}{X0:Ctx}{Q:Be}
theorem zT6{f:FuncId}{h:aF}{args:Bi}{n k:Nat}{es:Bc}{K:Bd}
  (b:aA P f args [] λd a=>d=.c (.own 1 0 n)/\a=[.dead,.arr k es false])
  (e:jI h args=some args)(g:nN args=[])(j:K (.c (.own (h.length+1) 0 n)) (h++[.dead,.arr k es false])):aA P f args h K:=by
 refine aA.mono (aA.frame h e b) λd a l=>?_;obtain⟨d0,p,⟨rfl,rfl⟩,rfl,rfl⟩:=l;rw[g];have m:DV.sh h.length (.c (.own 1 0 n))=.c (.own (h.length+1) 0 n):=by simp[DV.sh,CV.sh,Nat.add_comm]
 have o:List.map (DB.sh h.length) [DB.dead,DB.arr k es false]=[.dead,.arr k es false]:=by simp[DB.sh]
 rw[m,o];exact j
end
theorem zPp {f:FuncId} {fn:Func} {args:Bi} {R:Bd} (b:bQ P T) (d:P.funcs[f]?=some fn) (g:fn.body=some c)
 (a:(Nat.ble args.length fn.ntmps && !(fn.name == "runtime.NumGoroutine"))=true)
 (j:∀X0:Ctx,X0.h=h->SWP P X0 c ⟨fn.ntmps,mV 0 args,h⟩ (zBG T h.length fn.results.toList R)):aA P f args h R:=by
 simp only[bn,dg] at a;refine hZ b d g (gk a.1) a.2 λX0 l=>?_;rw[iR];exact iP (j X0 l) λe s=>HM
end
end Go.Dm
end
end
section
namespace Go.Dm
open Go
section
section
variable {P:Program}{T:Tab}{X0:Ctx}{Q:Be}
variable {id:Nat}{c:Code}{s:DS}
section
variable {P:Program}{T:Tab}{X0:Ctx}{Q:Be}
end
theorem zER(h:SWP P X0 c s (sN id Q)):SWP P X0 (.block id c) s Q :=
 ZO (iP h λe b a=>by cases e<;>simp only[sN] at a ⊢<;>exact a)
theorem gE(a:bQ P T)(b:P.follows .mixedOrders=true)(h:vc P T X0 c s Q):SWP P X0 c s Q:=eN a b c h
theorem jT{y:Code}(h:SWP P X0 c s (sN id (zBg P X0 y Q))):SWP P X0 (.seq (.block id c) y) s Q :=
 RZ (iP (zER h) λe b a=>by cases e<;>simp only[zBg] at a ⊢<;>exact a)
theorem sF{α:Type}(I:α->DS)(J:α->Prop)(μ:α->Nat)(b:α)(k:J b)(l:BH X0.h.length s (I b))
 (h:∀x,J x->SWP P X0 c (I x) (AX X0.h.length I J μ x Q)):SWP P X0 (.loop c) s Q:=by
 intro m X a o p q r;obtain⟨t,u,v,z,A,B⟩:=l.use rfl o p q r;rw[<- u];refine wp_loop_ghost (λn a w=>∃x X,μ x=n/\J x/\X.w=w/\X.h=(I x).h/\HInv X/\Step X0 X/\TInv X (I x) a) (μ b) ⟨b,t,rfl,k,rfl,v,z,A,B⟩ ?_;rintro n C w' ⟨x,Y,rfl,D,rfl,E,F,G,H⟩;refine wp_mono (h x D m Y C E F G H) λe a w K=>?_;obtain⟨L,Z,d,rfl,f,g,i,j⟩:=K;cases e<;>simp only[Exit.then,AX] at d ⊢
 case normal =>
  obtain⟨y,M,N,O⟩:=d;obtain⟨R,S,U,V,W,r5⟩:=O.use rfl f g i j;exact⟨μ y,N,y,R,rfl,M,S,U,V,W,r5⟩
 all_goals exact⟨L,Z,d,rfl,f,g,i,j⟩
end
theorem DH:bytesOf []=some []:=rfl
attribute [go_sem] DH
end
section
variable {w:World}{S:Nat->Prop}{k bl:Nat}{v:Value}
def wkQ(x y:PV):Prop:=wkP x y∨∃k b a,x=.sl k b/\y=.sl k a/\nL b a
def zOC: List PV->List PV->Prop
 | [],[]=>True
 | x::a,y::b=>wkQ x y/\zOC a b
 | _,_=>False
def wJ: Bc->Bc->Prop
 | [],[]=>True
 | e::a,f::b=>zOC e f/\wJ a b
 | _,_=>False
theorem zOC.len: ∀{e f:List PV},zOC e f->f.length=e.length
 | [],[],_=>rfl
 | _::_,_::_,h=>by simp[zOC.len h.2]
 | [],_::_,h=>h.elim
 | _::_,[],h=>h.elim
theorem wJ.len: ∀{e f:Bc},wJ e f->f.length=e.length
 | [],[],_=>rfl
 | _::_,_::_,h=>by simp[wJ.len h.2]
 | [],_::_,h=>h.elim
 | _::_,[],h=>h.elim
theorem zBo{es b:Bc}(d:nL es b)(g:dO w S (.sl k es) v):dO w S (.sl k b) v:=by
 simp only[dO] at g ⊢;obtain⟨a,c,h,i,e⟩:=g;refine⟨a,c,by rw[d.len];exact h,by rw[d.len];exact i,?_⟩
 rcases e with e|⟨bl,f,j,l,m⟩
 .left;subst e;exact j0 d.len
 .exact .inr ⟨bl,f,j,l,d.relL m⟩
theorem wkQ.relP{x y:PV}(h:wkQ x y)(a:dO w S x v):dO w S y v:=by
 rcases h with h|⟨k,c,b,rfl,rfl,h⟩
 .exact h.relP a
 .exact zBo h a
theorem zOC.relE: ∀{e f:List PV} {off:Nat},zOC e f->jC w S bl off e->jC w S bl off f
 | [],[],_,_,_=>True.intro
 | _::_,_::_,_,h,⟨⟨v,a,b⟩,c⟩=>⟨⟨v,a,h.1.relP b⟩,zOC.relE h.2 c⟩
 | [],_::_,_,h,_=>h.elim
 | _::_,[],_,h,_=>h.elim
theorem wJ.relL: ∀{e f:Bc} {off:Nat},wJ e f->hD w S k bl off e->hD w S k bl off f
 | [],[],_,_,_=>True.intro
 | _::_,_::_,_,h,⟨⟨a,b⟩,c⟩=>⟨⟨h.1.len.trans a,h.1.relE b⟩,wJ.relL h.2 c⟩
 | [],_::_,_,h,_=>h.elim
 | _::_,[],_,h,_=>h.elim
end
def OkE.nil:OkE []:=⟨λx a=>(by cases a),List.Pairwise.nil,List.Pairwise.nil,λx a=>(by cases a),qh⟩
structure Nm where
 n:Ba
 l:Int
abbrev Bn:=List Nm
def bW(l:Bn):Bc:=l.map λx=>[.s x.n,.i .i64 x.l]
def jL(l:Bn):(bW l).length=l.length:=by simp[bW]
theorem zGW:bW []=[]:=rfl
def kQ{l:Bn}{k:Nat}{x:Nm}(h:l[k]?=some x):(bW l).getD k []=[.s x.n,.i .i64 x.l]:=by grind [bW]
def VH(l:Bn):(∀x∈bW l,x.length=2)=True:=fr λx a=>by
 obtain⟨y,_,rfl⟩:=cg.1 a;rfl
def zDC(a:Bn)(n:Nat):(bW a).take n=bW (a.take n):=by simp[bW]
def zDA(a:Bn)(n:Nat):(bW a).drop n=bW (a.drop n):=by simp[bW]
def zGV(a b:Bn):bW a++bW b=bW (a++b):=by simp[bW]
def zDB(t:Bn)(n:Ba)(i:Int):bW t++[[.s n,.i .i64 i]]=bW (t++[⟨n,i⟩]):=by simp[bW]
def zGX(t:Bn)(k:Nat)(n:Ba)(i:Int):(bW t).set k [.s n,.i .i64 i]=bW (t.set k ⟨n,i⟩):=by simp[bW,jn]
theorem zSr(x:Nm):Nm.mk x.n x.l=x:=rfl
def nM:List (Int × Bk)->Int->Bk
 | [],_=>[]
 | e::a,n=>if e.1=n then e.2 else nM a n
def rK:List (Int × Bk)->Int->Bk->List (Int × Bk)
 | [],n,x=>[(n,x)]
 | e::a,n,x=>if e.1=n then (n,x)::a else e::rK a n x
def uV(l:List (Int × Bk)):List (Int × PV):=l.map λe=>(e.1,.sl 7 (fG e.2))
theorem zLq:uV []=[]:=rfl
def VG:∀(l:List (Int × Bk)) (n:Int),rI (uV l) n (.sl 7 [])=.sl 7 (fG (nM l n))
 | [],_=>rfl
 | e::a,n=>by
  simp only[uV,dt,rI,nM];split
  .rfl
  .exact VG a n
def zCc:∀(l:List (Int × Bk)) (n:Int) (x:Bk),MP (uV l) n (.sl 7 (fG x))=uV (rK l n x)
 | [],_,_=>rfl
 | e::a,n,x=>by
  simp only[uV,dt,MP,rK];split
  .rfl
  .exact congrArg _ (zCc a n x)
theorem xU:∀(l:List (Int × Bk)) (n:Int) (x:Bk),nM (rK l n x) n=x
 | [],n,x=>by simp[rK,nM]
 | e::a,n,x=>by
  simp only[rK];split
  .simp[nM]
  .rename_i h;simp only[nM];rw[au h];exact xU a n x
theorem tX:∀(l:List (Int × Bk)) {n m:Int} (x:Bk),m≠n->nM (rK l n x) m=nM l m
 | [],n,m,x,h=>by grind [rK,nM]
 | e::a,n,m,x,h=>by
  simp only[rK];split
  .grind [nM]
  .simp only[nM];rw[tX a x h]
structure Rm where
 N:Bn
 L:Bm
 E:List (Int × Bk)
 x:Int
def qL(r:Rm)(id:Int):List Bk:=(cA r.L id).map (nM r.E)
def PI(r:Rm)(id:Int):Bl × Bool:=rZ [] (qL r id)
def treeR(r:Rm)(id:Int):Bl:=(PI r id).1
def zDG{r:Rm}(c:OkG r.L)(T:Int->Bl)(g:T 0=[])(a:∀x∈r.L,OkT (T x.i))(h:∀x∈r.L,nM r.E x.i=eW (T x.p) (T x.i)):∀(k:Nat) {x:Ly},r.L[k]?=some x->PI r x.i=(T x.i,true):=by
 intro k
 induction k using Nat.strongRecOn with
 | ind k l =>
  intro x e;have d:=dr e;have b:rZ [] ((cA r.L x.p).map (nM r.E))=(T x.p,true)/\OkT (T x.p):=by
   rcases c.par k x e with m|⟨j,y,n,f,o,_⟩
   .rw[m,tL c.lo1,g];exact⟨rfl,OkT.nil⟩
   .rw[<- o];exact⟨l j n f,a y (dr f)⟩
  unfold PI qL;rw[c.step d,gh,dt,gw,KI,b.1,aw rfl,h x d,zID b.2 (a x d),aw rfl]
attribute [go_sem] jL zGW VH zDC zDA zGV zDB zGX zSr zLq VG zCc
end Go.Dm
end
