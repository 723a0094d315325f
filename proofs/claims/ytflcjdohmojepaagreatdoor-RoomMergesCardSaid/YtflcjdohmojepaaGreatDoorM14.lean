/- Part 15 of the proof of roomMerges_card, set without needless blanks. No condition. -/
import Derived.Test.YtflcjdohmojepaaGreatDoorM13
import Derived.Test.YtflcjdohmojepaaGreatDoorM09
set_option linter.all false
set_option maxRecDepth 100000
set_option maxHeartbeats 16000000
section
namespace Go.Dm
open Go
section
section
variable {P:Program}{T:Tab}{X0:Ctx}{Q:Exit->DS->Prop}
variable {id:Nat}{c:Code}{s:DS}
section
variable {P:Program}{T:Tab}{X0:Ctx}{Q:Exit->DS->Prop}
end
theorem zCT(h:SWP P X0 c s (mZ id Q)):SWP P X0 (.block id c) s Q :=
 VB (fW h λe s' hq=>by cases e<;>simp only[mZ] at hq ⊢<;>exact hq)
theorem fE(hT:bM P T)(hm:P.follows .mixedOrders=true)(h:vc P T X0 c s Q):SWP P X0 c s Q:=dP hT hm c h
theorem iB{y:Code}(h:SWP P X0 c s (mZ id (YI P X0 y Q))):SWP P X0 (.seq (.block id c) y) s Q :=
 DQ (fW (zCT h) λe s' hq=>by cases e<;>simp only[YI] at hq ⊢<;>exact hq)
theorem pS{α:Type}(I:α->DS)(J:α->Prop)(μ:α->Nat)(x0:α)(hJ:J x0)(hw:yB X0.h.length s (I x0))
 (h:∀x,J x->SWP P X0 c (I x) (xT X0.h.length I J μ x Q)):SWP P X0 (.loop c) s Q:=by
 intro gd X a hh hi hs ht;obtain⟨X',h1,h2,h3,h4,h5⟩:=hw.use rfl hh hi hs ht;rw[<- h1];refine wp_loop_ghost (λn a w=>∃x X,μ x=n/\J x/\X.w=w/\X.h=(I x).h/\HInv X/\Step X0 X/\TInv X (I x) a) (μ x0) ⟨x0,X',rfl,hJ,rfl,h2,h3,h4,h5⟩ ?_;rintro n a' w' ⟨x,Y,rfl,k1,rfl,k2,k3,k4,k5⟩;refine wp_mono (h x k1 gd Y a' k2 k3 k4 k5) λe a w hp=>?_;obtain⟨s',Z,p1,rfl,p3,p4,p5,p6⟩:=hp;cases e<;>simp only[Exit.then,xT] at p1 ⊢
 case normal =>
  obtain⟨y,q1,q2,q3⟩:=p1;obtain⟨Z',r1,r2,r3,r4,r5⟩:=q3.use rfl p3 p4 p5 p6;exact⟨μ y,q2,y,Z',rfl,q1,r1,r2,r3,r4,r5⟩
 all_goals exact⟨s',Z,p1,rfl,p3,p4,p5,p6⟩
end
theorem AD:bytesOf []=some []:=rfl
attribute [go_sem] AD
end
section
variable {w:World}{S:Nat->Prop}{k bl:Nat}{v:Value}
def wkQ(x y:PV):Prop:=wkP x y∨∃k es es',x=.sl k es/\y=.sl k es'/\lC es es'
def zLM: List PV->List PV->Prop
 | [],[]=>True
 | x::xs,y::ys=>wkQ x y/\zLM xs ys
 | _,_=>False
def tL: List (List PV)->List (List PV)->Prop
 | [],[]=>True
 | e::es,f::fs=>zLM e f/\tL es fs
 | _,_=>False
theorem zLM.len: ∀{e f:List PV},zLM e f->f.length=e.length
 | [],[],_=>rfl
 | _::_,_::_,h=>by simp[zLM.len h.2]
 | [],_::_,h=>h.elim
 | _::_,[],h=>h.elim
theorem tL.len: ∀{e f:List (List PV)},tL e f->f.length=e.length
 | [],[],_=>rfl
 | _::_,_::_,h=>by simp[tL.len h.2]
 | [],_::_,h=>h.elim
 | _::_,[],h=>h.elim
theorem YO{es es':List (List PV)}(hw:lC es es')(hr:cZ w S (.sl k es) v):cZ w S (.sl k es') v:=by
 simp only[cZ] at hr ⊢;obtain⟨a,c,h1,h2,h3⟩:=hr;refine⟨a,c,by rw[hw.len];exact h1,by rw[hw.len];exact h2,?_⟩
 rcases h3 with h3|⟨bl,off,h4,h5,h6⟩
 .left;subst h3;exact List.eq_nil_of_length_eq_zero hw.len
 .exact .inr ⟨bl,off,h4,h5,hw.relL h6⟩
theorem wkQ.relP{x y:PV}(h:wkQ x y)(hr:cZ w S x v):cZ w S y v:=by
 rcases h with h|⟨k,es,es',rfl,rfl,h⟩
 .exact h.relP hr
 .exact YO h hr
theorem zLM.relE: ∀{e f:List PV} {off:Nat},zLM e f->gT w S bl off e->gT w S bl off f
 | [],[],_,_,_=>True.intro
 | _::_,_::_,_,h,⟨⟨v,h1,h2⟩,h3⟩=>⟨⟨v,h1,h.1.relP h2⟩,zLM.relE h.2 h3⟩
 | [],_::_,_,h,_=>h.elim
 | _::_,[],_,h,_=>h.elim
theorem tL.relL: ∀{e f:List (List PV)} {off:Nat},tL e f->fP w S k bl off e->fP w S k bl off f
 | [],[],_,_,_=>True.intro
 | _::_,_::_,_,h,⟨⟨h1,h2⟩,h3⟩=>⟨⟨h.1.len.trans h1,h.1.relE h2⟩,tL.relL h.2 h3⟩
 | [],_::_,_,h,_=>h.elim
 | _::_,[],_,h,_=>h.elim
end
theorem OkE.nil:OkE []:=⟨λx hx=>(by cases hx),List.Pairwise.nil,List.Pairwise.nil,λx hx=>(by cases hx),by decide⟩
structure Nm where
 n:List UInt8
 l:Int
def bS(l:List Nm):List (List PV):=l.map λx=>[.s x.n,.i .i64 x.l]
theorem gC(l:List Nm):(bS l).length=l.length:=by simp[bS]
theorem zEM:bS []=[]:=rfl
theorem qY{l:List Nm}{k:Nat}{x:Nm}(h:l[k]?=some x):(bS l).getD k []=[.s x.n,.i .i64 x.l]:=by
 simp only[bS,List.getD_eq_getElem?_getD,List.getElem?_map,h];rfl
theorem PX(l:List Nm):(∀x∈bS l,x.length=2)=True:=eq_true λx hx=>by
 obtain⟨y,_,rfl⟩:=List.mem_map.1 hx;rfl
theorem zBI(a:List Nm)(n:Nat):(bS a).take n=bS (a.take n):=by simp[bS]
theorem zBG(a:List Nm)(n:Nat):(bS a).drop n=bS (a.drop n):=by simp[bS]
theorem zEL(a b:List Nm):bS a++bS b=bS (a++b):=by simp[bS]
theorem zBH(t:List Nm)(n:List UInt8)(i:Int):bS t++[[.s n,.i .i64 i]]=bS (t++[⟨n,i⟩]):=by simp[bS]
theorem zEN(t:List Nm)(k:Nat)(n:List UInt8)(i:Int):(bS t).set k [.s n,.i .i64 i]=bS (t.set k ⟨n,i⟩):=by simp[bS,List.map_set]
theorem zPh(x:Nm):Nm.mk x.n x.l=x:=rfl
def lF:List (Int × List En)->Int->List En
 | [],_=>[]
 | e::es,n=>if e.1=n then e.2 else lF es n
def oY:List (Int × List En)->Int->List En->List (Int × List En)
 | [],n,x=>[(n,x)]
 | e::es,n,x=>if e.1=n then (n,x)::es else e::oY es n x
def oZ(l:List (Int × List En)):List (Int × PV):=l.map λe=>(e.1,.sl 7 (gG e.2))
theorem zIS:oZ []=[]:=rfl
theorem PW:∀(l:List (Int × List En)) (n:Int),oW (oZ l) n (.sl 7 [])=.sl 7 (gG (lF l n))
 | [],_=>rfl
 | e::es,n=>by
  simp only[oZ,List.map_cons,oW,lF];split
  .rfl
  .exact PW es n
theorem zAo:∀(l:List (Int × List En)) (n:Int) (x:List En),EJ (oZ l) n (.sl 7 (gG x))=oZ (oY l n x)
 | [],_,_=>rfl
 | e::es,n,x=>by
  simp only[oZ,List.map_cons,EJ,oY];split
  .rfl
  .exact congrArg _ (zAo es n x)
theorem uW:∀(l:List (Int × List En)) (n:Int) (x:List En),lF (oY l n x) n=x
 | [],n,x=>by simp[oY,lF]
 | e::es,n,x=>by
  simp only[oY];split
  .simp[lF]
  .rename_i h;simp only[lF];rw[if_neg h];exact uW es n x
theorem rK:∀(l:List (Int × List En)) {n m:Int} (x:List En),m≠n->lF (oY l n x) m=lF l m
 | [],n,m,x,h=>by simp[oY,lF,Ne.symm h]
 | e::es,n,m,x,h=>by
  simp only[oY];split
  .rename_i h1;simp only[lF];rw[if_neg (Ne.symm h),if_neg (by rw[h1];exact Ne.symm h)]
  .simp only[lF];rw[rK es x h]
structure Rm where
 N:List Nm
 L:List Ly
 E:List (Int × List En)
 x:Int
def oC(r:Rm)(id:Int):List (List En):=(bV r.L id).map (lF r.E)
def KM(r:Rm)(id:Int):List It × Bool:=pL [] (oC r id)
def treeR(r:Rm)(id:Int):List It:=(KM r id).1
theorem zBL{r:Rm}(hg:OkG r.L)(T:Int->List It)(h0:T 0=[])(hok:∀x∈r.L,OkT (T x.i))(hE:∀x∈r.L,lF r.E x.i=eF (T x.p) (T x.i)):∀(k:Nat) {x:Ly},r.L[k]?=some x->KM r x.i=(T x.i,true):=by
 intro k
 induction k using Nat.strongRecOn with
 | ind k ih =>
  intro x hx;have hm:=List.mem_of_getElem? hx;have key:pL [] ((bV r.L x.p).map (lF r.E))=(T x.p,true)/\OkT (T x.p):=by
   rcases hg.par k x hx with hp|⟨j,y,h1,h2,h3,_⟩
   .rw[hp,qU hg.lo1,h0];exact⟨rfl,OkT.nil⟩
   .rw[<- h3];exact⟨ih j h1 h2,hok y (List.mem_of_getElem? h2)⟩
  unfold KM oC;rw[hg.step hm,List.map_append,List.map_cons,List.map_nil,FW,key.1,if_pos rfl,hE x hm,zGp key.2 (hok x hm),if_pos rfl]
attribute [go_sem] gC zEM PX zBI zBG zEL zBH zEN zPh zIS PW zAo
section
section
variable {P:Program}{T:Tab}{X0:Ctx}
section
variable {P:Program}{T:Tab}{X0:Ctx}
end
structure RInvF (P:Program) (X0:Ctx) (ops:Array Oper) (n:Nat) (chain:List Nat) (f:Nat) (V:Nat->DV) (H:Nat->Bool->aD) (t0:Fr) (L:Array Bool) (X:Ctx) (a:Act):Prop where
 size:L.size=ops.size
 closed:zDf ops L
 hh:X.h=H (chain.filter λe=>L.getD e false).length (L.getD f false)
 hi:HInv X
 hs:Step X0 X
 sz:a.tmps.size=n
 defs:a.defers=[]
 relA:∀k j,L.getD k false=true->gW ops k=some j->bD X (V k) (a.tmps.getD j undef)
 relB:∀j,(∀k,L.getD k false=true->gW ops k≠some j)->bD X (look t0 j) (a.tmps.getD j undef)
section
variable {P:Program}{T:Tab}{X0:Ctx}
variable {ops:Array Oper}{n:Nat}{chain order:List Nat}
end
section
variable {P:Program}{T:Tab}{X0:Ctx}
variable {ops:Array Oper}{n:Nat}{chain order:List Nat}
end
section
variable {P:Program}{T:Tab}{X0:Ctx}
end
section
variable {P:Program}{T:Tab}{X0:Ctx}
end
section
variable {P:Program}{T:Tab}{X0:Ctx}
end
section
variable {P:Program}{T:Tab}{X0:Ctx}
end
section
variable {P:Program}{T:Tab}{X0:Ctx}
end
section
variable {P:Program}{T:Tab}{X0:Ctx}
end
section plan
variable {ops:Array Oper}{n:Nat}{chain order:List Nat}
end plan
end
end
section
variable {rs:List ResultVar}{R:DV->aD->Prop}{s:DS}{h:aD}{i n:Nat}{P:Program}{f:FuncId}
def v2(h:aD)(R:DV->aD->Prop):DV->DV->Prop
 | .c x,.c y=>R (.tup [.c x,.c y]) h
 | _,_=>False
def zHD(t:Fr)(h:aD)(R:DV->aD->Prop):List ResultVar->Prop
 | [.tmp i,.tmp j]=>v2 h R (look t i) (look t j)
 | _=>False
def zLK(rs:List ResultVar)(R:DV->aD->Prop):Exit->DS->Prop
 | .normal,s=>zHD s.t s.h R rs
 | .ret,s=>zHD s.t s.h R rs
 | _,_=>False
theorem zKV: zLK rs R .normal s=zHD s.t s.h R rs:=nr rfl
theorem zKW: zLK rs R .ret s=zHD s.t s.h R rs:=nr rfl
theorem zHE{t:Fr}{j:Nat}:zHD t h R [.tmp i,.tmp j]=v2 h R (look t i) (look t j):=nr rfl
theorem v2_c{x y:CV}:v2 h R (.c x) (.c y)=R (.tup [.c x,.c y]) h:=nr rfl
attribute [go_sem] zKV zKW zHE v2_c
def zFO(i n:Nat):Option PV->DV
 | some x=>.c (.p x)
 | none=>.c (.own i 0 n)
theorem LD{X Y:Ctx}(hw:Y.w=X.w)(hS:Y.S=X.S)(ho:∀v,bD X (.c (.own i 0 n)) v->bD Y (.c (.own 0 0 n)) v):∀{L:List (Option PV)} {vs:List Value},dI X (L.map (zFO i n)) vs->dI Y (L.map (zFO 0 n)) vs
 | [],[],_=>True.intro
 | none::_,_::_,h=>⟨ho _ h.1,LD hw hS ho h.2⟩
 | some _::_,_::_,h=>⟨zA (X:=X) (Y:=Y) hw hS rfl h.1,LD hw hS ho h.2⟩
 | [],_::_,h=>h.elim
 | none::_,[],h=>h.elim
 | some _::_,[],h=>h.elim
theorem aA.lent{k:Nat}{es:List (List PV)}(L:List (Option PV)){r:DV}{K:DV->aD->Prop}
 (hc:aA P f (L.map (zFO 0 n)) [.arr k es false] λd h'=>d=r/\h'=[.arr k es false])
 (h0:h[i]?=some (.arr k es false))(hdr:zDO r=true)(hk:K r h):
  aA P f (L.map (zFO i n)) h K:=by
 intro X vals hh hi gd hr;subst hh;have hlt:=aK h0;have hb0:=hi.blk i _ h0
 let Y:Ctx:=⟨X.w,X.S,λj=>if j=0 then X.G i else none,[.arr k es false]⟩
 have at0:∀{id:Nat} {db:DB},Y.h[id]?=some db->id=0/\db=.arr k es false:=λ{id db} h=>by
  cases id with
  | zero=>simp only[Y,List.getElem?_cons_zero,Option.some.injEq] at h;exact⟨rfl,h.symm⟩
  | succ n=>simp[Y] at h
 have hiY:HInv Y:=by
  refine⟨hi.slt,λid db hdb=>?_,λid db g' hdb hl hg'=>?_,λid db id' db' g1 g2 hdb _ _ hdb' _ _ _ _=>?_⟩
  .obtain⟨rfl,rfl⟩:=at0 hdb;simpa only[eC,Y,if_true] using hb0
  .obtain⟨rfl,rfl⟩:=at0 hdb;have hg2:X.G i=some g':=by simpa[Y] using hg'
   exact hi.own i _ g' h0 rfl hg2
  .obtain⟨rfl,_⟩:=at0 hdb;obtain⟨rfl,_⟩:=at0 hdb';rfl
 have hrY:dI Y (L.map (zFO 0 n)) vals:=LD (X:=X) (Y:=Y) rfl rfl (λv hv=>by
  simp only[bD,cA] at hv ⊢;obtain⟨_,hv1,hv2⟩:=hv;refine⟨by simp[Y],hv1,λk' es' ro' he=>?_⟩
  obtain⟨_,e⟩:=at0 he;cases e;have:=hv2 _ _ _ h0;simpa only[Y,if_true] using this) hr
 have key:∀v w',Ret Y (λd h'=>d=r/\h'=[.arr k es false]) v w'->Ret X K v w':=by
  rintro v w' ⟨d,Z,h1,h2,h3,h4,rfl,h5⟩;have hZ0:Z.h[0]?=some (.arr k es false):=by rw[h5];rfl
  obtain⟨db,e1,e2,e3,e4⟩:=h3.ids 0 _ (by simp[Y]) hZ0 rfl;have hGZ:Z.G 0=X.G i:=by simpa[Y] using e3
  have e4:∀g,X.G i=some g->vT (X.w.heap[g.1]?) (Z.w.heap[g.1]?):=λg hg=>e4 g (by simpa[Y] using hg);have hfr:∀b,b<X.w.heap.size->(∀g,X.G i=some g->b≠g.1)->Z.w.heap[b]?=X.w.heap[b]? := λb hb hne=>h3.frame b hb λid db g' hdb hl hf hg'=>by
   obtain⟨rfl,_⟩:=at0 hdb;have hg2:X.G i=some g':=by simpa[Y] using hg'
   exactλe=>hne g' hg2 e.symm
  have apart:∀{id:Nat} {db:DB} {g':Nat × Nat},id≠i->X.h[id]?=some db->db.live=true->X.G id=some g'->∀g,X.G i=some g->g'.1≠g.1:=λ{id db g'} hne h' hl hg' g hg e=>hne (hi.inj i _ id db g g' h0 rfl rfl h' hl hg hg' e.symm).symm;have hst:Step X ⟨Z.w,Z.S,X.G,X.h⟩:=by
   refine⟨h3.size,h3.os,h3.tape,h3.output,h3.kept,Nat.le_refl _,λid db' hl' hdb' hlv=>⟨db',hdb',cM.refl hlv,rfl,λg' hg'=>?_⟩,λb hb hno=>hfr b hb λg hg e=>hno i _ g h0 rfl rfl hg e.symm,λid db g' hdb hl hf hg'=>.inr ⟨id,db,g',hdb,hl,hf,hg',rfl⟩,λb hb=>?_⟩
   .by_cases hne:id=i
    .subst hne;exact e4 g' hg'
    .rw[show Z.w.heap[g'.1]?=X.w.heap[g'.1]? from hfr _ (hi.block_lt hdb' hlv hg') (apart hne hdb' hlv hg')]
     exact(hi.blk id db' hdb').same hlv g' hg'
   .rcases h3.upper b hb with h|h|⟨id,db,g',hdb,hl,hg',e⟩
    .exact .inl h
    .exact .inr (.inl h)
    .obtain⟨rfl,_⟩:=at0 hdb;have hg2:X.G i=some g':=by simpa[Y] using hg'
     exact .inr (.inr ⟨i,_,g',h0,rfl,hg2,e⟩)
  refine⟨d,⟨Z.w,Z.S,X.G,X.h⟩,h1,⟨h2.slt,λid db hdb=>?_,λid db g' hdb hl hg'=>?_,λid db id' db' g1 g2 hdb hl hf hdb' hl' hg1 hg2 he=>hi.inj id db id' db' g1 g2 hdb hl hf hdb' hl' hg1 hg2 he⟩,hst,WM hdr h4,hk⟩
  .by_cases hne:id=i
   .subst hne;have hdb2:X.h[id]?=some db:=hdb;rw[h0] at hdb2;cases hdb2;have:=h2.blk 0 _ hZ0;simp only[eC,hGZ] at this ⊢;exact this
   .by_cases hl:db.live=true
    .exact(hi.blk id db hdb).move hst rfl λg' hg'=>hfr _ (hi.block_lt hdb hl hg') (apart hne hdb hl hg')
    .cases db with
     | dead=>simp only[eC]
     | box _=>exact absurd rfl hl
     | arr _ _ _=>exact absurd rfl hl
     | mp _=>exact absurd rfl hl
  .by_cases hne:id=i
   .subst hne;have hdb2:X.h[id]?=some db:=hdb;rw[h0] at hdb2;cases hdb2;exact h2.own 0 _ g' hZ0 rfl (by rw[hGZ];exact hg')
   .have ho:=hi.own id db g' hdb hl hg';refine⟨λhf hS=>?_,λhf=>(h3.kept _ (ho.2 hf)).1⟩;rcases h3.upper _ hS with h|h|⟨j,d',g2,hdb2,hl2,hg2,e⟩
    .exact ho.1 hf h
    .have:=hi.block_lt hdb hl hg';have hYw:Y.w.heap.size=X.w.heap.size:=rfl;omega
    .obtain⟨rfl,_⟩:=at0 hdb2;have hg3:X.G i=some g2:=by simpa[Y] using hg2
     exact apart hne hdb hl hg' g2 hg3 e.symm
 have gdY:Gnd P Y:=gd;rcases hc Y _ rfl hiY gdY hrY with⟨h1,h2⟩|⟨v,w',h1,h2⟩
 .exact .inl ⟨h1,h2.mono λe w' ⟨v,he,hv⟩=>⟨v,he,key v w' hv⟩⟩
 .exact .inr ⟨v,w',h1,key v w' h2⟩
theorem aA.wkA{args args':List DV}(hw:zHX args args')(hc:aA P f args' h R):aA P f args h R :=
 λX vals hh hi gd hr=>hc X vals hh hi gd (zHX.rel hw hr)
end
section
variable {x:DV}{v:Value}{X Y:Ctx}{i n k:Nat}{es es0:List (List PV)}{P:Program}{f:FuncId}{h:aD}{R:DV->Prop}{K:DV->aD->Prop}
def vJ: PV->Bool
 | .sl _ _=>false
 | _=>true
def zCN: CV->Bool
 | .p x=>vJ x
 | _=>false
def zNn: EV->Bool
 | .c x=>zCN x
 | .agg xs=>xs.all zCN
def zGW: DV->Bool
 | .c x=>zCN x
 | .tup xs=>xs.all zNn
 | _=>false
theorem DM{w w':World}{S S':Nat->Prop}{x:PV}(hs:vJ x=true)(h:cZ w S x v):cZ w' S' x v:=by
 cases x<;>simp only[vJ,Bool.false_eq_true] at hs<;>exact h
theorem DK{x:CV}(hs:zCN x=true)(h:cA X x v):cA Y x v:=by
 cases x<;>simp only[zCN,Bool.false_eq_true] at hs;exact DM hs h
theorem HR: ∀{xs:List CV} {vs:List Value},xs.all zCN=true->bF X xs vs->bF Y xs vs
 | [],[],_,_=>True.intro
 | x::xs,v::vs,hs,h=>by
  simp only[List.all_cons,Bool.and_eq_true] at hs;exact⟨DK hs.1 h.1,HR hs.2 h.2⟩
 | [],_::_,_,h=>h.elim
 | _::_,[],_,h=>h.elim
theorem zGY{x:EV}(hs:zNn x=true)(h:eD X x v):eD Y x v:=by
 cases x with
 | c x=>exact DK hs h
 | agg xs=>obtain⟨vs,h1,h2⟩:=h;exact⟨vs,h1,HR hs h2⟩
theorem HS: ∀{xs:List EV} {vs:List Value},xs.all zNn=true->cO X xs vs->cO Y xs vs
 | [],[],_,_=>True.intro
 | x::xs,v::vs,hs,h=>by
  simp only[List.all_cons,Bool.and_eq_true] at hs;exact⟨zGY hs.1 h.1,HS hs.2 h.2⟩
 | [],_::_,_,h=>h.elim
 | _::_,[],_,h=>h.elim
theorem zGX(hs:zGW x=true)(h:bD X x v):bD Y x v:=by
 cases x with
 | jk=>cases hs
 | c x=>exact DK hs h
 | agg xs=>cases hs
 | tup xs=>obtain⟨vs,h1,h2⟩:=h;exact⟨vs,h1,HS hs h2⟩
def zFM: CV->Bool
 | .p _=>true
 | .clo _ []=>true
 | _=>false
def EW: DV->Bool
 | .c x=>zFM x
 | .agg xs=>xs.all zFM
 | _=>false
theorem RB(hk:Kept X.w Y.w X.S Y.S){x:CV}(hs:zFM x=true)(h:cA X x v):cA Y x v:=by
 cases x<;>simp only[zFM,Bool.false_eq_true] at hs
 case p=>exact cZ.kept hk h
 case clo f cap =>
  cases cap with
  | nil =>
   obtain⟨vs,h1,h2⟩:=h;cases vs with
   | nil=>exact⟨[],h1,True.intro⟩
   | cons _ _=>exact h2.elim
  | cons _ _=>cases hs
theorem GJ(hk:Kept X.w Y.w X.S Y.S):∀{xs:List CV} {vs:List Value},xs.all zFM=true->bF X xs vs->bF Y xs vs
 | [],[],_,_=>True.intro
 | x::xs,v::vs,hs,h=>by
  simp only[List.all_cons,Bool.and_eq_true] at hs;exact⟨RB hk hs.1 h.1,GJ hk hs.2 h.2⟩
 | [],_::_,_,h=>h.elim
 | _::_,[],_,h=>h.elim
theorem zFN(hk:Kept X.w Y.w X.S Y.S)(hs:EW x=true)(h:bD X x v):bD Y x v:=by
 cases x with
 | jk=>cases hs
 | c x=>exact RB hk hs h
 | agg xs=>obtain⟨vs,h1,h2⟩:=h;exact⟨vs,h1,GJ hk hs h2⟩
 | tup xs=>cases hs
def zQL(i n:Nat):Option DV->DV
 | some d=>d
 | none=>.c (.own i 0 n)
def zPu(k:Nat)(es:List (List PV)):Option DV->DV
 | some d=>d
 | none=>.c (.p (.sl k es))
theorem zL(hk:Kept X.w Y.w X.S Y.S)(ho:∀v,bD X (.c (.own i 0 n)) v->bD Y (.c (.p (.sl k es))) v):
  ∀{L:List (Option DV)} {vs:List Value},(∀d,some d∈L->EW d=true)->dI X (L.map (zQL i n)) vs->dI Y (L.map (zPu k es)) vs
 | [],[],_,_=>True.intro
 | none::_,_::_,hL,h=>⟨ho _ h.1,zL hk ho (λd hd=>hL d (List.mem_cons_of_mem _ hd)) h.2⟩
 | some _::_,_::_,hL,h=>⟨zFN hk (hL _ List.mem_cons_self) h.1,zL hk ho (λd hd=>hL d (List.mem_cons_of_mem _ hd)) h.2⟩
 | [],_::_,_,h=>h.elim
 | none::_,[],_,h=>h.elim
 | some _::_,[],_,h=>h.elim
theorem aA.lend(L:List (Option DV))(hL:∀d,some d∈L->EW d=true)
 (hc:aA P f (L.map (zPu k (es.take n))) [] λd h'=>R d/\h'=[])(h0:h[i]?=some (.arr k es false))(hk:∀d,R d->zGW d=true/\K d h):
  aA P f (L.map (zQL i n)) h K:=by
 intro X vals hh hi gd hr;subst hh;have hb0:=hi.blk i _ h0
 let Y:Ctx:=⟨X.w,λb=>X.S b∨∃g,X.G i=some g/\b=g.1,λ_=>none,[]⟩
 have hiY:HInv Y:=⟨λb hb=>by
  rcases hb with hb|⟨g,hg,rfl⟩
  .exact hi.slt b hb
  .exact hi.block_lt h0 rfl hg,λid db hdb=>by simp[Y] at hdb,λid db g hdb=>by simp[Y] at hdb,λid db id' db' g1 g2 hdb=>by simp[Y] at hdb⟩
 have hkp:Kept X.w Y.w X.S Y.S:=λb hb=>⟨.inl hb,rfl⟩;have gdY:Gnd P Y:=by
  obtain⟨W0,g1,g2⟩:=gd;exact⟨W0,g1,λb hb=>⟨.inl (g2 b hb).1,(g2 b hb).2⟩⟩
 have hrY:dI Y (L.map (zPu k (es.take n))) vals:=zL hkp (λv hv=>by
  obtain⟨_,_,hv⟩:=hv;obtain⟨hv1,hv2⟩:=hv _ _ _ h0;have hln:(es.take n).length=n:=by rw[List.length_take];omega
  simp only[bD,cA,cZ];cases hg:X.G i with
  | none =>
   rw[hg] at hv2;rcases hb0 with⟨_,rfl⟩|⟨g',_,_,_,hq,_⟩
   .simp only[List.take_nil] at hln ⊢;exact⟨none,0,hv2,Nat.le_refl _,.inl trivial⟩
   .rw[hg] at hq;cases hq
  | some g =>
   rw[hg] at hv2;obtain⟨cap,o,arr,el,fz,q1,q2,q3,q4,q5,q6⟩:=hv2;refine⟨some ⟨g.1,o,none⟩,cap,by rw[hln];exact q2,by omega,?_⟩
   by_cases hn:n=0
   .subst hn;exact .inl List.take_zero
   .right;have ho:o=g.2:=by rcases q3 with q3|q3<;>omega
    subst ho;refine⟨g.1,g.2,rfl,.inr ⟨g,hg,rfl⟩,?_⟩;rcases hb0 with⟨hq,_⟩|⟨g',arr',el',fz',p1,p2,p3,p4,p5⟩
    .rw[hg] at hq;cases hq
    .rw[hg] at p1;cases p1;exact(p5.take n).move hkp rfl) hL hr
 have key:∀v w',Ret Y (λd h'=>R d/\h'=[]) v w'->Ret X K v w':=by
  rintro v w' ⟨d,Z,h1,h2,h3,h4,h5,h6⟩;obtain⟨hs,hK⟩:=hk d h5;have hfr:∀b,b<X.w.heap.size->Z.w.heap[b]?=X.w.heap[b]? := λb hb=>h3.frame b hb λid db g hdb=>by simp[Y] at hdb
  have hno:∀g,X.G i=some g->¬ X.S g.1:=λg hg=>(hi.own i _ g h0 rfl hg).1 rfl
  let Z':Ctx:=⟨Z.w,λb=>Z.S b/\∀g,X.G i=some g->b≠g.1,X.G,X.h⟩
  have hst:Step X Z':=by
   refine⟨h3.size,h3.os,h3.tape,h3.output,λb hb=>⟨⟨(h3.kept b (.inl hb)).1,λg hg e=>hno g hg (e▸hb)⟩,(h3.kept b (.inl hb)).2⟩,Nat.le_refl _,λid db' hl' hdb' hlv=>⟨db',hdb',cM.refl hlv,rfl,λg' hg'=>?_⟩,λb hb _=>hfr b hb,λid db g' hdb hl hf hg'=>.inr ⟨id,db,g',hdb,hl,hf,hg',rfl⟩,λb hb=>?_⟩
   .rw[show Z'.w.heap[g'.1]?=X.w.heap[g'.1]? from hfr _ (hi.block_lt hdb' hlv hg')]
    exact(hi.blk id db' hdb').same hlv g' hg'
   .obtain ⟨hb1,hb2⟩:=hb;rcases h3.upper b hb1 with h|h|⟨id,db,g',hdb,_⟩
    .rcases h with h|⟨g,hg,e⟩
     .exact .inl h
     .exact absurd e (hb2 g hg)
    .exact .inr (.inl h)
    .simp[Y] at hdb
  have hi':HInv Z':=by
   refine⟨λb hb=>h2.slt b hb.1,λid db hdb=>?_,λid db g' hdb hl hg'=>?_,λid db id' db' g1 g2 hdb hl hf hdb' hl' hg1 hg2 he=>hi.inj id db id' db' g1 g2 hdb hl hf hdb' hl' hg1 hg2 he⟩
   .by_cases hl:db.live=true
    .exact(hi.blk id db hdb).move hst rfl λg' hg'=>hfr _ (hi.block_lt hdb hl hg')
    .cases db with
     | dead=>simp only[eC]
     | box _=>exact absurd rfl hl
     | arr _ _ _=>exact absurd rfl hl
     | mp _=>exact absurd rfl hl
   .have ho:=hi.own id db g' hdb hl hg';refine⟨λhf hS=>?_,λhf=>⟨(h3.kept _ (.inl (ho.2 hf))).1,λg hg e=>hno g hg (e▸ho.2 hf)⟩⟩;rcases h3.upper _ hS.1 with h|h|⟨j,d',g2,hdb2,_⟩
    .rcases h with h|⟨g,hg,e⟩
     .exact ho.1 hf h
     .exact hS.2 g hg e
    .have:=hi.block_lt hdb hl hg';have hYw:Y.w.heap.size=X.w.heap.size:=rfl;omega
    .simp[Y] at hdb2
  exact⟨d,Z',h1,hi',hst,zGX hs h4,hK⟩
 rcases hc Y _ rfl hiY gdY hrY with⟨h1,h2⟩|⟨v,w',h1,h2⟩
 .exact .inl ⟨h1,h2.mono λe w' ⟨v,he,hv⟩=>⟨v,he,key v w' hv⟩⟩
 .exact .inr ⟨v,w',h1,key v w' h2⟩
theorem zQ5(hes:es.take n=es0)
 (hc:aA P f [.c (.p (.sl k es0))] [] λd h'=>R d/\h'=[])(h0:h[i]?=some (.arr k es false))(hk:∀d,R d->zGW d=true/\K d h):aA P f [.c (.own i 0 n)] h K:=by
 subst hes;exact aA.lend [none] (by simp) hc h0 hk
theorem zC6(hx:EW x=true)(hes:es.take n=es0)
 (hc:aA P f [.c (.p (.sl k es0)),x] [] λd h'=>R d/\h'=[])(h0:h[i]?=some (.arr k es false))(hk:∀d,R d->zGW d=true/\K d h):aA P f [.c (.own i 0 n),x] h K:=by
 subst hes;exact aA.lend [none,some x] (by simpa using hx) hc h0 hk
theorem zPH{y:DV}(hx:EW x=true)(hy:EW y=true)(hes:es.take n=es0)
 (hc:aA P f [.c (.p (.sl k es0)),x,y] [] λd h'=>R d/\h'=[])(h0:h[i]?=some (.arr k es false))(hk:∀d,R d->zGW d=true/\K d h):aA P f [.c (.own i 0 n),x,y] h K:=by
 subst hes;exact aA.lend [none,some x,some y] (by
  intro d hd;simp only[List.mem_cons,Option.some.injEq,List.not_mem_nil,or_false,reduceCtorEq,false_or] at hd;rcases hd with rfl|rfl
  .exact hx
  .exact hy) hc h0 hk
end
end Go.Dm
end
