/- Part 20 of roomPlays_card. No condition. -/
import Derived.Test.YtfcindonokhbeaaGreatDoorP16
set_option linter.all false
set_option maxRecDepth 100000
set_option maxHeartbeats 0
section
namespace Go.Dm
open Go
section
variable {l:Bm}{b:Bool}{i:Nat}{x:Ly}{id:Int}{B:List Bool}{W:List Int}
def ZY(l:List Bool):Bc:=l.map λb=>[.b b]
theorem zLA(l:List Bool):(ZY l).length=l.length:=by simp[ZY]
theorem zLB(l:List Bool):(∀x∈ZY l,x.length=1)=True:=fr λx a=>by
 obtain⟨y,_,rfl⟩:=cg.1 a;rfl
theorem zA{l:List Bool}{k:Nat}(h:l[k]?=some b):(ZY l).getD k []=[.b b]:=by
 simp only[ZY,ed,dv,h];rfl
theorem zLD(l:List Bool)(k:Nat)(b:Bool):(ZY l).set k [.b b]=ZY (l.set k b):=by simp[ZY,jn]
theorem zLC(n:Nat):List.replicate n [PV.b false]=ZY (List.replicate n false):=by simp[ZY]
attribute [go_sem] zLA zLB zLD
theorem yQ: ∀(r:Bm) {W V:List Int},(∀a,W.contains a=V.contains a)->BW r W=BW r V
 | [],_,_,_=>rfl
 | x::r,W,V,h=>by
  simp only[BW];rw[h x.i,yQ r (W:=x.p::x.s::W) (V:=x.p::x.s::V) λa=>by simp only[ku,h a],yQ r h]
def XJ: Bm->List Bool->List Int
 | x::l,b::B=>(if b then [x.i] else [])++XJ l B
 | _,_=>[]
theorem XK: ∀{l:Bm} {B:List Bool} {k:Nat} {x:Ly} {b:Bool},l[k]?=some x->B[k]?=some b->XJ (l.take (k+1)) (B.take (k+1))=XJ (l.take k) (B.take k)++(if b then [x.i] else [])
 | [],_,_,_,_,h,_=>by simp at h
 | _::_,[],_,_,_,_,h=>by simp at h
 | y::l,c::B,0,x,b,a,d=>by
  simp only[eu,b0] at a d;subst a d;simp[XJ]
 | y::l,c::B,k+1,x,b,a,d=>by
  simp only[fp] at a d;have e:=XK (l:=l) (B:=B) a d;simp only[List.take_succ_cons,XJ,e,gf]
theorem FV: ∀{l:Bm} {B:List Bool} {k:Nat} {x:Ly} {b:Bool},l[k]?=some x->B[k]?=some b->XJ (l.drop k) (B.drop k)=(if b then [x.i] else [])++XJ (l.drop (k+1)) (B.drop (k+1))
 | [],_,_,_,_,h,_=>by simp at h
 | _::_,[],_,_,_,_,h=>by simp at h
 | y::l,c::B,0,x,b,a,d=>by
  simp only[eu,b0] at a d;subst a d;rfl
 | y::l,c::B,k+1,x,b,a,d=>by
  simp only[fp] at a d;simp only[oz];exact FV a d
theorem zCD: ∀(l:Bm) (B:List Bool),(XJ l B).length<=l.length
 | [],_=>by simp[XJ]
 | _::_,[]=>by simp[XJ]
 | x::l,b::B=>by
  have:=zCD l B;simp only[XJ,bo,bw];cases b<;>simp<;>omega
structure AncAt (l:Bm) (id:Int) (m:Nat) (B:List Bool) (W:List Int):Prop where
 len:B.length=l.length
 le:m<=l.length
 lo:∀(k:Nat) (x:Ly),k<m->l[k]?=some x->B[k]?=some (W.contains x.i)
 out:BW (l.take m).reverse (id::W)++XJ (l.drop m) (B.drop m)=lT l id
theorem zC4(l:Bm)(id:Int):AncAt l id l.length (List.replicate l.length false) [] where
 len:=lz
 le:=bg _
 lo:=λk x a c=>by
  rw[List.getElem?_replicate,aw a];rfl
 out:=by
  rw[dj,ma,List.drop_eq_nil_of_le ql];show _++[]=_;rw[dh];rfl
theorem zCV(h:l[i]?=some x):(l.take (i+1)).reverse=x::(l.take i).reverse:=by
 rw[dm,h];simp
theorem AncAt.no(h:AncAt l id (i+1) B W)(c:l[i]?=some x)(d:B[i]?=some false)(hi:(x.i==id)=false):AncAt l id i B W where
 len:=h.len
 le:=Nat.le_of_succ_le h.le
 lo:=λk y g f=>h.lo k y qd f
 out:=by
  have e:=h.lo i x qd c;rw[d] at e;have a:=h.out;rw[zCV c] at a;simp only[BW] at a;rw[au (by simp only[ku,hi,dw];rw[<- fx e];decide)] at a;rw[FV c d];simpa using a
theorem AncAt.yes{c:List Bool}(h:AncAt l id (i+1) B W)(e:l[i]?=some x)(g:B[i]?=some b)(hi:(b || x.i==id)=true)
 (m:c.length=B.length)(h1:∀(k:Nat) (y:Ly),k<i->l[k]?=some y->c[k]?=some (W.contains y.i || (y.i==x.p || y.i==x.s)))(n:c[i]?=some true)(o:∀k,i<k->c[k]?=B[k]?):AncAt l id i c (x.p::x.s::W) where
 len:=m.trans h.len
 le:=Nat.le_of_succ_le h.le
 lo:=λk y q r=>by
  rw[h1 k y q r];simp only[ku];cases W.contains y.i<;>cases (y.i==x.p)<;>cases (y.i==x.s)<;>rfl
 out:=by
  have f:=h.lo i x qd e;rw[g] at f;have d:=h.out;rw[zCV e] at d;simp only[BW] at d;rw[aw (by
   simp only[ku];rw[<- fx f,Bool.or_comm];exact hi)] at d
  have t:c.drop (i+1)=B.drop (i+1):=by
   apply ir;intro j;rw[gu,gu];exact o _ qd
  rw [FV e n,t,<- d,yQ (l.take i).reverse (W:=id::x.p::x.s::W) (V:=x.p::x.s::id::W) λa=>by
   simp only[ku];cases (a==id)<;>cases (a==x.p)<;>cases (a==x.s)<;>rfl]
  simp
theorem AncAt.end_(h:AncAt l id 0 B W):XJ l B=lT l id:=by
 have:=h.out;simpa[BW] using this
def yS(B:List Int)(l:List Int):Int:=(((l.filter λx=>B.contains x).getLast?).getD 0)
theorem zKA(l:Bm)(a b:Int):rE l a b=yS (lT l b) (lT l a):=rfl
theorem zC9(B:List Int)(l:List Int)(x:Int):yS B (l++[x])=if B.contains x then x else yS B l:=by
 unfold yS;rw[fq,fc];split
 .simp
 .simp
theorem zFq(B:List Int)(l:List Int):yS B l=0∨yS B l∈l:=by
 unfold yS;cases h:(l.filter λx=>B.contains x).getLast? with
 | none=>exact .inl rfl
 | some x=>exact .inr (dy.1 (List.mem_of_getLast? h)).1
theorem zON{B A:List Int}(e:A.Pairwise (· < ·))(f:∀x∈A,0<x){k:Nat}{x:Int}(d:A[k]?=some x):yS B (A.take k)<x:=by
 rcases zFq B (A.take k) with h|h
 .rw[h];exact f x (dr d)
 .obtain⟨j,a⟩:=eh.1 h;rw[gq] at a;split at a
  .rename_i c;obtain⟨g,n⟩:=bz.1 a;obtain⟨m,o⟩:=bz.1 d;have:=gg.1 e j k g m c;omega
  .cases a
end
section
section
variable {P:Program}{T:Tab}{X0:Ctx}{c:Code}{Q:Be}
def zKr(n0:Nat)(s b:DS):Prop:=BH n0 s b∨∃i id a len x,look s.t i=.c (.own id a len)/\XW s.h (.own id a len)=some x/\SF n0 ⟨s.n,(i,.c (.p x))::s.t,uM s.h [id]⟩ b
theorem zKr.use{n0:Nat}{s e:DS}(h:zKr n0 s e){X0 X:Ctx}{a:Act}(l:X0.h.length=n0)(f:X.h=s.h)(hi:HInv X)(m:Step X0 X)(d:TInv X s a):∃b,b.w=X.w/\b.h=e.h/\HInv b/\Step X0 b/\TInv b e a:=by
 rcases h with h|⟨i,id,o,len,x,p,q,r⟩
 .exact h.use l f hi m d
 .obtain ⟨b,n,t,E,g,u,v⟩:=kF [id] hi;obtain⟨y,z,A,B,C,D⟩:=r.use (X:=b) l (by rw[t,f]) u (m.trans hi g) ⟨d.size,λj=>by
   simp only[look];split
   .rename_i k;subst k;have:=d.rel j;rw[p] at this;simp only[bH] at this;simp only[bH,cJ];exact qQ hi g n this (by rw[f];exact q) v
   .exact(d.rel j).step g,d.defs⟩
  exact⟨y,z.trans n,A,B,C,D⟩
def LO{α:Type}(n0:Nat)(I:α->DS)(J:α->Prop)(μ:α->Nat)(x:α)(Q:Be):Be:=λe a=>match e with
 | .normal=>∃y,J y/\μ y < μ x/\zKr n0 a (I y)
 | e=>Q e a
section
variable {P:Program}{T:Tab}{X0:Ctx}{c:Code}{Q:Be}
theorem zH7(k:bQ P T)(l:P.follows .mixedOrders=true){α:Type}(I:α->DS)(J:α->Prop)(μ:α->Nat)(b:α){s:DS}(m:J b)(o:zKr X0.h.length s (I b))
  (h:∀x,J x->vc P T X0 c (I x) (LO X0.h.length I J μ x Q)):SWP P X0 (.loop c) s Q:=by
 intro p X a q r t u;obtain⟨v,z,A,B,C,D⟩:=o.use rfl q r t u;rw[<- z];refine wp_loop_ghost (λn a w=>∃x X,μ x=n/\J x/\X.w=w/\X.h=(I x).h/\HInv X/\Step X0 X/\TInv X (I x) a) (μ b) ⟨b,v,rfl,m,rfl,A,B,C,D⟩ ?_;rintro n E w' ⟨x,Y,rfl,F,rfl,G,H,K,L⟩;refine wp_mono (eN k l c (h x F) p Y E G H K L) λe a w M=>?_;obtain⟨N,Z,d,rfl,f,g,i,j⟩:=M;cases e<;>simp only[Exit.then,LO] at d ⊢
 case normal =>
  obtain⟨y,O,R,S⟩:=d;obtain⟨U,V,W,r3,r4,r5⟩:=S.use rfl f g i j;exact⟨μ y,R,y,U,rfl,O,V,W,r3,r4,r5⟩
 all_goals exact⟨N,Z,d,rfl,f,g,i,j⟩
end
theorem qd_e{α:Type}{n0:Nat}{I:α->DS}{J:α->Prop}{μ:α->Nat}{x:α}{id:Nat}{s:DS}:LO n0 I J μ x Q (.exit id) s=Q (.exit id) s:=nr rfl
theorem qd_r{α:Type}{n0:Nat}{I:α->DS}{J:α->Prop}{μ:α->Nat}{x:α}{s:DS}:LO n0 I J μ x Q .ret s=Q .ret s:=nr rfl
section
variable {P:Program}{T:Tab}{X0:Ctx}{c:Code}{Q:Be}
theorem zTm{α:Type}{n0:Nat}{I:α->DS}{J:α->Prop}{μ:α->Nat}{x:α}{s:DS}(y:α)(h1:J y)(a:μ y < μ x)(b:SF n0 s (I y)):LO n0 I J μ x Q .normal s:=⟨y,h1,a,.inl (.inl b)⟩
end
section
variable {P:Program}{T:Tab}{X0:Ctx}{c:Code}{Q:Be}
theorem QU{α:Type}{n0:Nat}{I:α->DS}{J:α->Prop}{μ:α->Nat}{x:α}{s:DS}(y:α)(i id off len:Nat){z:PV}(h1:J y)(a:μ y < μ x)(b:look s.t i=.c (.own id off len))(d:XW s.h (.own id off len)=some z)
  (e:SF n0 ⟨s.n,(i,.c (.p z))::s.t,uM s.h [id]⟩ (I y)):LO n0 I J μ x Q .normal s:=⟨y,h1,a,.inr ⟨i,id,off,len,z,b,d,e⟩⟩
end
attribute [go_sem] qd_e qd_r
end
end
section
variable {n0:Nat}{s s':DS}
def SE(n0:Nat)(s s':DS):Prop:=∀(X0 X:Ctx) (a:Act),X0.h.length=n0->X.h=s.h->HInv X->Step X0 X->TInv X s a->∃b,b.w=X.w/\b.h=s'.h/\HInv b/\Step X0 b/\TInv b s' a
theorem SE.trans{t u:DS}(h:SE n0 s t)(k:SE n0 t u):SE n0 s u:=λX0 X a b d e f g=>by
 obtain⟨Y,i,j,l,m,n⟩:=h X0 X a b d e f g;obtain⟨Z,o,p,q,r,v⟩:=k X0 Y a b j l m n;exact⟨Z,o.trans i,p,q,r,v⟩
theorem aV(h:SF n0 s s'):SE n0 s s':=λ_ _ _ a b d e f=>h.use a b d e f
theorem cK(h:zFb n0 s s'):SE n0 s s':=λ_ _ _ a b d e f=>h.use a b d e f
theorem WO(i id off len:Nat){x:PV}(l:look s.t i=.c (.own id off len))(m:XW s.h (.own id off len)=some x):SE n0 s ⟨s.n,(i,.c (.p x))::s.t,uM s.h [id]⟩:=by
 intro X0 X a w g d o b;obtain⟨q,k,r,y,e,u,v⟩:=kF [id] d;refine⟨q,k,by rw[r,g],u,o.trans d e,b.size,λj=>?_,b.defs⟩
 simp only[look];split
 .rename_i f;subst f;have:=b.rel j;rw[l] at this;simp only[bH] at this;simp only[bH,cJ];exact qQ d e k this (by rw[g];exact m) v
 .exact(b.rel j).step e
theorem gS(i k:Nat)(l:look s.t i=.c (.p .nil)):SE n0 s ⟨s.n,(i,.c (.own s.h.length 0 0))::s.t,s.h++[.arr k [] false]⟩:=by
 intro X0 X a q e f m b;obtain⟨g,o⟩:=virt f k;refine⟨X.virt k,rfl,by simp[Ctx.virt,e],o,m.trans f g,b.size,λj=>?_,b.defs⟩
 simp only[look];split
 .rename_i d;subst d;have:=b.rel j;rw[l] at this;rw[<- e];exact vC (kT (X:=X) (k:=k) this)
 .exact(b.rel j).step g
theorem zMi{n0:Nat}{s:DS}(i k:Nat)(e:look s.t i=.c (.p .nil)):SE n0 s ⟨s.n,(i,.c (.p (.sl k [])))::s.t,s.h⟩:=by
 intro X0 X a m f g l b;refine⟨X,rfl,f,g,l,b.size,λj=>?_,b.defs⟩;simp only[look];split
 .rename_i d;subst d;have:=b.rel j;rw[e] at this;exact dO.nilOf k this
 .exact b.rel j
theorem FD(i id off len:Nat){k:Nat}{es:Bc}(H:look s.t i=.c (.own id off len))(r:s.h[id]?=some (.arr k es false)):
  SE n0 s ⟨s.n,(i,.c (.own s.h.length 0 len))::s.t,s.h.set id .dead++[.arr k ((es.drop off).take len) false]⟩:=by
 intro X0 X a Z m p A d;rw[<- m] at r;have e:=d.rel i;rw[H] at e;simp only[bH,cJ] at e;obtain⟨I,J,K⟩:=e;obtain⟨B,u⟩:=K _ _ _ r;have C:=p.blk id _ r;cases w:X.G id with
 | none =>
  rw[w] at u;simp only[fI] at C;rcases C with⟨_,rfl⟩|⟨g,_,_,_,D,_⟩
  .simp only[da] at B;have q:len=0:=qd
   subst q;obtain⟨E,v2⟩:=virt p k;have z:=Step.kill v2 id;refine⟨(X.virt k).kill id,rfl,?_,v2.kill id,A.trans p (E.trans v2 z),d.size,λj=>?_,d.defs⟩
   .show (X.h++[_]).set id .dead=_
    rw[ow _ _ I,m];simp
   .simp only[look];split
    .rename_i f;subst f;rw[<- m];refine bH.step z (vC (x:=.own X.h.length 0 0) ?_);exact kT (X:=X) (k:=k) (v:=a.tmps.getD j undef) (by simp only[cJ,dO];exact u)
    .exact((d.rel j).step E).step z
  .rw[w] at D;cases D
 | some g =>
  rw[w] at u;obtain⟨l,o,b,L,M,N,O,R,S,U,r6⟩:=u;obtain⟨F,V⟩:=QX (off:=off) (len:=len) p r w B;refine⟨X.rebase id (g.1,g.2+off*k) k ((es.drop off).take len),rfl,by simp only[Ctx.rebase,m],V,A.trans p F,d.size,λj=>?_,d.defs⟩
  simp only[look];split
  .rename_i f;subst f;rw[<- m];refine vC (x:=.own X.h.length 0 len) ⟨re,J,λk' W Y y=>?_⟩
   simp only[Ctx.rebase] at y ⊢;rw[gv ql] at y;simp only[ff,jg,eu,b0,DB.arr.injEq] at y;obtain⟨rfl,rfl,rfl⟩:=y;refine⟨qk,?_⟩
   rw[aw trivial];refine⟨l,o,b,L,M,N,O,R.imp (λh=>h) λh=>by rw[h];simp,S,U,?_⟩
   have:(off+l)*k=off*k+l*k:=ez _ _ _;simp only[fm];omega
  .exact(d.rel j).step F
section
variable {P:Program}{T:Tab}{X0:Ctx}{s:DS}{Q:Be}
variable {c:Code}{n0:Nat}{s:DS}
theorem zNs{s':DS}(b:SE X0.h.length s s')(h:SWP P X0 c s' Q):SWP P X0 c s Q:=by
 intro d X a e f g i;obtain⟨j,k,l,m,n,o⟩:=b X0 X a rfl e f g i;rw[<- k];exact h d j a l m n o
def LP{α:Type}(n0:Nat)(I:α->DS)(J:α->Prop)(μ:α->Nat)(x:α)(Q:Be):Be:=λe s'=>match e with
 | .normal=>∃y,J y/\μ y < μ x/\SE n0 s' (I y)
 | e=>Q e s'
theorem zH6{α:Type}(I:α->DS)(J:α->Prop)(μ:α->Nat)(b:α)(k:J b)(l:SE X0.h.length s (I b))
 (h:∀x,J x->SWP P X0 c (I x) (LP X0.h.length I J μ x Q)):SWP P X0 (.loop c) s Q:=by
 intro m X a o p q r;obtain⟨t,u,v,z,A,B⟩:=l X0 X a rfl o p q r;rw[<- u];refine wp_loop_ghost (λn a w=>∃x X,μ x=n/\J x/\X.w=w/\X.h=(I x).h/\HInv X/\Step X0 X/\TInv X (I x) a) (μ b) ⟨b,t,rfl,k,rfl,v,z,A,B⟩ ?_;rintro n C w' ⟨x,Y,rfl,D,rfl,E,F,G,H⟩;refine wp_mono (h x D m Y C E F G H) λe a w K=>?_;obtain⟨s',Z,d,rfl,f,g,i,j⟩:=K;cases e<;>simp only[Exit.then,LP] at d ⊢
 case normal =>
  obtain⟨y,L,M,N⟩:=d;obtain⟨O,R,S,U,V,W⟩:=N X0 Z a rfl f g i j;exact⟨μ y,M,y,O,rfl,L,R,S,U,V,W⟩
 all_goals exact⟨s',Z,d,rfl,f,g,i,j⟩
theorem bG(b:bQ P T)(d:P.follows .mixedOrders=true){α:Type}(I:α->DS)(J:α->Prop)(μ:α->Nat)(a:α)(e:J a)(f:SE X0.h.length s (I a))
 (h:∀x,J x->vc P T X0 c (I x) (LP X0.h.length I J μ x Q)):SWP P X0 (.loop c) s Q :=
 zH6 I J μ a e f λx g=>eN b d c (h x g)
theorem zTS{α:Type}{I:α->DS}{J:α->Prop}{μ:α->Nat}{x:α}{id:Nat}:LP n0 I J μ x Q (.exit id) s=Q (.exit id) s:=nr rfl
theorem zTT{α:Type}{I:α->DS}{J:α->Prop}{μ:α->Nat}{x:α}:LP n0 I J μ x Q .ret s=Q .ret s:=nr rfl
theorem eO{α:Type}{I:α->DS}{J:α->Prop}{μ:α->Nat}{x:α}(y:α)(h1:J y)(a:μ y < μ x)(b:SE n0 s (I y)):LP n0 I J μ x Q .normal s:=⟨y,h1,a,b⟩
end
attribute [go_sem] zTS zTT
end
section
variable {P:Program}{T:Tab}{X0:Ctx}{Q:Be}
theorem zCG{α:Type}{I:α->DS}{J:α->Prop}{s:DS}(y:α)(i id off len e d a b:Nat){x j:PV}(h1:J y)(k:look s.t i=.c (.own id off len))(l:XW s.h (.own id off len)=some x)
  (f:look ((i,.c (.p x))::s.t) e=.c (.own d a b))(g:XW (uM s.h [id]) (.own d a b)=some j)
  (m:SF X0.h.length ⟨s.n,(e,.c (.p j))::(i,.c (.p x))::s.t,uM (uM s.h [id]) [d]⟩ (I y)):zBf P X0 I J Q .normal s :=
 ⟨y,h1,λ_ _ h=>RY i id off len k l (RY e d a b f g (SA m h))⟩
section
variable {P:Program}{T:Tab}{X0:Ctx}{Q:Be}
theorem zQM{c:Code}{s:DS}(p q:Nat){l:Nat}{m:Bc}(d:(!(Nat.beq p q) && Nat.ble X0.h.length p && Nat.ble X0.h.length q && Nat.blt p s.h.length)=true)
  (f:s.h[q]?=some (.arr l m false))(h:SWP P X0 c (s.ren p q) Q):SWP P X0 c s Q:=by
 simp only[bn,dg] at d;have b:p≠q:=λe=>by
  have:=d.1.1.1;subst e;rw[Nat.beq_refl] at this;cases this
 have t:=gk d.1.1.2;have u:=gk d.1.2;have g:=Nat.blt_eq.mp d.2;intro n X a k o r j;rw[<- k] at f g;refine h n (X.ren p q) a (by simp only[Ctx.ren,DS.ren,k]) (o.ren b f g) (r.ren b qd qd) ⟨j.size,λi=>?_,j.defs⟩;simp only[DS.ren];rw[CO];exact(j.rel i).ren b f g
end
end
def kL(l:List Ba):List Ba:=l.mergeSort λx y=>decide (x<=y)
theorem MR(l:List Ba):(kL l).Perm l:=l4 _ _
def ZK(l:List Ba):(kL l).length=l.length:=iq ..
theorem BE(l:List Ba):(kL l).Pairwise λx y=>cC y x=false :=
 (sX l).imp λ{a b} h=>by rw[QA] at h;simpa using h
def ZL{l m:List Ba}(a:m.Perm l)(b:m.Pairwise λx y=>cC y x=false):m=kL l:=by grind [List.Perm.eq_of_pairwise,fM,BE,MR]
def eQ(S R:List Ba)(x:Ba)(k:Nat):List Ba:=S.take k++x::(S.drop k++R)
def zDR{S R:List Ba}{x:Ba}{k:Nat}(a:k<=S.length):(eQ S R x k)[k]?=some x:=by grind [eQ]
def PQ{S R:List Ba}{x y:Ba}{k:Nat}(a:k+1<=S.length)(b:S[k]?=some y):(eQ S R x (k+1))[k]?=some y:=by grind [eQ]
def EY{S R:List Ba}{x:Ba}{k:Nat}(a:k<=S.length):(eQ S R x k).length=S.length+1+R.length:=by grind [eQ]
def WG{S R:List Ba}{x y:Ba}{k:Nat}(c:k+1<=S.length)(a:S[k]?=some y):((eQ S R x (k+1)).set (k+1) y).set k x=eQ S R x k:=by
 obtain⟨b,rfl⟩:=bz.1 a;unfold eQ;have d:S.drop k=S[k]::S.drop (k+1):=ib b;grind
def zHH{l:List Ba}{i k:Nat}{x:Ba}(p:l[i]?=some x)(w:k<=(kL (l.take i)).length)(q:∀y∈(kL (l.take i)).drop k,cC x y=true)(r:∀y,(kL (l.take i))[k-1]?=some y->0<k->cC x y=false):
  eQ (kL (l.take i)) (l.drop (i+1)) x k=kL (l.take (i+1))++l.drop (i+1):=by
 have c:=BE (l.take i);have s:=MR (l.take i);have g:l.take (i+1)=l.take i++[x]:=by rw[dm,p];rfl
 rw [g];generalize kL (l.take i)=S at *;have e:S.take k++x::S.drop k=kL (l.take i++[x]):=by
  refine ZL ?_ ?_
  .refine(List.perm_middle).trans ?_;rw[jv];exact((List.Perm.cons x s).trans (o3 (l₁:=[x])))
  .refine ic.2 ⟨c.sublist (mi _ _),dx.2 ⟨λy b=>fL (q y b),c.sublist (oh _ _)⟩,λy b z m=>?_⟩;have a:∀y∈S.take k,cC x y=false:=by
    intro y b;obtain⟨j,t,rfl⟩:=ie.1 b;have u:j<k:=by simp at t;omega
    rw[km];have d:k-1<S.length:=qd
    have f:=r S[k-1] (ay d) qd;rcases cc j (k-1) with h|h
    .have v:=gg.1 c j (k-1) qd d h;cases n:cC x (S[j]' qd) with
     | false=>rfl
     | true =>
      cases o:cC (S[j]' qd) S[k-1] with
      | true=>rw[cO n o] at f;cases f
      | false=>rw[fM o v] at n;rw[n] at f;cases f
    .have:j=k-1:=qd
     subst this;exact f
   rcases bx.1 m with rfl|m
   .exact a y b
   .have:S=S.take k++S.drop k:=(jv _ _).symm;rw[this] at c;exact(ic.1 c).2.2 y b z m
 unfold eQ;rw[<- e,gf];rfl
section
def XA(N:Bn)(s:Ba):Bool:=N.any λx=>!(cC x.n s)
def JI(N:Bn)(s:Ba)(id:Int):Bn:=if XA N s then bY N s id else N
section
variable {N:Bn}{s:Ba}{id:Int}{x:Nm}
theorem zIe:XA (N++[x]) s=(XA N s || !(cC x.n s)):=by simp[XA]
theorem zId(h:XA N s=false):∀y∈N,cC y.n s=true:=by grind [XA]
theorem yI{α:Type}{p:α->Bool}{l m:List α}(h:∀y∈l,p y=true):(l++m).takeWhile p=l++m.takeWhile p/\(l++m).dropWhile p=m.dropWhile p:=qw
theorem SB{α:Type}{p:α->Bool}{l m:List α}(h:(l.any λy=>!(p y))=true):(l++m).takeWhile p=l.takeWhile p/\(l++m).dropWhile p=l.dropWhile p++m:=by
 induction l<;>grind [List.takeWhile_cons,List.dropWhile_cons]
theorem zFy(h:XA N s=false):bY N s id=N++[⟨s,id⟩]:=by
 unfold bY;obtain⟨a,b⟩:=yI (m:=[]) (zId h);simp_all
theorem zQb(h:XA N s=false)(a:cC x.n s=true):XA (N++[x]) s=false/\JI (N++[x]) s id=JI N s id++[x]:=by grind [zIe,JI]
theorem zQa(h:XA N s=false)(a:cC x.n s=false):XA (N++[x]) s=true/\JI (N++[x]) s id=JI N s id++[⟨s,id⟩]++(if !(x.n==s) then [x] else []):=by grind [JI,bY,yI,zId,List.takeWhile_cons,List.dropWhile_cons]
theorem zMH(h:XA N s=true):XA (N++[x]) s=true/\JI (N++[x]) s id=JI N s id++(if !(x.n==s) then [x] else []):=by grind [XA,JI,bY,SB]
theorem zCC(N:Bn)(s:Ba)(id:Int):(JI N s id).length<=N.length+1:=by grind [JI,gQ]
end
end
section
variable {P:Program}{f:FuncId}{h:aF}{i:Nat}{c0 c1:Bf}{a r:DV}{K:Bd}
theorem aA.boxA
 (hc:aA P f [a,.c (.ptr 0 0)] [.box c0] λd o=>d=r/\o=[.box c1])
 (ha:zFT a=true)(x:h[i]?=some (.box c0))(hd:(c0.all NT && (c1.all NT && zFT r))=true)(hk:K r (h.set i (.box c1))):
  aA P f [a,.c (.ptr i 0)] h K:=by
 simp only[bn] at hd;obtain⟨hd0,hd1,hdr⟩:=hd;intro X vals hh s gd hr;subst hh;have hlt:=aR x;obtain⟨g,arr,el,fz,z,hb1,hb2,hb3,hb4⟩:=s.blk i _ x
 let Y:Ctx:=⟨X.w,X.S,λj=>if j=0 then some g else none,[.box c0]⟩
 have hiY:HInv Y:=by
  refine⟨s.slt,λid p l=>?_,λid p g' l u k=>?_,λid p B t g1 M l _ _ q _ _ _ _=>?_⟩
  .cases id with
   | zero =>
    simp only[Y,eu,b0] at l;subst l;exact⟨g,arr,el,fz,rfl,hb1,hb2,hb3,wY hd0 hb4⟩
   | succ n=>simp[Y] at l
  .cases id with
   | zero =>
    simp only[Y,eu,b0,az] at l k;subst l;subst k;exact s.own i _ g x rfl z
   | succ n=>simp[Y] at l
  .have E:=aR l;have e2:=aR q;simp only[Y,bw,da] at E e2;omega
 match vals,hr with
 | [va,v0],hr =>
  obtain ⟨hra,⟨_,hv1,hv2⟩,_⟩:=hr;obtain⟨g',k,rfl⟩:=hv2 _ x;rw[z] at k;cases k;have hrY:eC Y [a,.c (.ptr 0 0)] [va,.pointer (some ⟨g.1,g.2+0,none⟩)] :=
   ⟨CD (X:=X) (Y:=Y) rfl rfl ha hra,⟨Nat.zero_lt_one,rfl,λcells hcells=>⟨g,rfl,rfl⟩⟩,True.intro⟩
  have N:∀v w',Ret Y (λd o=>d=r/\o=[.box c1]) v w'->Ret X K v w':=by
   rintro v w' ⟨d,Z,O,F,A,h4,rfl,h5⟩;have H:Z.h[0]?=some (.box c1):=by rw[h5];rfl
   obtain ⟨p,E,e2,e3,e4⟩:=A.ids 0 _ (by simp[Y]) H rfl;have Q:Z.G 0=some g:=e3;have e4:=e4 g rfl;have I:∀b,b<X.w.heap.size->b≠g.1->Z.w.heap[b]?=X.w.heap[b]? := λb R m=>A.frame b R λid p g' l u C k=>by
    have E:=aR l;simp only[Y,bw,da] at E;have:id=0:=qd
    subst this;simp only[Y,az,b0] at k;subst k;exactλe=>m e.symm
   have T:Step X ⟨Z.w,Z.S,X.G,X.h.set i (.box c1)⟩:=by
    refine⟨A.size,A.os,A.tape,A.output,A.kept,ql,λid t J q D=>?_,λb R hno=>?_,λid p g' l u C k=>?_,λb R=>?_⟩
    .rcases cM q with⟨rfl,rfl,_⟩|⟨m,o⟩
     .exact⟨_,x,True.intro,rfl,λg' k=>by rw[z] at k;cases k;exact e4⟩
     .refine⟨t,o,cX.refl D,rfl,λg' k=>?_⟩;rw[show Z.w.heap[g'.1]?=X.w.heap[g'.1]? from I _ (s.block_lt o D k) λe=>m (s.inj i _ id t g g' x rfl rfl o D z k e.symm).symm]
      exact(s.blk id t o).same D g' k
    .exact I b R λe=>hno i _ g x rfl rfl z e.symm
    .rcases cM l with⟨rfl,rfl,_⟩|⟨m,o⟩
     .exact .inr ⟨id,_,g',x,rfl,rfl,k,rfl⟩
     .exact .inr ⟨id,p,g',o,u,C,k,rfl⟩
    .rcases A.upper b R with h|h|⟨id,p,g',l,u,k,e⟩
     .exact .inl h
     .exact .inr (.inl h)
     .have E:=aR l;simp only[Y,bw,da] at E;have:id=0:=qd
      subst this;simp only[Y,az,b0] at k;subst k;exact .inr (.inr ⟨i,_,g,x,rfl,z,e⟩)
   refine⟨d,⟨Z.w,Z.S,X.G,X.h.set i (.box c1)⟩,O,⟨F.slt,λid p l=>?_,λid p g' l u k=>?_,λid p B t g1 M l u C q J L y U=>?_⟩,T,zAs hdr h4,hk⟩
   .rcases cM l with⟨rfl,rfl,_⟩|⟨m,o⟩
    .obtain⟨g',V,el',fz',k1,k2,k3,k4,k5⟩:=F.blk 0 _ H;rw[Q] at k1;cases k1;exact⟨g,V,el',fz',z,k2,k3,k4,wY hd1 k5⟩
    .by_cases u:p.live=true
     .exact(s.blk id p o).move T rfl λg' k=>I _ (s.block_lt o u k) λe=>m (s.inj i _ id p g g' x rfl rfl o u z k e.symm).symm
     .cases p<;>simp_all[DB.live,fI]
   .rcases cM l with⟨rfl,rfl,_⟩|⟨m,o⟩
    .have hgg:g'=g:=by
      have:X.G id=some g':=k;rw[z] at this;cases this;rfl
     subst hgg;exact F.own 0 _ g' H rfl Q
    .have ho:=s.own id p g' o u k;refine⟨λC hS=>?_,λC=>(A.kept _ (ho.2 C)).1⟩;rcases A.upper _ hS with h|h|⟨j,d',M,W,hl2,y,e⟩
     .exact ho.1 C h
     .have:=s.block_lt o u k;have hYw:Y.w.heap.size=X.w.heap.size:=rfl;omega
     .have E:=aR W;simp only[Y,bw,da] at E;have:j=0:=qd
      subst this;simp only[Y,az,b0] at y;subst y;exact m (s.inj i _ id p g g' x rfl rfl o u z k e).symm
   .rcases cM l with⟨rfl,rfl,_⟩|⟨m,h1'⟩<;>rcases cM q with⟨rfl,rfl,_⟩|⟨hne',h2'⟩
    .rfl
    .exact s.inj id _ B t g1 M x rfl rfl h2' J L y U
    .exact s.inj id p B _ g1 M h1' u C x rfl L y U
    .exact s.inj id p B t g1 M h1' u C h2' J L y U
  have gdY:Gnd P Y:=gd;rcases hc Y _ rfl hiY gdY hrY with⟨O,F⟩|⟨v,w',O,F⟩
  .exact .inl ⟨O,F.mono λe w' ⟨v,U,hv⟩=>⟨v,U,N v w' hv⟩⟩
  .exact .inr ⟨v,w',O,N v w' F⟩
theorem zST
 (e:aA P f [a,.c (.ptr 0 0)] [.box c0] λd b=>d=r/\b=[.box c1])(g:zFT a=true)
 (j:h[i]?=some (.box c0))(k:(c0.all NT && (c1.all NT && zFT r))=true)(l:K r (h.set i (.box c1))):
  aA P f [a,.c (.ptr i 0)] h K:=by grind [aA.boxA]
end
def aA.rowR{P:Program}{f:FuncId}{args:Bi}{k:Nat}{es:Bc}(u:aA P f args [] λd a=>(d=.c (.p .nil)/\es=[])∨∃j,d=.c (.own j 0 es.length)/\a[j]?=some (.arr k es false)):
  aA P f args [] λd a=>d=.c (.own 0 0 es.length)/\a=[.arr k es false]:=by
 intro X vals i w x y;have b:∀v w',Ret X (λd a=>(d=.c (.p .nil)/\es=[])∨∃j,d=.c (.own j 0 es.length)/\a[j]?=some (.arr k es false)) v w'->Ret X (λd a=>d=.c (.own 0 0 es.length)/\a=[.arr k es false]) v w':=by
  rintro v w' ⟨d,Z,o,q,r,s,z⟩;rcases z with⟨rfl,rfl⟩|⟨j,rfl,A⟩
  .have g:HInv (Z.cut 0):=q.cut ql;have l:Step X (Z.cut 0):=r.cut (by rw[i];exact bc _);obtain⟨B,v2⟩:=virt g k;have t:(Z.cut 0).h=[]:=by simp[Ctx.cut]
   refine⟨.c (.own 0 0 0),(Z.cut 0).virt k,o,v2,l.trans g B,?_,rfl,by simp[Ctx.virt,t]⟩
   have C:cJ (Z.cut 0) (.p .nil) v:=s;have:=kT (X:=Z.cut 0) (k:=k) C;rw[t] at this;exact this
  .have D:HR [j] 0 Z.h 0 [.arr k es false]:=⟨⟨by simp[rn,DB.rn,A],rfl⟩,True.intro⟩
   obtain⟨E,F,G⟩:=QN (X0:=X) (h:=[.arr k es false]) (tb:=[j]) (by rw[i];rfl) q r (bc _) rfl rfl D rfl;refine⟨.c (.own 0 0 es.length),Dm.perm Z [j] [.arr k es false],o,E,F,?_,rfl,rfl⟩;exact bH.pull G (c:=.c (.own 0 0 es.length)) rfl (by simpa[DV.rn,CV.rn,rn] using s)
 rcases u X vals i w x y with⟨m,n⟩|⟨v,w',m,n⟩
 .exact .inl ⟨m,n.mono λe w' ⟨v,H,I⟩=>⟨v,H,b v w' I⟩⟩
 .exact .inr ⟨v,w',m,b v w' n⟩
end Go.Dm
end
