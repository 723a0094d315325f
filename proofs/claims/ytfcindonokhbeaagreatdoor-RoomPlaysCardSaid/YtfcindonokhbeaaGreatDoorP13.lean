/- Part 14 of roomPlays_card. No condition. -/
import Derived.Test.YtfcindonokhbeaaGreatDoorP12
set_option linter.all false
set_option maxRecDepth 100000
set_option maxHeartbeats 0
section
namespace Go.Dm
open Go
section
section
variable {P:Program}{T:Tab}{X0:Ctx}
section
variable {P:Program}{T:Tab}{X0:Ctx}
def wN(P:Program)(T:Tab)(ops:Array Oper)(n:Nat)(chain:List Nat)(f:Nat)(V:Nat->DV)(H:Nat->Bool->aF)(t:Fr)(c i:Nat):Prop :=
 ∃ o,ops[i]?=some o/\(chain.contains i=true->∀b:Bool,(b=false->dY ops 9 i f=false)->(b=true->dY ops 9 f i=false)->One P T ops n o t (H c b) (V i) (H (c+1) b)) /\
  (chain.contains i=false->i=f->∀s,zMk ops chain i<=s->s<=c->One P T ops n o t (H s false) (V i) (H s true)) /\
  (chain.contains i=false->i≠f->∀s (b:Bool),zMk ops chain i<=s->s<=c->(b=false->dY ops 9 i f=false)->(b=true->dY ops 9 f i=false)->One P T ops n o t (H s b) (V i) (H s b))
end
structure RInvF (P:Program) (X0:Ctx) (ops:Array Oper) (n:Nat) (chain:List Nat) (f:Nat) (V:Nat->DV) (H:Nat->Bool->aF) (t0:Fr) (L:Array Bool) (X:Ctx) (a:Act):Prop where
 size:L.size=ops.size
 closed:zBM ops L
 hh:X.h=H (chain.filter λe=>L.getD e false).length (L.getD f false)
 hi:HInv X
 hs:Step X0 X
 sz:a.tmps.size=n
 defs:a.defers=[]
 relA:∀k j,L.getD k false=true->dZ ops k=some j->bH X (V k) (a.tmps.getD j undef)
 relB:∀j,(∀k,L.getD k false=true->dZ ops k≠some j)->bH X (look t0 j) (a.tmps.getD j undef)
section
variable {P:Program}{T:Tab}{X0:Ctx}
variable {ops:Array Oper}{n:Nat}{chain order:List Nat}
theorem vJ(hT:bQ P T)(gd:Gnd P X0)(C:PlanAt ops n chain order){f:Nat}(hfc:chain.contains f=false){V:Nat->DV}{H:Nat->Bool->aF}{t0:Fr}(hG:∀pre i post,order=pre++i::post->wN P T ops n chain f V H (bM ops V t0 pre) (cnt chain pre) i)
  {L:Array Bool}{X:Ctx}{a:Act}{Q:Exit->Act->World->Prop}(g:RInvF P X0 ops n chain f V H t0 L X a){i:Nat}(hi:i∈Region.ready .any ops L){next:Act->World->Prop}
  (hn:∀Y a',RInvF P X0 ops n chain f V H t0 (L.setIfInBounds i true) Y a'->next a' Y.w):wpOp P ops Q i next a X.w:=by
 obtain⟨hiL,⟨o,I⟩,Z⟩:=mD hi;have m:L.getD i false=false:=getD_both hiL;have u:i<L.size:=by rw[g.size];exact(im.1 I).1
 obtain⟨pre,post,e⟩:=jr (C.all i o I);have hat:=C.at_ pre i post e;simp only[zFl,I,bn,fb,fj,dg] at hat;obtain⟨⟨⟨⟨_,D⟩,J⟩,_⟩,hnp⟩:=hat;have q:dZ ops i=o.dst:=by simp[dZ,I]
 have y:i ∉ post:=by simpa using hnp
 have waiting:∀k,L.getD k false=true->dY ops 9 k i=false:=λk c=>by
  cases E:dY ops 9 k i with
  | false=>rfl
  | true =>
   have:=qY g.closed 9 k i (g.closed k c) E;rw[m] at this;cases this
 have waited:∀k,dY ops 9 i k=true->L.getD k false=true:=λk c=>qY g.closed 9 i k Z c;have hch:chain=pre.filter chain.contains++((i::post).filter chain.contains):=by
  conv=>lhs;rw[<- C.chn,e,fq]
 have r:∀k∈post.filter chain.contains,L.getD k false=false:=λk c=>by
  obtain⟨K,h2⟩:=dy.1 c;cases hl:L.getD k false with
  | false=>rfl
  | true =>
   rcases D k K with h|h
   .rw[h2] at h;cases h
   .rw[waiting k hl] at h;cases h
 obtain ⟨o',ho',t⟩:=hG pre i post e;rw[I] at ho';cases ho';have tin:∀h,X.h=h->TInv X ⟨n,rM (o.looksAt ops) (bM ops V t0 pre),h⟩ a:=by
  intro h _;refine⟨g.sz,λj=>?_,g.defs⟩;simp only[pA];split
  .rename_i hj;have hj':j∈o.looksAt ops:=by simpa using hj
   obtain⟨l1,l2⟩:=J j hj';by_cases c:∃k∈pre,dZ ops k=some j
   .obtain ⟨k,z,b⟩:=c;have A:L.getD k false=true:=by
     rcases l1 k z with h|h
     .rw[b] at h;simp at h
     .exact waited k h
    rw[iS b pre t0 z λk' hk' hd'=>C.uniq (e▸fg _ z) (e▸fg _ hk') b hd'];exact g.relA k j A b
   .rw [fS pre t0 λk z b=>c ⟨k,z,b⟩];refine g.relB j λk A b=>?_;have hko:k∈order:=by
     unfold dZ at b;cases B:ops[k]? with
     | none=>rw[B] at b;cases b
     | some ok=>exact C.all k ok B
    rw[e] at hko;rcases c9.1 hko with h|h
    .exact c ⟨k,h,b⟩
    .rcases bx.1 h with rfl|h
     .rw[m] at A;cases A
     .rcases l2 k h with h'|h'
      .rw[b] at h';simp at h'
      .rw[waiting k A] at h';cases h'
  .exact True.intro
 have fin:∀h',One P T ops n o (bM ops V t0 pre) X.h (V i) h'->h'=H (chain.filter λk=>(L.setIfInBounds i true).getD k false).length ((L.setIfInBounds i true).getD f false)->wpOp P ops Q i next a X.w:=by
  intro h' l hh';have:=uG (Q:=Q) (next:=next) hT (s:=⟨n,rM (o.looksAt ops) (bM ops V t0 pre),X.h⟩) rfl g.hi (gd.step g.hs) (tin _ rfl) l ?_
  .unfold wpOp;simp only[I];split
   .rename_i E;rw[aw E] at this;exact .inl this
   .rename_i E;rw[au E] at this;exact this
  .intro d v Y c hi' M hr;obtain⟨k1,k2⟩:=c;have k1':Y.h=h':=by rw[<- k1];unfold DS.put;split<;>(try split)<;>rfl
   refine hn Y _ ⟨by simp[g.size],λx hx k c=>?_,by rw[k1',hh'],hi',g.hs.trans g.hi M,by rw[QS];exact g.sz,by rw[QQ];exact g.defs,λk j c b=>?_,λj hj=>?_⟩
   .rcases gH hx with rfl|hx
    .exact getD_set_true (Z k c)
    .exact getD_set_true (g.closed x hx k c)
   .rcases gH c with rfl|c
    .rw[q] at b;have hjn:j<n:=C.dlt k j (by rw[q];exact b);simp only[b,DS.put,aw hjn,res,look,az] at k2;rw[b,QR (by rw[g.sz];exact hjn),<- k2];exact hr
    .rw [zM]
     .exact(g.relA k j c b).step M
     .intro hd;have:k=i:=C.uniq (C.all i o I) (by
       unfold dZ at b;cases B:ops[k]? with
       | none=>rw[B] at b;cases b
       | some ok=>exact C.all k ok B) (q.trans hd) b
      rw[this,m] at c;cases c
   .rw[zM]
    .exact(g.relB j λk c=>hj k (getD_set_true c)).step M
    .rw[<- q];exact hj i (dD u false)
 have hAL:((pre.filter chain.contains).filter λk=>L.getD k false).length=(chain.filter λk=>L.getD k false).length:=by
  conv=>rhs;rw[hch]
  rw [fq,bo];have:((i::post).filter chain.contains).filter (λk=>L.getD k false)=[]:=by
   rw[js];intro k c;obtain⟨K,h2⟩:=dy.1 c;rcases bx.1 K with rfl|K
   .rw[m];simp
   .rw[r k (dy.2 ⟨K,h2⟩)];simp
  rw[this];rfl
 obtain⟨N,O,R⟩:=t;by_cases W:chain.contains i=true
 .have p:i≠f:=λe=>by subst e;rw[hfc] at W;cases W
  have F:chain=pre.filter chain.contains++i::post.filter chain.contains:=by
   conv=>lhs;rw[hch,fc,aw W]
  have hA:∀k∈pre.filter chain.contains,L.getD k false=true:=λk c=>waited k (C.prs _ _ _ F k c);have hcn:cnt chain pre=(chain.filter λk=>L.getD k false).length:=by
   rw[<- hAL,fw.2 hA];rfl
  have t:=N W (L.getD f false) (λS=>by
   cases E:dY ops 9 i f with
   | false=>rfl
   | true=>have:=waited f E;rw[S] at this;cases this) (λS=>waiting f S)
  rw[hcn,<- g.hh] at t;refine fin _ t ?_;rw[getD_set_ne false p];refine congrArg (λk=>H k (L.getD f false)) ?_;rw[<- hcn]
  conv=>rhs;rw[F,fq,fc,aw (dD u false)]
  have K:(pre.filter chain.contains).filter (λk=>(L.setIfInBounds i true).getD k false)=pre.filter chain.contains:=fw.2 λk c=>getD_set_true (hA k c);have h2:(post.filter chain.contains).filter (λk=>(L.setIfInBounds i true).getD k false)=[]:=by
   rw[js];intro k c;have U:i≠k:=λe=>y (e▸(dy.1 c).1);rw[getD_set_ne false U,r k c];simp
  rw[K,h2];simp[cnt]
 .have hc':chain.contains i=false:=by simpa using W
  have G:(chain.filter λk=>(L.setIfInBounds i true).getD k false).length=(chain.filter λk=>L.getD k false).length:=by
   refine qD _ _ _ λk c=>?_;have U:i≠k:=by rintro rfl;exact W (by simpa using c)
   rw[getD_set_ne false U]
  have lo:=lV (dY ops 9 i) (λk=>L.getD k false) chain λk _ c=>waited k c;have hi2:(chain.filter λk=>L.getD k false).length<=cnt chain pre:=by rw[<- hAL];exact ei _ _
  by_cases p:i=f
  .have l:=O hc' p (chain.filter λk=>L.getD k false).length lo hi2;have hhh:=g.hh;rw[<- p,m] at hhh;rw[<- hhh] at l;refine fin _ l ?_;rw[G,<- p,dD u false]
  .have l:=R hc' p (chain.filter λk=>L.getD k false).length (L.getD f false) lo hi2 (λS=>by
    cases E:dY ops 9 i f with
    | false=>rfl
    | true=>have:=waited f E;rw[S] at this;cases this) (λS=>waiting f S)
   rw[<- g.hh] at l;refine fin _ l ?_;rw[G,getD_set_ne false p,g.hh]
end
section
variable {P:Program}{T:Tab}{X0:Ctx}
variable {ops:Array Oper}{n:Nat}{chain order:List Nat}
theorem yZ(R:bQ P T)(S:Gnd P X0)(v:PlanAt ops n chain order){f:Nat}(C:chain.contains f=false){V:Nat->DV}{H:Nat->Bool->aF}{t0:Fr}(U:∀pre i b,order=pre++i::b->wN P T ops n chain f V H (bM ops V t0 pre) (cnt chain pre) i)
  {Q:Be}(D:f∈order)(W:Q .normal ⟨n,bM ops V t0 order,H (cnt chain order) true⟩):∀(g:Nat) (L:Array Bool) (X:Ctx) (a:Act),RInvF P X0 ops n chain f V H t0 L X a ->
   (order.filter λk=>!L.getD k true).length<=g->wpAny P .any ops (zE0 X0 Q) g L a X.w:=by
 have done:∀(L:Array Bool) (X:Ctx) (a:Act),RInvF P X0 ops n chain f V H t0 L X a->Region.ready .any ops L=[]->zE0 X0 Q .normal a X.w:=by
  intro L X a r u;have A:∀(b pre:List Nat),order=pre++b->(∀k∈pre,L.getD k false=true)->∀k∈order,L.getD k false=true:=by
   intro b
   induction b with
   | nil=>intro pre e h k c;rw[e,dh] at c;exact h k c
   | cons i b E =>
    intro pre e h;refine E (pre++[i]) (by simpa using e) λk c=>?_;rcases c9.1 c with c|c
    .exact h k c
    .rw [ep] at c;subst c;have x:=v.at_ pre k b e;simp only[zFl,bn,fb] at x;cases Y:L.getD k false with
     | true=>rfl
     | false =>
      have c:k<ops.size:=by
       have:=x.1.1.2;cases s:ops[k]? with
       | none=>rw[s] at this;cases this
       | some ok=>exact(im.1 s).1
      have:k∈Region.ready .any ops L:=QW (getD_in (by rw[r.size];exact c) Y) c λm F=>h m (by simpa using x.1.1.1.1 m F);rw[u] at this;cases this
  have G:=A order [] rfl (λk c=>by cases c)
  refine⟨_,X,W,rfl,?_,r.hi,r.hs,r.sz,λj=>?_,r.defs⟩
  .rw[r.hh,G f D];simp only[cnt,v.chn];rw[fw.2];intro k c;rw[<- v.chn] at c;exact G k (dy.1 c).1
  .by_cases c:∃k∈order,dZ ops k=some j
   .obtain⟨k,t,d⟩:=c;simp only;rw[iS d order t0 t λk' I J=>v.uniq t I d J];exact r.relA k j (G k t) d
   .simp only;rw[fS order t0 λk t d=>c ⟨k,t,d⟩];refine r.relB j λk _ d=>c ⟨k,?_,d⟩;unfold dZ at d;cases s:ops[k]? with
    | none=>rw[s] at d;cases d
    | some ok=>exact v.all k ok s
 have mem_count:∀(L:Array Bool) i,i∈Region.ready .any ops L->i∈order.filter λk=>!L.getD k true:=λL i z=>by
  obtain⟨N,⟨o,O⟩,_⟩:=mD z;exact dy.2 ⟨v.all i o O,by rw[N];rfl⟩
 intro g
 induction g with
 | zero =>
  intro L X a r K;have u:Region.ready .any ops L=[]:=by
   cases u:Region.ready .any ops L with
   | nil=>rfl
   | cons i l =>
    have:=mem_count L i (by rw[u];exact cz);rw[j8.1 (Nat.le_zero.1 K)] at this;cases this
  exact⟨u,done L X a r u⟩
 | succ g E =>
  intro L X a r K;refine⟨λu=>done L X a r u,λi z=>vJ R S v C U r z λZ a' M=>E _ Z a' M ?_⟩;have F:=mem_count L i z;obtain⟨hiL,⟨o,ho⟩,_⟩:=mD z;obtain⟨p,q,e⟩:=jr F;have B:(order.filter λk=>!(L.setIfInBounds i true).getD k true)=(order.filter λk=>!L.getD k true).filter λk=>!(k==i):=by
   rw[o4];refine nv λk c=>?_;by_cases y:i=k
   .subst y;rw[dD (by rw[r.size];exact(im.1 ho).1)];simp
   .rw[getD_set_ne true y];have:(k==i)=false:=by simpa using λe=>y e.symm
    rw[this];simp
  rw[B,e,fq,fc];rw[e,bo,bw] at K;simp only[fa,bh,av,ax,bo];have N:=ei (λk=>!(k==i)) p;have O:=ei (λk=>!(k==i)) q;omega
end
section
variable {P:Program}{T:Tab}{X0:Ctx}
def zQq(P:Program)(T:Tab)(ops:Array Oper)(n:Nat)(chain:List Nat)(f:Nat)(V:Nat->DV)(H:Nat->Bool->aF):List Nat->Fr->Nat->Prop
 | [],_,_=>True
 | i::a,t,c=>wN P T ops n chain f V H t c i/\zQq P T ops n chain f V H a (JK t (dZ ops i) (V i)) (c+if chain.contains i then 1 else 0)
end
section
variable {P:Program}{T:Tab}{X0:Ctx}
theorem sU{ops:Array Oper}{n:Nat}{chain:List Nat}{f:Nat}{V:Nat->DV}{H:Nat->Bool->aF}:∀(l:List Nat) (t:Fr) (c:Nat),zQq P T ops n chain f V H l t c->∀pre i a,l=pre++i::a->wN P T ops n chain f V H (bM ops V t pre) (c+cnt chain pre) i
 | [],_,_,_,pre,i,a,e=>by simp at e
 | x::l,t,c,h,pre,i,a,e=>by
  cases pre with
  | nil =>
   simp only[e9,fk] at e;obtain⟨rfl,_⟩:=e;exact h.1
  | cons y pre =>
   simp only[gn,fk] at e;obtain⟨rfl,e⟩:=e;have:=sU l _ _ h.2 pre i a e;have b:c+cnt chain (x::pre)=(c+if chain.contains x then 1 else 0)+cnt chain pre:=by
    simp only[cnt,fc];split<;>simp<;>omega
   rw[b];exact this
end
section
variable {P:Program}{T:Tab}{X0:Ctx}
theorem swp_drawnF(r:bQ P T)(s:P.follows .mixedOrders=true){Q:Be}{n:Nat}{t:Fr}{h:aF}{id:Nat}{l:List Oper}(chain order:List Nat)(f:Nat)(V:Nat->DV)(H:Nat->Bool->aF)(m:vA l.toArray n chain order=true)(d:(!chain.contains f && order.contains f)=true)
  (u:H 0 false=h)(v:zQq P T l.toArray n chain f V H order t 0)(w:Q .normal ⟨n,bM l.toArray V t order,H (cnt chain order) true⟩):SWP P X0 (.region id l.toArray true) ⟨n,t,h⟩ Q:=by
 intro x X a y o z p;have m:=GB m;simp only[bn,dg] at d;have A:∀b i c,order=b++i::c->wN P T l.toArray n chain f V H (bM l.toArray V t b) (cnt chain b) i:=λb i c e=>by
  have:=sU order t 0 v b i c e;rw[fm] at this;exact this
 refine wp_region_any s (yZ r x m d.1 A (by simpa using d.2) w _ _ X.draw a ?_ ?_)
 .have d:∀k,(Array.replicate l.toArray.size false).getD k false=false:=getD_replicate_false _;refine⟨ql,λi g=>?_,?_,NY o,z.trans o (mT o),p.size,p.defs,λk j q=>?_,λj _=>(p.rel j).step (mT o)⟩
  .rw[d] at g;cases g
  .have:(chain.filter λe=>(Array.replicate l.toArray.size false).getD e false)=[]:=by
    rw[js];intro k _;rw[d];simp
   rw[this,da,d,u];exact y
  .rw[d] at q;cases q
 .refine bj (ei _ _) ?_;exact m.len
end
section
variable {P:Program}{T:Tab}{X0:Ctx}
end
section
variable {P:Program}{T:Tab}{X0:Ctx}
end
section
variable {P:Program}{T:Tab}{X0:Ctx}
end
section plan
variable {ops:Array Oper}{n:Nat}{chain order:List Nat}
end plan
end
end
section
variable {rs:List ResultVar}{R:Bd}{s:DS}{h:aF}{i n:Nat}{P:Program}{f:FuncId}
def v2(h:aF)(R:Bd):DV->DV->Prop
 | .c x,.c y=>R (.tup [.c x,.c y]) h
 | _,_=>False
def zJ6(t:Fr)(h:aF)(R:Bd):List ResultVar->Prop
 | [.tmp i,.tmp j]=>v2 h R (look t i) (look t j)
 | _=>False
def zOA(rs:List ResultVar)(R:Bd):Be
 | .normal,s=>zJ6 s.t s.h R rs
 | .ret,s=>zJ6 s.t s.h R rs
 | _,_=>False
theorem zNH: zOA rs R .normal s=zJ6 s.t s.h R rs:=nr rfl
theorem zNI: zOA rs R .ret s=zJ6 s.t s.h R rs:=nr rfl
theorem zJ7{t:Fr}{j:Nat}:zJ6 t h R [.tmp i,.tmp j]=v2 h R (look t i) (look t j):=nr rfl
theorem v2_c{x y:CV}:v2 h R (.c x) (.c y)=R (.tup [.c x,.c y]) h:=nr rfl
attribute [go_sem] zNH zNI zJ7 v2_c
def zH3(i n:Nat):Option PV->DV
 | some x=>.c (.p x)
 | none=>.c (.own i 0 n)
theorem QB{X Y:Ctx}(a:Y.w=X.w)(b:Y.S=X.S)(d:∀v,bH X (.c (.own i 0 n)) v->bH Y (.c (.own 0 0 n)) v):∀{L:List (Option PV)} {vs:Bb},eC X (L.map (zH3 i n)) vs->eC Y (L.map (zH3 0 n)) vs
 | [],[],_=>True.intro
 | none::_,_::_,h=>⟨d _ h.1,QB a b d h.2⟩
 | some _::_,_::_,h=>⟨CD (X:=X) (Y:=Y) a b rfl h.1,QB a b d h.2⟩
 | [],_::_,h=>h.elim
 | none::_,[],h=>h.elim
 | some _::_,[],h=>h.elim
theorem aA.lent{k:Nat}{es:Bc}(L:List (Option PV)){r:DV}{K:Bd}
 (hc:aA P f (L.map (zH3 0 n)) [.arr k es false] λd H=>d=r/\H=[.arr k es false])
 (A:h[i]?=some (.arr k es false))(hdr:zFT r=true)(hk:K r h):
  aA P f (L.map (zH3 i n)) h K:=by
 intro X vals hh x gd hr;subst hh;have hlt:=aR A;have hb0:=x.blk i _ A
 let Y:Ctx:=⟨X.w,X.S,λj=>if j=0 then X.G i else none,[.arr k es false]⟩
 have t:∀{id:Nat} {db:DB},Y.h[id]?=some db->id=0/\db=.arr k es false:=λ{id db} h=>by
  cases id with
  | zero=>simp only[Y,eu,b0] at h;exact⟨rfl,h.symm⟩
  | succ n=>simp[Y] at h
 have hiY:HInv Y:=by
  refine⟨x.slt,λid db a=>?_,λid db g' a q c=>?_,λid db I y g1 g2 a _ _ l _ _ _ _=>?_⟩
  .obtain⟨rfl,rfl⟩:=t a;simpa only[fI,Y,az] using hb0
  .obtain⟨rfl,rfl⟩:=t a;have p:X.G i=some g':=by simpa[Y] using c
   exact x.own i _ g' A rfl p
  .obtain⟨rfl,_⟩:=t a;obtain⟨rfl,_⟩:=t l;rfl
 have hrY:eC Y (L.map (zH3 0 n)) vals:=QB (X:=X) (Y:=Y) rfl rfl (λv W=>by
  simp only[bH,cJ] at W ⊢;obtain⟨_,hv1,hv2⟩:=W;refine⟨by simp[Y],hv1,λk' es' ro' J=>?_⟩
  obtain⟨_,e⟩:=t J;cases e;have:=hv2 _ _ _ A;simpa only[Y,az] using this) hr
 have M:∀v w',Ret Y (λd H=>d=r/\H=[.arr k es false]) v w'->Ret X K v w':=by
  rintro v w' ⟨d,Z,N,D,z,h4,rfl,h5⟩;have E:Z.h[0]?=some (.arr k es false):=by rw[h5];rfl
  obtain⟨db,e1,e2,e3,e4⟩:=z.ids 0 _ (by simp[Y]) E rfl;have O:Z.G 0=X.G i:=by simpa[Y] using e3
  have e4:∀g,X.G i=some g->yP (X.w.heap[g.1]?) (Z.w.heap[g.1]?):=λg Q=>e4 g (by simpa[Y] using Q);have F:∀b,b<X.w.heap.size->(∀g,X.G i=some g->b≠g.1)->Z.w.heap[b]?=X.w.heap[b]? := λb T m=>z.frame b T λid db g' a q C c=>by
   obtain⟨rfl,_⟩:=t a;have p:X.G i=some g':=by simpa[Y] using c
   exactλe=>m g' p e.symm
  have u:∀{id:Nat} {db:DB} {g':Nat × Nat},id≠i->X.h[id]?=some db->db.live=true->X.G id=some g'->∀g,X.G i=some g->g'.1≠g.1:=λ{id db g'} m H q c g Q e=>m (x.inj i _ id db g g' A rfl rfl H q Q c e.symm).symm;have U:Step X ⟨Z.w,Z.S,X.G,X.h⟩:=by
   refine⟨z.size,z.os,z.tape,z.output,z.kept,bg _,λid y V l B=>⟨y,l,cX.refl B,rfl,λg' c=>?_⟩,λb T hno=>F b T λg Q e=>hno i _ g A rfl rfl Q e.symm,λid db g' a q C c=>.inr ⟨id,db,g',a,q,C,c,rfl⟩,λb T=>?_⟩
   .by_cases m:id=i
    .subst m;exact e4 g' c
    .rw[show Z.w.heap[g'.1]?=X.w.heap[g'.1]? from F _ (x.block_lt l B c) (u m l B c)]
     exact(x.blk id y l).same B g' c
   .rcases z.upper b T with h|h|⟨id,db,g',a,q,c,e⟩
    .exact .inl h
    .exact .inr (.inl h)
    .obtain⟨rfl,_⟩:=t a;have p:X.G i=some g':=by simpa[Y] using c
     exact .inr (.inr ⟨i,_,g',A,rfl,p,e⟩)
  refine⟨d,⟨Z.w,Z.S,X.G,X.h⟩,N,⟨D.slt,λid db a=>?_,λid db g' a q c=>?_,λid db I y g1 g2 a q C l V hg1 p J=>x.inj id db I y g1 g2 a q C l V hg1 p J⟩,U,zAs hdr h4,hk⟩
  .by_cases m:id=i
   .subst m;have o:X.h[id]?=some db:=a;rw[A] at o;cases o;have:=D.blk 0 _ E;simp only[fI,O] at this ⊢;exact this
   .by_cases q:db.live=true
    .exact(x.blk id db a).move U rfl λg' c=>F _ (x.block_lt a q c) (u m a q c)
    .cases db with
     | dead=>simp only[fI]
     | box _=>exact absurd rfl q
     | arr _ _ _=>exact absurd rfl q
     | mp _=>exact absurd rfl q
  .by_cases m:id=i
   .subst m;have o:X.h[id]?=some db:=a;rw[A] at o;cases o;exact D.own 0 _ g' E rfl (by rw[O];exact c)
   .have ho:=x.own id db g' a q c;refine⟨λC hS=>?_,λC=>(z.kept _ (ho.2 C)).1⟩;rcases z.upper _ hS with h|h|⟨j,d',g2,o,hl2,p,e⟩
    .exact ho.1 C h
    .have:=x.block_lt a q c;have hYw:Y.w.heap.size=X.w.heap.size:=rfl;omega
    .obtain⟨rfl,_⟩:=t o;have hg3:X.G i=some g2:=by simpa[Y] using p
     exact u m a q c g2 hg3 e.symm
 have gdY:Gnd P Y:=gd;rcases hc Y _ rfl hiY gdY hrY with⟨N,D⟩|⟨v,w',N,D⟩
 .exact .inl ⟨N,D.mono λe w' ⟨v,J,W⟩=>⟨v,J,M v w' W⟩⟩
 .exact .inr ⟨v,w',N,M v w' D⟩
theorem aA.wkA{args args':Bi}(a:zKh args args')(b:aA P f args' h R):aA P f args h R :=
 λX vals c d e g=>b X vals c d e (zKh.rel a g)
end
section
variable {x:DV}{v:Value}{X Y:Ctx}{i n k:Nat}{es es0:Bc}{P:Program}{f:FuncId}{h:aF}{R:DV->Prop}{K:Bd}
def yF: PV->Bool
 | .sl _ _=>false
 | _=>true
def zEL: CV->Bool
 | .p x=>yF x
 | _=>false
def zQt: EV->Bool
 | .c x=>zEL x
 | .agg a=>a.all zEL
def zJs: DV->Bool
 | .c x=>zEL x
 | .tup a=>a.all zQt
 | _=>false
theorem HB{w w':World}{S a:Nat->Prop}{x:PV}(b:yF x=true)(h:dO w S x v):dO w' a x v:=by
 cases x<;>simp only[yF,av] at b<;>exact h
theorem GZ{x:CV}(a:zEL x=true)(h:cJ X x v):cJ Y x v:=by
 cases x<;>simp only[zEL,av] at a;exact HB a h
theorem MM: ∀{a:Bf} {vs:Bb},a.all zEL=true->bP X a vs->bP Y a vs
 | [],[],_,_=>True.intro
 | x::a,v::vs,b,h=>by
  simp only[dz,bn] at b;exact⟨GZ b.1 h.1,MM b.2 h.2⟩
 | [],_::_,_,h=>h.elim
 | _::_,[],_,h=>h.elim
theorem zJu{x:EV}(a:zQt x=true)(h:fK X x v):fK Y x v:=by
 cases x with
 | c x=>exact GZ a h
 | agg g=>obtain⟨b,d,e⟩:=h;exact⟨b,d,MM a e⟩
theorem MN: ∀{a:Bj} {vs:Bb},a.all zQt=true->cY X a vs->cY Y a vs
 | [],[],_,_=>True.intro
 | x::a,v::vs,b,h=>by
  simp only[dz,bn] at b;exact⟨zJu b.1 h.1,MN b.2 h.2⟩
 | [],_::_,_,h=>h.elim
 | _::_,[],_,h=>h.elim
theorem zJt(a:zJs x=true)(h:bH X x v):bH Y x v:=by
 cases x with
 | jk=>cases a
 | c x=>exact GZ a h
 | agg b=>cases a
 | tup b=>obtain⟨d,e,g⟩:=h;exact⟨d,e,MN a g⟩
def zH1: CV->Bool
 | .p _=>true
 | .clo _ []=>true
 | _=>false
def JG: DV->Bool
 | .c x=>zH1 x
 | .agg a=>a.all zH1
 | _=>false
theorem WS(c:uK X.w Y.w X.S Y.S){x:CV}(b:zH1 x=true)(h:cJ X x v):cJ Y x v:=by
 cases x<;>simp only[zH1,av] at b
 case p=>exact dO.kept c h
 case clo f a =>
  cases a with
  | nil =>
   obtain⟨d,e,g⟩:=h;cases d with
   | nil=>exact⟨[],e,True.intro⟩
   | cons _ _=>exact g.elim
  | cons _ _=>cases b
theorem KT(c:uK X.w Y.w X.S Y.S):∀{a:Bf} {vs:Bb},a.all zH1=true->bP X a vs->bP Y a vs
 | [],[],_,_=>True.intro
 | x::a,v::vs,b,h=>by
  simp only[dz,bn] at b;exact⟨WS c b.1 h.1,KT c b.2 h.2⟩
 | [],_::_,_,h=>h.elim
 | _::_,[],_,h=>h.elim
theorem zH2(b:uK X.w Y.w X.S Y.S)(a:JG x=true)(h:bH X x v):bH Y x v:=by
 cases x with
 | jk=>cases a
 | c x=>exact WS b a h
 | agg d=>obtain⟨e,g,j⟩:=h;exact⟨e,g,KT b a j⟩
 | tup d=>cases a
def zTO(i n:Nat):Option DV->DV
 | some d=>d
 | none=>.c (.own i 0 n)
def zSF(k:Nat)(es:Bc):Option DV->DV
 | some d=>d
 | none=>.c (.p (.sl k es))
theorem CN(b:uK X.w Y.w X.S Y.S)(e:∀v,bH X (.c (.own i 0 n)) v->bH Y (.c (.p (.sl k es))) v):
  ∀{L:List (Option DV)} {vs:Bb},(∀d,some d∈L->JG d=true)->eC X (L.map (zTO i n)) vs->eC Y (L.map (zSF k es)) vs
 | [],[],_,_=>True.intro
 | none::_,_::_,a,h=>⟨e _ h.1,CN b e (λd g=>a d (cu _ g)) h.2⟩
 | some _::_,_::_,a,h=>⟨zH2 b (a _ cz) h.1,CN b e (λd g=>a d (cu _ g)) h.2⟩
 | [],_::_,_,h=>h.elim
 | none::_,[],_,h=>h.elim
 | some _::_,[],_,h=>h.elim
theorem aA.lend(L:List (Option DV))(hL:∀d,some d∈L->JG d=true)
 (hc:aA P f (L.map (zSF k (es.take n))) [] λd h'=>R d/\h'=[])(h0:h[i]?=some (.arr k es false))(hk:∀d,R d->zJs d=true/\K d h):
  aA P f (L.map (zTO i n)) h K:=by
 intro X vals hh r gd hr;subst hh;have E:=r.blk i _ h0
 let Y:Ctx:=⟨X.w,λb=>X.S b∨∃g,X.G i=some g/\b=g.1,λ_=>none,[]⟩
 have hiY:HInv Y:=⟨λb c=>by
  rcases c with c|⟨g,m,rfl⟩
  .exact r.slt b c
  .exact r.block_lt h0 rfl m,λid q a=>by simp[Y] at a,λid q g a=>by simp[Y] at a,λid q F s g1 D a=>by simp[Y] at a⟩
 have H:uK X.w Y.w X.S Y.S:=λb c=>⟨.inl c,rfl⟩;have gdY:Gnd P Y:=by
  obtain⟨W0,g1,D⟩:=gd;exact⟨W0,g1,λb c=>⟨.inl (D b c).1,(D b c).2⟩⟩
 have hrY:eC Y (L.map (zSF k (es.take n))) vals:=CN H (λv I=>by
  obtain⟨_,_,I⟩:=I;obtain⟨hv1,z⟩:=I _ _ _ h0;have J:(es.take n).length=n:=by rw[cr];omega
  simp only[bH,cJ,dO];cases m:X.G i with
  | none =>
   rw[m] at z;rcases E with⟨_,rfl⟩|⟨t,_,_,_,M,_⟩
   .simp only[mu] at J ⊢;exact⟨none,0,z,bg _,.inl trivial⟩
   .rw[m] at M;cases M
  | some g =>
   rw[m] at z;obtain⟨cap,o,arr,el,fz,q1,q2,q3,q4,q5,q6⟩:=z;refine⟨some ⟨g.1,o,none⟩,cap,by rw[J];exact q2,qd,?_⟩
   by_cases hn:n=0
   .subst hn;exact .inl lu
   .right;have N:o=g.2:=by rcases q3 with q3|q3<;>omega
    subst N;refine⟨g.1,g.2,rfl,.inr ⟨g,m,rfl⟩,?_⟩;rcases E with⟨M,_⟩|⟨t,arr',el',fz',p1,p2,p3,p4,p5⟩
    .rw[m] at M;cases M
    .rw[m] at p1;cases p1;exact(p5.take n).move H rfl) hL hr
 have O:∀v w',Ret Y (λd h'=>R d/\h'=[]) v w'->Ret X K v w':=by
  rintro v w' ⟨d,Z,Q,T,y,h4,h5,h6⟩;obtain⟨hs,hK⟩:=hk d h5;have B:∀b,b<X.w.heap.size->Z.w.heap[b]?=X.w.heap[b]? := λb c=>y.frame b c λid q g a=>by simp[Y] at a
  have U:∀g,X.G i=some g->¬ X.S g.1:=λg m=>(r.own i _ g h0 rfl m).1 rfl
  let Z':Ctx:=⟨Z.w,λb=>Z.S b/\∀g,X.G i=some g->b≠g.1,X.G,X.h⟩
  have V:Step X Z':=by
   refine⟨y.size,y.os,y.tape,y.output,λb c=>⟨⟨(y.kept b (.inl c)).1,λg m e=>U g m (e▸c)⟩,(y.kept b (.inl c)).2⟩,bg _,λid s W p C=>⟨s,p,cX.refl C,rfl,λt l=>?_⟩,λb c _=>B b c,λid q t a u A l=>.inr ⟨id,q,t,a,u,A,l,rfl⟩,λb c=>?_⟩
   .rw[show Z'.w.heap[t.1]?=X.w.heap[t.1]? from B _ (r.block_lt p C l)]
    exact(r.blk id s p).same C t l
   .obtain ⟨hb1,hb2⟩:=c;rcases y.upper b hb1 with h|h|⟨id,q,t,a,_⟩
    .rcases h with h|⟨g,m,e⟩
     .exact .inl h
     .exact absurd e (hb2 g m)
    .exact .inr (.inl h)
    .simp[Y] at a
  have hi':HInv Z':=by
   refine⟨λb c=>T.slt b c.1,λid q a=>?_,λid q t a u l=>?_,λid q F s g1 D a u A p W hg1 hg2 he=>r.inj id q F s g1 D a u A p W hg1 hg2 he⟩
   .by_cases u:q.live=true
    .exact(r.blk id q a).move V rfl λt l=>B _ (r.block_lt a u l)
    .cases q with
     | dead=>simp only[fI]
     | box _=>exact absurd rfl u
     | arr _ _ _=>exact absurd rfl u
     | mp _=>exact absurd rfl u
   .have N:=r.own id q t a u l;refine⟨λA hS=>?_,λA=>⟨(y.kept _ (.inl (N.2 A))).1,λg m e=>U g m (e▸N.2 A)⟩⟩;rcases y.upper _ hS.1 with h|h|⟨j,d',D,hdb2,_⟩
    .rcases h with h|⟨g,m,e⟩
     .exact N.1 A h
     .exact hS.2 g m e
    .have:=r.block_lt a u l;have hYw:Y.w.heap.size=X.w.heap.size:=rfl;omega
    .simp[Y] at hdb2
  exact⟨d,Z',Q,hi',V,zJt hs h4,hK⟩
 rcases hc Y _ rfl hiY gdY hrY with⟨Q,T⟩|⟨v,w',Q,T⟩
 .exact .inl ⟨Q,T.mono λe w' ⟨v,he,I⟩=>⟨v,he,O v w' I⟩⟩
 .exact .inr ⟨v,w',Q,O v w' T⟩
theorem zT5(a:es.take n=es0)
 (b:aA P f [.c (.p (.sl k es0))] [] λd e=>R d/\e=[])(g:h[i]?=some (.arr k es false))(j:∀d,R d->zJs d=true/\K d h):aA P f [.c (.own i 0 n)] h K:=by
 subst a;exact aA.lend [none] ql b g j
theorem zNB(b:JG x=true)(a:es.take n=es0)
 (e:aA P f [.c (.p (.sl k es0)),x] [] λd g=>R d/\g=[])(j:h[i]?=some (.arr k es false))(l:∀d,R d->zJs d=true/\K d h):aA P f [.c (.own i 0 n),x] h K:=by
 subst a;exact aA.lend [none,some x] (by simpa using b) e j l
theorem zSV{y:DV}(e:JG x=true)(g:JG y=true)(a:es.take n=es0)
 (j:aA P f [.c (.p (.sl k es0)),x,y] [] λd l=>R d/\l=[])(m:h[i]?=some (.arr k es false))(o:∀d,R d->zJs d=true/\K d h):aA P f [.c (.own i 0 n),x,y] h K:=by
 subst a;exact aA.lend [none,some x,some y] (by
  intro d b;simp only[bx,b0,oc,or_false,reduceCtorEq,false_or] at b;rcases b with rfl|rfl
  .exact e
  .exact g) j m o
end
end Go.Dm
end
