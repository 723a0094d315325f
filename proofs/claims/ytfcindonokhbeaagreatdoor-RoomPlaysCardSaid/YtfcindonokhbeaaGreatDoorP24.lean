/- Part 25 of roomPlays_card. No condition. -/
import Derived.Test.YtfcindonokhbeaaGreatDoorP18
set_option linter.all false
set_option maxRecDepth 100000
set_option maxHeartbeats 0
section
namespace Go.Dm
open Go
def zNb{F X:Ctx}(pre:∀(id:Nat) (db:DB),X.h[id]?=some db->F.h[id]?=some db){c:KV}{v a:Value}(h:rO F c v)(b:rO X c a):rO ⟨F.w,F.S,F.G,X.h⟩ c v:=by
 cases c<;>simp only[rO] at h b ⊢
 case p=>exact h
 simp_all
theorem YC{F X:Ctx}(pre:∀(id:Nat) (db:DB),X.h[id]?=some db->F.h[id]?=some db):∀{cs:List KV} {vs a:Bb},gI F cs vs->gI X cs a->gI ⟨F.w,F.S,F.G,X.h⟩ cs vs
 | [],[],_,_,_=>True.intro
 | _::_,_::_,_::_,h,b=>⟨zNb pre h.1 b.1,YC pre h.2 b.2⟩
 | [],_::_,_,h,_=>h.elim
 | _::_,[],_,h,_=>h.elim
 | _::_,_::_,[],_,h=>h.elim
def zNa{F X:Ctx}(pre:∀(id:Nat) (db:DB),X.h[id]?=some db->F.h[id]?=some db){c:CV}{v f:Value}(h:cJ F c v)(b:cJ X c f):cJ ⟨F.w,F.S,F.G,X.h⟩ c v:=by
 cases c<;>simp only[cJ] at h b ⊢
 case p=>exact h
 case own=>exact⟨b.1,h.2.1,λk d e a=>h.2.2 k d e (pre _ _ a)⟩
 case ptr=>exact⟨b.1,h.2.1,λcells a=>h.2.2 cells (pre _ _ a)⟩
 case aptr=>exact⟨b.1,h.2.1,λk d e a=>h.2.2 k d e (pre _ _ a)⟩
 case mp=>exact⟨b.1,h.2.1,λd a=>h.2.2 d (pre _ _ a)⟩
 case bs=>exact⟨b.1,h.2.1,λcells a=>h.2.2 cells (pre _ _ a)⟩
 case eptr=>exact h
 case full=>exact h
 grind [YC]
theorem LX{F X:Ctx}(pre:∀(id:Nat) (db:DB),X.h[id]?=some db->F.h[id]?=some db){bl b:Nat}:∀{cs:Bf} {off a:Nat},cR F bl off cs->cR X b a cs->cR ⟨F.w,F.S,F.G,X.h⟩ bl off cs
 | [],_,_,_,_=>by grind [cR]
 | _::_,_,_,h,c=>by
  obtain⟨⟨v,d,e⟩,f⟩:=h;obtain⟨⟨_,_,g⟩,i⟩:=c;exact⟨⟨v,d,zNa pre e g⟩,LX pre f i⟩
def zM9{F X:Ctx}(pre:∀(id:Nat) (db:DB),X.h[id]?=some db->F.h[id]?=some db){id:Nat}{db:DB}(h:fI F id db)(a:fI X id db):fI ⟨F.w,F.S,F.G,X.h⟩ id db:=by
 cases db<;>simp only[fI] at h a ⊢
 case box =>
  grind [LX]
 case arr=>exact h
 omega
def zSR{X i:Ctx}(hi:HInv X)(d:HInv i)(m:Step X i){k:Nat}{es:Bc}(o:i.h=X.h++[.arr k es false]){v:Value}(q:bH i (.c (.own X.h.length 0 es.length)) v):
  ∃Y:Ctx,Y.w=i.w/\Y.h=X.h/\HInv Y/\Step X Y/\bH Y (.c (.p (.sl k es))) v:=by
 obtain⟨F,f1,f2,f3,f4,f5,f6⟩:=kF [X.h.length] d;have e:F.h=X.h++[.arr k es true]:=by grind [uM,zKn]
 have b:=m.trans d f4;have a:∀(id:Nat) (db:DB),X.h[id]?=some db->F.h[id]?=some db:=λid db h=>by
  rw[e,fu (bz.1 h).1];exact h
 have r:i.h[X.h.length]?=some (.arr k es false):=by rw[o];simp
 refine ⟨⟨F.w,F.S,F.G,X.h⟩,f1,rfl,⟨f5.slt,λid db h=>zM9 a (f5.blk id db (a id db h)) (hi.blk id db h),λid db g h=>f5.own id db g (a id db h),λid db j f g s t u y z=>f5.inj id db j f g s (a _ _ t) u y (a _ _ z)⟩,
  ⟨b.size,b.os,b.tape,b.output,b.kept,bg _,λid f l h A=>b.ids id f l (a _ _ h) A,b.frame,λid db g h=>b.mine id db g (a _ _ h),b.upper⟩,?_⟩
 exact qQ (c:=.own X.h.length 0 es.length) (x:=.sl k es) d f4 f1 (by simp only[cJ];exact q) (iD r rfl) f6
def zRl(P:Program)(T:Tab)(ops:Array Oper)(n:Nat)(o:Oper)(t:Fr)(h:aF)(v:DV)(b:aF):Prop :=
 One P T ops n o t h v b∨∃k a,v=.c (.p (.sl k a))/\b=h/\o.dst≠none/\One P T ops n o t h (.c (.own h.length 0 a.length)) (h++[.arr k a false])
namespace WD
section
variable {P:Program}{T:Tab}{X0:Ctx}
def wN(P:Program)(T:Tab)(ops:Array Oper)(n:Nat)(chain:List Nat)(f:Nat)(V:Nat->DV)(H:Nat->Bool->aF)(t:Fr)(c i:Nat):Prop :=
 ∃ o,ops[i]?=some o/\(chain.contains i=true->∀b:Bool,(b=false->dY ops 9 i f=false)->(b=true->dY ops 9 f i=false)->zRl P T ops n o t (H c b) (V i) (H (c+1) b)) /\
  (chain.contains i=false->i=f->∀s,zMk ops chain i<=s->s<=c->zRl P T ops n o t (H s false) (V i) (H s true)) /\
  (chain.contains i=false->i≠f->∀s (b:Bool),zMk ops chain i<=s->s<=c->(b=false->dY ops 9 i f=false)->(b=true->dY ops 9 f i=false)->zRl P T ops n o t (H s b) (V i) (H s b))
structure RInvF (P:Program) (X0:Ctx) (ops:Array Oper) (n:Nat) (chain:List Nat) (f:Nat) (V:Nat->DV) (H:Nat->Bool->aF) (t0:Fr) (L:Array Bool) (X:Ctx) (a:Act):Prop where
 size:L.size=ops.size
 closed:zBM ops L
 hh:X.h=H (chain.filter λe=>L.getD e false).length (L.getD f false)
 hi:HInv X
 hs:Step X0 X
 sz:a.tmps.size=n
 defs:a.defers=[]
 relA:∀k j,L.getD k false=true->dZ ops k=some j->bH X (V k) (a.tmps.getD j undef)
 relB:∀j,(∀k,L.getD k false=true->dZ ops k≠some j)->bH X (look t0 j) (a.tmps.getD j undef)
section plan
variable {ops:Array Oper}{n:Nat}{chain order:List Nat}
theorem vJ(hT:bQ P T)(gd:Gnd P X0)(z:PlanAt ops n chain order){f:Nat}(hfc:chain.contains f=false){V:Nat->DV}{H:Nat->Bool->aF}{t0:Fr}(hG:∀pre i post,order=pre++i::post->wN P T ops n chain f V H (bM ops V t0 pre) (cnt chain pre) i)
  {L:Array Bool}{X:Ctx}{a:Act}{Q:Exit->Act->World->Prop}(l:RInvF P X0 ops n chain f V H t0 L X a){i:Nat}(hi:i∈Region.ready .any ops L){next:Act->World->Prop}
  (hn:∀m a',RInvF P X0 ops n chain f V H t0 (L.setIfInBounds i true) m a'->next a' m.w):wpOp P ops Q i next a X.w:=by
 obtain⟨hiL,⟨o,S⟩,hpr⟩:=mD hi;have p:L.getD i false=false:=getD_both hiL;have A:i<L.size:=by rw[l.size];exact(im.1 S).1
 obtain⟨pre,post,e⟩:=jr (z.all i o S);have hat:=z.at_ pre i post e;simp only[zFl,S,bn,fb,fj,dg] at hat;obtain⟨⟨⟨⟨_,I⟩,U⟩,_⟩,hnp⟩:=hat;have q:dZ ops i=o.dst:=by simp[dZ,S]
 have B:i ∉ post:=by simpa using hnp
 have waiting:∀k,L.getD k false=true->dY ops 9 k i=false:=λk c=>by
  cases J:dY ops 9 k i with
  | false=>rfl
  | true =>
   have:=qY l.closed 9 k i (l.closed k c) J;rw[p] at this;cases this
 have waited:∀k,dY ops 9 i k=true->L.getD k false=true:=λk c=>qY l.closed 9 i k hpr c;have hch:chain=pre.filter chain.contains++((i::post).filter chain.contains):=by
  conv=>lhs;rw[<- z.chn,e,fq]
 have u:∀k∈post.filter chain.contains,L.getD k false=false:=λk c=>by
  obtain⟨W,h2⟩:=dy.1 c;cases hl:L.getD k false with
  | false=>rfl
  | true =>
   rcases I k W with h|h
   .rw[h2] at h;cases h
   .rw[waiting k hl] at h;cases h
 obtain ⟨o',ho',y⟩:=hG pre i post e;rw[S] at ho';cases ho';have tin:∀h,X.h=h->TInv X ⟨n,rM (o.looksAt ops) (bM ops V t0 pre),h⟩ a:=by
  intro h _;refine⟨l.sz,λj=>?_,l.defs⟩;simp only[pA];split
  .rename_i hj;have hj':j∈o.looksAt ops:=by simpa using hj
   obtain⟨l1,l2⟩:=U j hj';by_cases c:∃k∈pre,dZ ops k=some j
   .obtain ⟨k,C,b⟩:=c;have D:L.getD k false=true:=by
     rcases l1 k C with h|h
     .rw[b] at h;simp at h
     .exact waited k h
    rw[iS b pre t0 C λk' hk' hd'=>z.uniq (e▸fg _ C) (e▸fg _ hk') b hd'];exact l.relA k j D b
   .rw [fS pre t0 λk C b=>c ⟨k,C,b⟩];refine l.relB j λk D b=>?_;have hko:k∈order:=by
     unfold dZ at b;cases E:ops[k]? with
     | none=>rw[E] at b;cases b
     | some ok=>exact z.all k ok E
    rw[e] at hko;rcases c9.1 hko with h|h
    .exact c ⟨k,h,b⟩
    .rcases bx.1 h with rfl|h
     .rw[p] at D;cases D
     .rcases l2 k h with G|G
      .rw[b] at G;simp at G
      .rw[waiting k D] at G;cases G
  .exact True.intro
 have fin:∀G,zRl P T ops n o (bM ops V t0 pre) X.h (V i) G->G=H (chain.filter λk=>(L.setIfInBounds i true).getD k false).length ((L.setIfInBounds i true).getD f false)->wpOp P ops Q i next a X.w:=by
  intro G g hh';have K:∀m,m.h=G->HInv m->Step X m->∀v,(o.dst≠none->bH m (V i) v)->next (a.put o.dst v) m.w:=by
   intro m k1' F r v Z;refine hn m _ ⟨by simp[l.size],λx hx k c=>?_,by rw[k1',hh'],F,l.hs.trans l.hi r,by rw[QS];exact l.sz,by rw[QQ];exact l.defs,λk j c b=>?_,λj hj=>?_⟩
   .rcases gH hx with rfl|hx
    .exact getD_set_true (hpr k c)
    .exact getD_set_true (l.closed x hx k c)
   .rcases gH c with rfl|c
    .rw[q] at b;have hjn:j<n:=z.dlt k j (by rw[q];exact b);rw[b,QR (by rw[l.sz];exact hjn)];exact Z (by rw[b];simp)
    .rw [zM]
     .exact(l.relA k j c b).step r
     .intro hd;have:k=i:=z.uniq (z.all i o S) (by
       unfold dZ at b;cases E:ops[k]? with
       | none=>rw[E] at b;cases b
       | some ok=>exact z.all k ok E) (q.trans hd) b
      rw[this,p] at c;cases c
   .rw[zM]
    .exact(l.relB j λk c=>hj k (getD_set_true c)).step r
    .rw[<- q];exact hj i (dD A false)
  have M:∀(m:Ctx) (d:DV) (v:Value) (v':DV) (h2:aF),(DS.put ⟨n,rM (o.looksAt ops) (bM ops V t0 pre),X.h⟩ o.dst d m.h).h=h2->res (DS.put ⟨n,rM (o.looksAt ops) (bM ops V t0 pre),X.h⟩ o.dst d m.h) o.dst=v'->bH m d v->(o.dst≠none->bH m v' v)/\m.h=h2:=by
   intro m d v v' h2 k1 k2 Z;refine⟨λhne=>?_,by rw[<- k1];unfold DS.put;split<;>(try split)<;>rfl⟩
   cases hd:o.dst with
   | none=>exact absurd hd hne
   | some j =>
    have hjn:j<n:=z.dlt i j (by rw[q];exact hd);simp only[hd,DS.put,aw hjn,res,look,az] at k2;rw[<- k2];exact Z
  have N:(if Region.wanted o (yielded ops a.tmps) then o.wp P a X.w next Q else next (a.put o.dst undef) X.w)->wpOp P ops Q i next a X.w:=by
   intro this;unfold wpOp;simp only[S];split
   .rename_i J;rw[aw J] at this;exact .inl this
   .rename_i J;rw[au J] at this;exact this
  have hone0:=g;rcases g with g|⟨k,es,hv,hhe,hdn,g⟩
  .exact N (uG (Q:=Q) (next:=next) hT (s:=⟨n,rM (o.looksAt ops) (bM ops V t0 pre),X.h⟩) rfl l.hi (gd.step l.hs) (tin _ rfl) g λd v m c F r Z=>by
    obtain⟨q1,q2⟩:=M m d v _ _ c.1 c.2 Z;exact K m q2 F r v q1)
  .exact N (uG (Q:=Q) (next:=next) hT (s:=⟨n,rM (o.looksAt ops) (bM ops V t0 pre),X.h⟩) rfl l.hi (gd.step l.hs) (tin _ rfl) g λd v m c F r Z=>by
    obtain⟨q1,q2⟩:=M m d v _ _ c.1 c.2 Z;obtain⟨Y,y1,y2,y3,y4,y5⟩:=zSR l.hi F r q2 (q1 hdn);rw[<- y1];exact K Y (by rw[y2,hhe]) y3 y4 v (λ_=>by rw[hv];exact y5))
 have hAL:((pre.filter chain.contains).filter λk=>L.getD k false).length=(chain.filter λk=>L.getD k false).length:=by
  conv=>rhs;rw[hch]
  rw [fq,bo];have:((i::post).filter chain.contains).filter (λk=>L.getD k false)=[]:=by
   rw[js];intro k c;obtain⟨W,h2⟩:=dy.1 c;rcases bx.1 W with rfl|W
   .rw[p];simp
   .rw[u k (dy.2 ⟨W,h2⟩)];simp
  rw[this];rfl
 obtain⟨good1,good2,good3⟩:=y;by_cases hc:chain.contains i=true
 .have t:i≠f:=λe=>by subst e;rw[hfc] at hc;cases hc
  have O:chain=pre.filter chain.contains++i::post.filter chain.contains:=by
   conv=>lhs;rw[hch,fc,aw hc]
  have hA:∀k∈pre.filter chain.contains,L.getD k false=true:=λk c=>waited k (z.prs _ _ _ O k c);have hcn:cnt chain pre=(chain.filter λk=>L.getD k false).length:=by
   rw[<- hAL,fw.2 hA];rfl
  have y:=good1 hc (L.getD f false) (λhf=>by
   cases J:dY ops 9 i f with
   | false=>rfl
   | true=>have:=waited f J;rw[hf] at this;cases this) (λhf=>waiting f hf)
  rw[hcn,<- l.hh] at y;refine fin _ y ?_;rw[getD_set_ne false t];refine congrArg (λk=>H k (L.getD f false)) ?_;rw[<- hcn]
  conv=>rhs;rw[O,fq,fc,aw (dD A false)]
  have W:(pre.filter chain.contains).filter (λk=>(L.setIfInBounds i true).getD k false)=pre.filter chain.contains:=fw.2 λk c=>getD_set_true (hA k c);have h2:(post.filter chain.contains).filter (λk=>(L.setIfInBounds i true).getD k false)=[]:=by
   rw[js];intro k c;have hki:i≠k:=λe=>B (e▸(dy.1 c).1);rw[getD_set_ne false hki,u k c];simp
  rw[W,h2];simp[cnt]
 .have hc':chain.contains i=false:=by simpa using hc
  have R:(chain.filter λk=>(L.setIfInBounds i true).getD k false).length=(chain.filter λk=>L.getD k false).length:=by
   refine qD _ _ _ λk c=>?_;have hki:i≠k:=by rintro rfl;exact hc (by simpa using c)
   rw[getD_set_ne false hki]
  have lo:=lV (dY ops 9 i) (λk=>L.getD k false) chain λk _ c=>waited k c;have hi2:(chain.filter λk=>L.getD k false).length<=cnt chain pre:=by rw[<- hAL];exact ei _ _
  by_cases t:i=f
  .have g:=good2 hc' t (chain.filter λk=>L.getD k false).length lo hi2;have hhh:=l.hh;rw[<- t,p] at hhh;rw[<- hhh] at g;refine fin _ g ?_;rw[R,<- t,dD A false]
  .have g:=good3 hc' t (chain.filter λk=>L.getD k false).length (L.getD f false) lo hi2 (λhf=>by
    cases J:dY ops 9 i f with
    | false=>rfl
    | true=>have:=waited f J;rw[hf] at this;cases this) (λhf=>waiting f hf)
   rw[<- l.hh] at g;refine fin _ g ?_;rw[R,getD_set_ne false t,l.hh]
theorem yZ(R:bQ P T)(S:Gnd P X0)(v:PlanAt ops n chain order){f:Nat}(C:chain.contains f=false){V:Nat->DV}{H:Nat->Bool->aF}{t0:Fr}(U:∀pre i b,order=pre++i::b->wN P T ops n chain f V H (bM ops V t0 pre) (cnt chain pre) i)
  {Q:Be}(D:f∈order)(W:Q .normal ⟨n,bM ops V t0 order,H (cnt chain order) true⟩):∀(g:Nat) (L:Array Bool) (X:Ctx) (a:Act),RInvF P X0 ops n chain f V H t0 L X a ->
   (order.filter λk=>!L.getD k true).length<=g->wpAny P .any ops (zE0 X0 Q) g L a X.w:=by
 have done:∀(L:Array Bool) (X:Ctx) (a:Act),RInvF P X0 ops n chain f V H t0 L X a->Region.ready .any ops L=[]->zE0 X0 Q .normal a X.w:=by
  intro L X a r u;have A:∀(b pre:List Nat),order=pre++b->(∀k∈pre,L.getD k false=true)->∀k∈order,L.getD k false=true:=by
   intro b
   induction b with
   | nil=>intro pre e h k c;rw[e,dh] at c;exact h k c
   | cons i b E =>
    intro pre e h;refine E (pre++[i]) (by simpa using e) λk c=>?_;rcases c9.1 c with c|c
    .exact h k c
    .rw [ep] at c;subst c;have x:=v.at_ pre k b e;simp only[zFl,bn,fb] at x;cases Y:L.getD k false with
     | true=>rfl
     | false =>
      have c:k<ops.size:=by
       have:=x.1.1.2;cases s:ops[k]? with
       | none=>rw[s] at this;cases this
       | some ok=>exact(im.1 s).1
      have:k∈Region.ready .any ops L:=QW (getD_in (by rw[r.size];exact c) Y) c λm F=>h m (by simpa using x.1.1.1.1 m F);rw[u] at this;cases this
  have G:=A order [] rfl (λk c=>by cases c)
  refine⟨_,X,W,rfl,?_,r.hi,r.hs,r.sz,λj=>?_,r.defs⟩
  .rw[r.hh,G f D];simp only[cnt,v.chn];rw[fw.2];intro k c;rw[<- v.chn] at c;exact G k (dy.1 c).1
  .by_cases c:∃k∈order,dZ ops k=some j
   .obtain⟨k,t,d⟩:=c;simp only;rw[iS d order t0 t λk' I J=>v.uniq t I d J];exact r.relA k j (G k t) d
   .simp only;rw[fS order t0 λk t d=>c ⟨k,t,d⟩];refine r.relB j λk _ d=>c ⟨k,?_,d⟩;unfold dZ at d;cases s:ops[k]? with
    | none=>rw[s] at d;cases d
    | some ok=>exact v.all k ok s
 have mem_count:∀(L:Array Bool) i,i∈Region.ready .any ops L->i∈order.filter λk=>!L.getD k true:=λL i z=>by
  obtain⟨N,⟨o,O⟩,_⟩:=mD z;exact dy.2 ⟨v.all i o O,by rw[N];rfl⟩
 intro g
 induction g with
 | zero =>
  intro L X a r K;have u:Region.ready .any ops L=[]:=by
   cases u:Region.ready .any ops L with
   | nil=>rfl
   | cons i l =>
    have:=mem_count L i (by rw[u];exact cz);rw[j8.1 (Nat.le_zero.1 K)] at this;cases this
  exact⟨u,done L X a r u⟩
 | succ g E =>
  intro L X a r K;refine⟨λu=>done L X a r u,λi z=>vJ R S v C U r z λZ a' M=>E _ Z a' M ?_⟩;have F:=mem_count L i z;obtain⟨hiL,⟨o,ho⟩,_⟩:=mD z;obtain⟨p,q,e⟩:=jr F;have B:(order.filter λk=>!(L.setIfInBounds i true).getD k true)=(order.filter λk=>!L.getD k true).filter λk=>!(k==i):=by
   rw[o4];refine nv λk c=>?_;by_cases y:i=k
   .subst y;rw[dD (by rw[r.size];exact(im.1 ho).1)];simp
   .rw[getD_set_ne true y];have:(k==i)=false:=by simpa using λe=>y e.symm
    rw[this];simp
  rw[B,e,fq,fc];rw[e,bo,bw] at K;simp only[fa,bh,av,ax,bo];have N:=ei (λk=>!(k==i)) p;have O:=ei (λk=>!(k==i)) q;omega
end plan
def zQq(P:Program)(T:Tab)(ops:Array Oper)(n:Nat)(chain:List Nat)(f:Nat)(V:Nat->DV)(H:Nat->Bool->aF):List Nat->Fr->Nat->Prop
 | [],_,_=>True
 | i::a,t,c=>wN P T ops n chain f V H t c i/\zQq P T ops n chain f V H a (JK t (dZ ops i) (V i)) (c+if chain.contains i then 1 else 0)
theorem sU{ops:Array Oper}{n:Nat}{chain:List Nat}{f:Nat}{V:Nat->DV}{H:Nat->Bool->aF}:∀(l:List Nat) (t:Fr) (c:Nat),zQq P T ops n chain f V H l t c->∀pre i a,l=pre++i::a->wN P T ops n chain f V H (bM ops V t pre) (c+cnt chain pre) i
 | [],_,_,_,pre,i,a,e=>by simp at e
 | x::l,t,c,h,pre,i,a,e=>by
  cases pre with
  | nil =>
   simp only[e9,fk] at e;obtain⟨rfl,_⟩:=e;exact h.1
  | cons y pre =>
   simp only[gn,fk] at e;obtain⟨rfl,e⟩:=e;have:=sU l _ _ h.2 pre i a e;have b:c+cnt chain (x::pre)=(c+if chain.contains x then 1 else 0)+cnt chain pre:=by
    simp only[cnt,fc];split<;>simp<;>omega
   rw[b];exact this
theorem swp_drawnF(r:bQ P T)(s:P.follows .mixedOrders=true){Q:Be}{n:Nat}{t:Fr}{h:aF}{id:Nat}{l:List Oper}(chain order:List Nat)(f:Nat)(V:Nat->DV)(H:Nat->Bool->aF)(m:vA l.toArray n chain order=true)(d:(!chain.contains f && order.contains f)=true)
  (u:H 0 false=h)(v:zQq P T l.toArray n chain f V H order t 0)(w:Q .normal ⟨n,bM l.toArray V t order,H (cnt chain order) true⟩):SWP P X0 (.region id l.toArray true) ⟨n,t,h⟩ Q:=by
 intro x X a y o z p;have m:=GB m;simp only[bn,dg] at d;have A:∀b i c,order=b++i::c->wN P T l.toArray n chain f V H (bM l.toArray V t b) (cnt chain b) i:=λb i c e=>by
  have:=sU order t 0 v b i c e;rw[fm] at this;exact this
 refine wp_region_any s (yZ r x m d.1 A (by simpa using d.2) w _ _ X.draw a ?_ ?_)
 .have d:∀k,(Array.replicate l.toArray.size false).getD k false=false:=getD_replicate_false _;refine⟨ql,λi g=>?_,?_,NY o,z.trans o (mT o),p.size,p.defs,λk j q=>?_,λj _=>(p.rel j).step (mT o)⟩
  .rw[d] at g;cases g
  .have:(chain.filter λe=>(Array.replicate l.toArray.size false).getD e false)=[]:=by
    rw[js];intro k _;rw[d];simp
   rw[this,da,d,u];exact y
  .rw[d] at q;cases q
 .refine bj (ei _ _) ?_;exact m.len
theorem goodD_chg{l:List Oper}{n:Nat}{chain:List Nat}{f c i:Nat}{V:Nat->DV}{H:Nat->aF}{t:Fr}{o:Oper}(b:l[i]?=some o)(d:(match o.dst with|some i=>Nat.blt i n|none=>true)=true)(a:chain.contains i=true)
  (h1:lF P T l.toArray [o] ⟨n,t,H c⟩ (HS (H (c+1)) o.dst (V i))):wN P T l.toArray n chain f V (λc _=>H c) t c i :=
 ⟨o,by simpa using b,λ_ _ _ _=>.inl (mS rfl d h1),λe=>by (rw[a] at e;cases e),λe=>by (rw[a] at e;cases e)⟩
theorem goodD_all{l:List Oper}{n:Nat}{chain:List Nat}{f c i:Nat}{V:Nat->DV}{H:Nat->aF}{t:Fr}{o:Oper}(b:l[i]?=some o)(a:(match o.dst with|some i=>Nat.blt i n|none=>true)=true)(d:chain.contains i=false)
  (h1:∀s,s<=c->lF P T l.toArray [o] ⟨n,t,H s⟩ (HS (H s) o.dst (V i))):wN P T l.toArray n chain f V (λc _=>H c) t c i :=
 ⟨o,by simpa using b,λe=>by (rw[d] at e;cases e),λ_ _ s _ h=>.inl (mS rfl a (h1 s h)),λ_ _ s _ _ h _ _=>.inl (mS rfl a (h1 s h))⟩
theorem goodD_data{l:List Oper}{n:Nat}{chain:List Nat}{f c i k:Nat}{es:Bc}{V:Nat->DV}{H:Nat->aF}{t:Fr}{o:Oper}(j:l[i]?=some o)(b:(match o.dst with|some i=>Nat.blt i n|none=>false)=true)(m:chain.contains i=false)
  (q:V i=.c (.p (.sl k es)))(h1:∀s,s<=c->lF P T l.toArray [o] ⟨n,t,H s⟩ (HS (H s++[.arr k es false]) o.dst (.c (.own (H s).length 0 es.length)))):wN P T l.toArray n chain f V (λc _=>H c) t c i:=by
 have a:o.dst≠none:=by cases a:o.dst<;>simp[a] at b ⊢
 have d:(match o.dst with|some i=>Nat.blt i n|none=>true)=true:=by cases a:o.dst<;>simp[a] at b ⊢;exact b
 have g:∀s,s<=c->zRl P T l.toArray n o t (H s) (V i) (H s):=λs r=>.inr ⟨k,es,q,rfl,a,mS rfl d (h1 s r)⟩;exact⟨o,by simpa using j,λe=>by (rw[m] at e;cases e),λ_ _ s _ h=>g s h,λ_ _ s _ _ h _ _=>g s h⟩
end
end Go.Dm.WD
end
section
namespace Go.Dm
open Go
def zIj(t:Bl)(p:Ba):(eZ t p).length<=t.length:=by
 unfold eZ xB;rw[iq,di];exact ei ..
def zFj{t:Bl}(h:OkT t){p:Ba}{is:Bool}{n:Nd}{c:Cl}(e:n.d.length<=2000):(lN t p is n c).d.length<=2000/\(lN t p is n c).l.length<=120:=by
 have a:=zIj t p;have b:=h.len;unfold lN sO
 repeat' split
 all_goals first
  | exact⟨bc _,bc _⟩
  | exact⟨bc _,bj a b⟩
  | exact⟨e,bc _⟩
  | exact⟨bc _,bj a b⟩
  | exact⟨by simp only[cr,fh];omega,bc _⟩
  | (refine⟨?_,?_⟩<;>simp[anE];done)
def zC6{t:Bl}(h:OkT t){c:Cl}:(doP t c).2.d.length<=2000/\(doP t c).2.l.length<=120:=by
 unfold doP;split
 .exact⟨bc _,bc _⟩
 .split
  .exact⟨bc _,bc _⟩
  .split
   .refine zFj h ?_;unfold bK;split
    .exact bc _
    .exact h.getd _
   .split<;>exact⟨bc _,bc _⟩
def QG{d:Dr}(h:OkW d)(s:Ba)(f:(aW d.N s==0)=false):(lX d (aW d.N s)).isSome=true:=by
 cases a:pT d.N s with
 | none=>grind [aW]
 | some x =>
  obtain⟨b,j⟩:=fJ a;obtain⟨_,y,c,e⟩:=h.nm x b;have:aW d.N s=y.1.i:=by grind [aW]
  rw[this,oK h.g.inc c];rfl
def tU{b o t:Bl}(a:OkT b)(c:OkT o)(d:OkT t):(eX b o t).2.length<=1080:=by
 have e:=zKz b o t;have f:=a.len;have g:=c.len;have h:=d.len;grind [eX]
def FJ{b o t:Bl}(a:OkT b)(c:OkT o)(d:OkT t):(eX b o t).1.length<=1000000:=by
 have e:=a.len;have f:=c.len;have g:=d.len;grind [eX,zCA]
def zCi(id:Int):∀l:List (Ly × Bl),(vM id l).length=l.length
 | []=>rfl
 | y::l=>by
  simp only[vM];split
  .rfl
  .simp[zCi id l]
def zF{d:Dr}{s:Ba}(h:OkW d)(a:iE d s=0):IntKind.i64.wrap (d.x+1)=d.x+1:=by
 have b:=(qJ (d:=d) (s:=s) (by rw[a];rfl)).2.2.2.2;have c:=h.nx.2.1;grind [wrap_i64]
def mN(e:Int):(anE e).d.length<=2000/\(anE e).l.length<=120:=⟨bc _,bc _⟩
def zO0{d:Dr}(h:OkW d)(s:Ba)(c:Cl):(doD d s c).2.d.length<=2000/\(doD d s c).2.l.length<=120:=by
 have a:=zC6 (h.tree (aW d.N s)) (c:=c);rw[zRI (h.tree (aW d.N s))] at a;unfold doD
 repeat' split
 .exact mN _
 .exact mN _
 .exact a
 .exact a
def zD1{d:Dr}(h:OkW d)(o t s:Ba):(lQ d o t s).2.1.length<=1080:=by
 have a:=tU (h.tree (rE d.G (aW d.N o) (aW d.N t))) (h.tree (aW d.N o)) (h.tree (aW d.N t));unfold lQ;simp only
 repeat' split
 all_goals first|exact a|exact bc _
def zBh{d:Dr}(h:OkW d)(s o:Ba):(iI d s o).2.1.length<=1080:=by
 have a:=tU (h.tree (zE4 d (aW d.N s))) (h.tree (aW d.N o)) (h.tree (aW d.N s));unfold iI;simp only
 repeat' split
 all_goals first|exact a|exact bc _
def zF0{d:Dr}(h:OkW d)(a b:Ba):(gM d a b).1.length<=240:=by
 have c:=(pP h a).len;have e:=(pP h b).len;unfold gM
 repeat' split
 .exact bc _
 .exact bc _
 .exact bj (jG _ _) qd
def zIP{d:Dr}(h:OkW d)(e:Ev):((wF d e).2.a.d.length<=2000/\(wF d e).2.a.l.length<=120)/\(wF d e).2.c.length<=1000/\(wF d e).2.f.length<=2000:=by
 unfold wF
 repeat' split
 .exact⟨zO0 h _ _,bc _,bc _⟩
 .exact⟨mN _,bc _,bc _⟩
 .exact⟨mN _,bc _,bc _⟩
 .exact⟨mN _,bj (zF0 h _ _) qh,bc _⟩
 .exact⟨mN _,bc _,bc _⟩
 .exact⟨mN _,bc _,bc _⟩
 .exact⟨mN _,bc _,bj (zD1 h _ _ _) qh⟩
 .exact⟨mN _,bc _,bj (zBh h _ _) qh⟩
 .exact⟨mN _,bc _,bc _⟩
 .exact⟨mN _,bc _,bc _⟩
section
def tF(n:Nd):Bl:=[⟨[102],n⟩]
def zT0{n:Nd}(c:aO n=true)(d:n.t<18446744073709551616):OkT (tF n):=by
 refine⟨⟨ky _ _,λx b=>?_,by simp[tF]⟩,λx b=>?_⟩
 .simp only[tF,ep] at b;subst b;exact⟨ql,rfl,c,d⟩
 .simp only[tF,ep] at b;subst b;rfl
def zQP(m:Int)(t:Nat)(d:Ba)(fo:Bool):cQ (tF ⟨1,m,t,d⟩) [102] fo=([102],true,0):=by
 cases fo<;>rfl
theorem zSL{n b:Nd}(h:OkT (tF n))(c:aO b=true)(d:n.k=1):vB (tF n) [102] b=(tF b,0):=by grind [GC,aZ,tF,aN,wL,zV]
theorem MF{m:Int}{t:Nat}{d:Ba}(b:0<=m/\m<=4095)(c:xT t=true)(e:d.length<=2000):aO ⟨1,m,t,d⟩=true:=by grind [xZ]
section
variable {z:Nat}{a:Ba}
theorem zPf{n:Nd}{u:Bl}{c:Cl}(b:n.k=1)(e:c.p=[102])(f:(decide (c.k<1) || decide (15<c.k))=false)(g:jX c.k=true)(h:cN (tF n) [102] true n c=(u,0)):doP (tF n) c=(u,anE 0):=by
 obtain⟨k,m,t,d⟩:=n;simp only at b;subst b;unfold doP;rw[e,zQP,g];have i:bK (tF ⟨1,m,t,d⟩) [102]=⟨1,m,t,d⟩:=rfl;simp only[f,i,h];rfl
theorem zB1{b:Ba}{f:Nat}(d:xT z=true)(c:z<18446744073709551616)(e:a.length<=2000)(h:f<=a.length)(i:f+b.length<=2000):
  doP (tF ⟨1,420,z,a⟩) ⟨3,[102],[],0,0,f,0,b⟩=(tF ⟨1,420,z,wrD a f b⟩,anE 0):=by
 refine zPf rfl rfl rfl rfl ?_;have g:=zT0 (MF (m:=420) ⟨qh,qh⟩ d e) c
 show yN (tF ⟨1,420,z,a⟩) [102] ⟨1,420,z,a⟩ f b=_;grind [yN,zSL,MF,zBK]
theorem zGk{x y:Nat}:doP (tF ⟨1,420,z,a⟩) ⟨14,[102],[],0,0,x,y,[]⟩=(tF ⟨1,420,z,a⟩,⟨0,nd0,(a.drop x).take y,[]⟩):=by
 unfold doP;have b:sO true ⟨1,420,z,a⟩ x y=⟨0,nd0,(a.drop x).take y,[]⟩:=by
  unfold sO;rfl
 show (tF ⟨1,420,z,a⟩,sO true ⟨1,420,z,a⟩ x y)=_;rw[b]
theorem zAB:doP (tF ⟨1,420,z,a⟩) ⟨12,[102],[],0,0,0,0,[]⟩=(tF ⟨1,420,z,a⟩,⟨0,⟨1,420,z,a⟩,[],[]⟩):=by
 unfold doP;rfl
end
end
end Go.Dm
end
