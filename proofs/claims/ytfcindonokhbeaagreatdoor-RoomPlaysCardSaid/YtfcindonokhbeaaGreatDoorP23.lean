/- Part 24 of roomPlays_card. No condition. -/
import Derived.Test.YtfcindonokhbeaaGreatDoorP22
set_option linter.all false
set_option maxRecDepth 100000
set_option maxHeartbeats 0
section
namespace Go.Dm
open Go
section
section rules
variable {P:Program}{T:Tab}{X0:Ctx}{b:Nat}
theorem oT(G:bQ P T)(H:Gnd P X0){c:Array Oper}{C:List Oper}{Q':Exit->Act->World->Prop}:∀(l:List Oper) {s:DS} {X:Ctx} {a:Act},X.h=s.h->HInv X->Step X0 X->TInv X s a ->
  lF P T c l s (λm=>∀e a',e.h=m.h->HInv e->Step X0 e->TInv e m a'->wpList P c Q' C a' e.w)->wpList P c Q' (l++C) a X.w
 | [],s,X,a,D,y,z,q,h=>h X a D y z q
 | o::f,s,X,a,D,y,z,q,h=>by
  refine wpList_step λK L=>?_;have M:dop P T o.op s.t s.h (λd R=>lF P T c f (s.put o.dst d R) (λm=>∀e a',e.h=m.h->HInv e->Step X0 e->TInv e m a'->wpList P c Q' C a' e.w))->o.wp P a X.w K Q':=by
   intro g;rw[<- D] at g;refine EB G y (H.step z) q.ev g λd v e p E r S=>L _ _ ?_;refine oT G H f (s:=s.put o.dst d e.h) ?_ p (z.trans y E) ?_ S
   .unfold DS.put;split<;>(try split)<;>rfl
   .exact(q.step E).put r o.dst e.h
  have skip:lF P T c f (s.put o.dst (.tup []) s.h) (λm=>∀e a',e.h=m.h->HInv e->Step X0 e->TInv e m a'->wpList P c Q' C a' e.w)->K (a.put o.dst undef) X.w:=by
   intro g;refine L _ _ (oT G H f (s:=s.put o.dst (.tup []) s.h) (by rw[D];unfold DS.put;split<;>(try split)<;>rfl) y z (q.put (d:=.tup []) (v:=undef) ⟨[],rfl,True.intro⟩ o.dst s.h) g)
  simp only[lF] at h;split at h
  .rename_i A;rw[aw (by simp[Region.wanted,A])];exact M h
  .rename_i j B A;have N:∀d,((c[j]?).bind (·.dst)).map (λi=>look s.t i)=some d->∃i,(c[j]?).bind (·.dst)=some i/\bH X d (a.tmps.getD i undef):=by
    intro d g;obtain⟨i,p,E⟩:=du.1 g;exact⟨i,p,E▸q.rel i⟩
   split at h
   .rename_i v g;obtain⟨i,p,r⟩:=N _ g;simp only[bH,cJ,dO] at r;have x:a.tmps[i]?=some (.bool v):=by
     rcases cc i a.tmps.size with n|I
     .rw[iz n];simp only[Array.getD,n,dif_pos] at r
      congr 1
     .rw[iu,jx I] at r;cases r
    have k:yielded c a.tmps j=some v:=by
     unfold yielded;rw[p];simp only[j5,x]
    by_cases F:v=B
    .rw[aw (by simp[Region.wanted,A,k,F])];exact M (h.1 F)
    .rw[au (by simp[Region.wanted,A,k,F])];exact skip (h.2 F)
   .rename_i g;obtain⟨i,p,O,x,U⟩:=N _ g;have J:O=[]:=by
     cases O with
     | nil=>rfl
     | cons _ _=>exact U.elim
    subst J;have k:yielded c a.tmps j=none:=by
     unfold yielded;rw[p];simp only[j5];rw[iu] at x;cases V:a.tmps[i]? with
     | none=>rfl
     | some u=>rw[V] at x;simp only[fe] at x;rw[x]
    rw[au (by simp[Region.wanted,A,k])];exact skip h
   .exact h.elim
def zTs(b:Nat)(X0:Ctx)(Q:List Ba->Be):Exit->Act->World->Prop:=λe a w =>
 ∃s X ks,Q ks e s/\X.w=w/\X.h=s.h/\HInv X/\Step X0 X/\TInv X s a/\uJ X b/\wO X.w b ks
def JR(P:Program)(b:Nat)(X0:Ctx)(c:Code)(s:DS)(ks:List Ba)(Q:List Ba->Be):Prop :=
 Gnd P X0->X0.w.heap.size<=b->∀(X:Ctx) (a:Act),X.h=s.h->HInv X->Step X0 X->TInv X s a->uJ X b->wO X.w b ks->c.wp P (zTs b X0 Q) a X.w
def zRi(P:Program)(b:Nat)(X0:Ctx)(y:Code)(ks:List Ba)(Q:List Ba->Be):Be:=λe a=>match e with
 | .normal=>JR P b X0 y a ks Q
 | e=>Q ks e a
variable {s:DS}{ks:List Ba}{Q:List Ba->Be}
theorem zTn{y:Code}{s:DS}:zRi P b X0 y ks Q .normal s=JR P b X0 y s ks Q:=nr rfl
theorem qm_r{y:Code}{s:DS}:zRi P b X0 y ks Q .ret s=Q ks .ret s:=nr rfl
theorem qm_e{y:Code}{id:Nat}{s:DS}:zRi P b X0 y ks Q (.exit id) s=Q ks (.exit id) s:=nr rfl
theorem zQO{c:Code}(h:∀f:Ctx,f.h=s.h->SWP P f c s (Q ks)):JR P b X0 c s ks Q:=λl _ X a g d i m n o =>
 wp_mono (h X g (l.step i) X a g d (Step.refl d) m) λe a w ⟨p,q,r,t,u,j,k,v⟩=>by
  obtain⟨x,y⟩:=n.step j k;exact⟨p,q,ks,r,t,u,j,i.trans d k,v,x,o.same y⟩
theorem lM(d:bQ P T)(e:P.follows .mixedOrders=true){c:Code}(h:∀a:Ctx,a.h=s.h->vc P T a c s (Q ks)):JR P b X0 c s ks Q :=
 zQO λa f=>eN d e c (h a f)
section
variable {P:Program}{T:Tab}{X0:Ctx}{b:Nat}
variable {s:DS}{ks:List Ba}{Q:List Ba->Be}
end
theorem qX{x y:Code}(h:JR P b X0 x s ks λc=>zRi P b X0 y c Q):JR P b X0 (.seq x y) s ks Q:=by
 intro f g X a q r t u v z;refine wp_seq (wp_mono (h f g X a q r t u v z) λe a w A=>?_);obtain⟨B,i,k,d,rfl,j,l,m,n,o,p⟩:=A;cases e<;>simp only[Exit.then,zRi] at d ⊢
 case normal=>exact d f g i a j l m n o p
 all_goals exact⟨B,i,k,d,rfl,j,l,m,n,o,p⟩
theorem dH(c:bQ P T)(d:P.follows .mixedOrders=true){x y:Code}(h:∀a:Ctx,a.h=s.h->vc P T a x s (zRi P b X0 y ks Q)):JR P b X0 (.seq x y) s ks Q :=
 qX (lM c d h)
theorem uH{id:Nat}{c:Code}(h:JR P b X0 c s ks λf=>sN id (Q f)):JR P b X0 (.block id c) s ks Q:=by
 intro r t X a u v x y z A;refine wp_block (wp_mono (h r t X a u v x y z A) λe a w B=>?_);obtain⟨g,i,k,d,rfl,j,l,m,n,o,p⟩:=B;cases e<;>simp only[Exit.inBlock,sN] at d ⊢
 case exit C =>
  split
  .rename_i q;rw[aw q] at d;exact⟨g,i,k,d,rfl,j,l,m,n,o,p⟩
  .rename_i q;rw[au q] at d;exact⟨g,i,k,d,rfl,j,l,m,n,o,p⟩
 all_goals exact⟨g,i,k,d,rfl,j,l,m,n,o,p⟩
theorem zES{c:Code}{d:Be}(h:JR P b X0 c s ks λ_=>d):Gnd P X0->X0.w.heap.size<=b->∀(X:Ctx) (a:Act),X.h=s.h->HInv X->Step X0 X->TInv X s a->uJ X b->wO X.w b ks->c.wp P (zE0 X0 d) a X.w:=λe f X a g i j k l m =>
 wp_mono (h e f X a g i j k l m) λ_ _ _ ⟨n,o,_,p,q,r,t,u,v,_,_⟩=>⟨n,o,p,q,r,t,u,v⟩
theorem uJ.cut{X:Ctx}(a:uJ X b)(n:Nat):uJ (X.cut n) b:=⟨a.1,a.2.1,λid c g d e f=>a.2.2 id c g (hU d).1 e f⟩
theorem uJ.ren{X:Ctx}(a:uJ X b){p q:Nat}(d:p≠q){k:Nat}{es:Bc}(l:X.h[q]?=some (.arr k es false)):uJ (X.ren p q) b:=⟨a.1,a.2.1,λid m g i f c=>by
 rcases jR d i f with⟨rfl,e,_⟩|⟨e,n,x,j,rfl⟩
 .simp only[Ctx.ren,az] at c;exact a.2.2 q _ g e f c
 .simp only[Ctx.ren,au e] at c;refine a.2.2 id x g j ?_ c;cases x<;>simp_all[DB.live,renB]⟩
theorem SF.useA{n0:Nat}{s c:DS}(h:SF n0 s c){X0 X:Ctx}{a:Act}(r:X0.h.length=n0)(j:X.h=s.h)(hi:HInv X)(k:Step X0 X)(f:TInv X s a)(l:uJ X b):∃d,d.w=X.w/\d.h=c.h/\HInv d/\Step X0 d/\TInv d c a/\uJ d b:=by
 obtain⟨m,t,n,o,p⟩:=h;have e:(X.cut c.h.length).h=c.h:=by grind [Ctx.cut]
 refine⟨X.cut c.h.length,rfl,e,hi.cut (by rw[j,<- n];exact o),k.cut qd,⟨f.size.trans m.symm,λi=>?_,f.defs⟩,l.cut _⟩;rcases p.look i with g|⟨g,q⟩
 .rw[g];exact True.intro
 .have:=f.rel i;rw[<- g] at this;exact this.cut q
theorem BH.useA{n0:Nat}{s g:DS}(h:BH n0 s g){X0 X:Ctx}{a:Act}(k:X0.h.length=n0)(l:X.h=s.h)(hi:HInv X)(m:Step X0 X)(e:TInv X s a)(n:uJ X b):∃d,d.w=X.w/\d.h=g.h/\HInv d/\Step X0 d/\TInv d g a/\uJ d b:=by
 rcases h with h|⟨p,q,o,r,c,t,u,j,f,h⟩
 .exact h.useA k l hi m e n
 .rw[<- l] at j f;refine h.useA (X:=X.ren p q) k ?_ (hi.ren c f j) (m.ren c qd qd) ⟨e.size,λi=>?_,e.defs⟩ (n.ren c f)
  .grind [Ctx.ren,DS.ren]
  .simp only[DS.ren];rw[CO];exact(e.rel i).ren c f j
def XX{α:Type}(n0:Nat)(I:α->DS)(c:α->List Ba)(J:α->Prop)(μ:α->Nat)(x:α)(Q:List Ba->Be)(ks:List Ba):Be:=λe a=>match e with
 | .normal=>∃y,J y/\μ y < μ x/\ks=c y/\BH n0 a (I y)
 | e=>Q ks e a
theorem ZP{α:Type}{c:Code}(I:α->DS)(f:α->List Ba)(J:α->Prop)(μ:α->Nat)(d:α)(q:J d)(r:ks=f d)(t:BH X0.h.length s (I d))
  (h:∀x,J x->JR P b X0 c (I x) (f x) (XX X0.h.length I f J μ x Q)):JR P b X0 (.loop c) s ks Q:=by
 intro u v X a z A B C D i;obtain⟨E,F,G,H,K,L,M⟩:=t.useA rfl z A B C D;rw[<- F] at i ⊢;refine wp_loop_ghost (λn a w=>∃x X,μ x=n/\J x/\X.w=w/\X.h=(I x).h/\HInv X/\Step X0 X/\TInv X (I x) a/\uJ X b/\wO X.w b (f x)) (μ d) ⟨d,E,rfl,q,rfl,G,H,K,L,M,r▸i⟩ ?_;rintro n N w' ⟨x,Y,rfl,O,rfl,R,S,U,V,W,k7⟩;refine wp_mono (h x O u v Y N R S U V W k7) λe a w hp=>?_;obtain⟨s',Z,k,g,rfl,j,l,m,o,p,p8⟩:=hp;cases e<;>simp only[Exit.then,XX] at g ⊢
 case normal =>
  obtain⟨y,q1,q2,rfl,q3⟩:=g;obtain⟨Z',r1,r2,r3,r4,r5,r6⟩:=q3.useA rfl j l m o p;grind
 all_goals exact⟨s',Z,k,g,rfl,j,l,m,o,p,p8⟩
theorem zM2{α:Type}{n0:Nat}{I:α->DS}{a:α->List Ba}{J:α->Prop}{μ:α->Nat}{x:α}{s:DS}(y:α)(h1:J y)(c:μ y < μ x)(d:ks=a y)(e:BH n0 s (I y)):XX n0 I a J μ x Q ks .normal s:=⟨y,h1,c,d,e⟩
theorem zTV{α:Type}{n0:Nat}{I:α->DS}{a:α->List Ba}{J:α->Prop}{μ:α->Nat}{x:α}{s:DS}:XX n0 I a J μ x Q ks .ret s=Q ks .ret s:=nr rfl
theorem zTU{α:Type}{n0:Nat}{I:α->DS}{a:α->List Ba}{J:α->Prop}{μ:α->Nat}{x:α}{id:Nat}{s:DS}:XX n0 I a J μ x Q ks (.exit id) s=Q ks (.exit id) s:=nr rfl
theorem zMy{X:Ctx}(hi:HInv X){w':World}{o:Obj}(a:Grew X.w w' o):HInv (X.at_ w')/\Step X (X.at_ w')/\uJ (X.at_ w') X.w.heap.size:=by
 have j:Step X (X.at_ w'):={
  size:=by simp only[Ctx.at_,a.size];omega
  os:=a.os
  tape:=a.tape
  output:=a.output
  kept:=λc f=>⟨f,a.old (hi.slt c f)⟩
  len:=bg _
  ids:=λid k _ h d=>⟨k,h,cX.refl d,rfl,λg i=>by
   have:=(hi.blk id k h).same d g i;show yP _ (w'.heap[g.1]?);rw[a.old (hi.block_lt h d i)];exact this⟩
  frame:=λc f _=>a.old f
  mine:=λid l g h d m i=>.inr ⟨id,l,g,h,d,m,i,rfl⟩
  upper:=λ_ h=>.inl h }
 refine⟨⟨λc f=>iv (hi.slt c f) j.size,λid l h=>?_,hi.own,hi.inj⟩,j,by simp only[Ctx.at_,a.size];omega,λf=>absurd (hi.slt _ f) (Nat.lt_irrefl _),λid l g h d i e=>absurd (hi.block_lt h d i) qd⟩
 cases d:l.live
 .grind [DB.live,fI]
 .exact(hi.blk id l h).move j rfl λg i=>a.old (hi.block_lt h d i)
theorem zN8{X:Ctx}{s:DS}{a:Act}(d:TInv X s a){m:Operand}{v:Value}(h:evD s.t m=.c (.p (.o v))):a.eval m=v:=by
 have:=d.ev m;grind [bH,cJ,dO]
theorem zN9{X:Ctx}{s:DS}{a:Act}(d:TInv X s a){m:Operand}{k:Ba}(h:evD s.t m=.c (.p (.s k))):a.eval m=RT k:=by
 have:=d.ev m;rw[h] at this;exact this
theorem zPs{X:Ctx}{s:DS}{a:Act}(d:TInv X s a){m:Operand}{k:Bool}(h:evD s.t m=.c (.p (.b k))):a.eval m=.bool k:=by
 have:=d.ev m;grind [bH,cJ,dO]
theorem zNw(B:bQ P T){id:Nat}{l:List Oper}(n:Nat){o:Oper}{t y C:TypeId}{m k v:Operand}(d:Ba)(D:l.drop n=[o])(E:P.underlying t=some (.map y C))(F:P.underlying y=some .string)(G:o.op=.mapUpdate t m k v)(H:o.guard=none)(I:o.dst=none)(i:d.length<=maxLen)
  (h:∀K:DS->Prop,(∀g,evD g.t m=.c (.p (.o (.map (some b))))/\evD g.t k=.c (.p (.s d))/\evD g.t v=.c (.p (.b true))/\Q (d::ks) .normal g->K g)->lF P T l.toArray (l.take n) s K):
  JR P b X0 (.region id l.toArray false) s ks Q:=by
 intro J L X a M r z N O R;refine wp_region_list ?_;rw[show l.toArray.toList=l.take n++[o] by rw[<- D];simp]
 refine oT B (J.step z) (l.take n) M r (Step.refl r) N (h _ λg u=>?_);obtain⟨S,U,V,W⟩:=u;intro Y a' w j q e;obtain⟨f,x⟩:=O.step j q;obtain⟨A,Z,r2⟩:=zPT E F (R.same x) i;refine wpList_plain H λK hK=>?_;unfold Oper.wp execOp;simp only[G,zN8 e S,zN9 e U,zPs e V,Sem.run_bind,Z,Result.andThen_ok,Sem.run_pure];rw[Oper.upon_skip];refine hK _ _ (wpList_nil ⟨g,Y.setB b A,d::ks,W,rfl,w,j.setB f,(z.trans r q).setB L f,?_,f.setB,r2⟩);have:=TInv.setB (o:=A) f e;rw[I];exact this
theorem zJK(J:bQ P T){id:Nat}{l r:List Oper}(n:Nat){o:Oper}{t L M:TypeId}{m k:Operand}(e:Ba)(S:l.drop n=o::r)(U:P.underlying t=some (.map L M))(V:P.underlying L=some .string)(W:∀w,(zeroValue M).run P w=.ok (.bool false) w)(Y:o.op=.lookup t m k false)(Z:o.guard=none)(u:e.length<=maxLen)
  (h:∀K:DS->Prop,(∀f,evD f.t m=.c (.p (.o (.map (some b))))/\evD f.t k=.c (.p (.s e))/\(∀N:DS->Prop,(∀z,Q ks .normal z->N z)->lF P T l.toArray r (f.put o.dst (.c (.p (.b (ks.contains e)))) f.h) N)->K f)->lF P T l.toArray (l.take n) s K):
  JR P b X0 (.region id l.toArray false) s ks Q:=by
 intro O hb X a hh A B ht ha R;refine wp_region_list ?_;rw[show l.toArray.toList=l.take n++o::r by rw[<- S];simp]
 refine oT J (O.step B) (l.take n) hh A (Step.refl A) ht (h _ λf C=>?_);obtain⟨e1,e2,hq⟩:=C;intro X' a' D g j q;obtain⟨E,v⟩:=ha.step g j;have r1:=zMo U V (W X'.w) (R.same v) u;refine wpList_plain Z λK hK=>?_;unfold Oper.wp execOp;simp only[Y,zN8 q e1,zN9 q e2,Sem.run_bind,r1,Result.andThen_ok,Sem.run_pure];rw[Oper.upon_value];refine hK _ _ ?_;rw[<- dh r];refine oT J (O.step (B.trans A j)) r (s:=f.put o.dst (.c (.p (.b (ks.contains e)))) f.h) (by unfold DS.put;split<;>(try split)<;>exact D) g (Step.refl g) (q.put (d:=.c (.p (.b (ks.contains e)))) rfl o.dst f.h) (hq _ λz F=>?_);intro X2 a2 G x i H;obtain⟨I,y⟩:=E.step x i;exact wpList_nil ⟨z,X2,ks,F,rfl,G,x,(B.trans A j).trans g i,H,I,(R.same v).same y⟩
theorem zJM{c:Code}(i k:Nat)(o:look s.t i=.c (.p .nil))(h:JR P b X0 c ⟨s.n,(i,.c (.own s.h.length 0 0))::s.t,s.h++[.arr k [] false]⟩ ks Q):JR P b X0 c s ks Q:=by
 intro q r X a g l u d v w;obtain⟨e,m⟩:=virt l k;obtain⟨x,y⟩:=v.step m e;refine h q r (X.virt k) a (by simp[Ctx.virt,g]) m (u.trans l e) ⟨d.size,λj=>?_,d.defs⟩ x (w.same y);simp only[look];split
 .rename_i f;subst f;have:=d.rel j;rw[o] at this;rw[<- g];exact vC (kT (X:=X) (k:=k) this)
 .exact(d.rel j).step e
theorem zNt(B:bQ P T){id:Nat}{o:Oper}{f:List Oper}{t:TypeId}{y:Code}{Q:Be}(C:o.op=.makeMap t none)(D:o.guard=none)
  (h:∀b,∀K:DS->Prop,(∀z,JR P b X0 y z [] (λ_=>Q)->K z)->lF P T (o::f).toArray f (s.put o.dst (.c (.p (.o (.map (some b))))) s.h) K):
  SWP P X0 (.seq (.region id (o::f).toArray false) y) s Q:=by
 intro A X a E j k F;refine wp_seq (wp_region_list ?_);show wpList P _ _ (o::f) a X.w;refine wpList_plain D λK G=>?_;unfold Oper.wp execOp;simp only[C,Option.map_none,Instr.makeMap,Sem.run_bind,Sem.run_pure,run_newObj,Result.andThen_ok];rw[Oper.upon_value];obtain⟨l,m,H⟩:=zMy j (w':={ X.w with heap:=X.w.heap.push (.map #[] 0) }) ⟨rfl,rfl,rfl,wP.rfl'⟩;refine G _ _ ?_;have n:TInv (X.at_ { X.w with heap:=X.w.heap.push (.map #[] 0) }) (s.put o.dst (.c (.p (.o (.map (some X.w.heap.size))))) s.h) (a.put o.dst (.map (some X.w.heap.size))):=(F.step m).put (d:=.c (.p (.o (.map (some X.w.heap.size))))) ⟨rfl,rfl⟩ o.dst s.h
 suffices I:wpList P (o::f).toArray (Exit.then (y.wp P (zE0 X0 Q)) (zE0 X0 Q)) (f++[]) (a.put o.dst (.map (some X.w.heap.size))) { X.w with heap:=X.w.heap.push (.map #[] 0) } by rwa[dh] at I
 refine oT B (A.step (k.trans j m)) f (X:=X.at_ { X.w with heap:=X.w.heap.push (.map #[] 0) }) (by unfold DS.put;split<;>(try split)<;>exact E) l (Step.refl l) n (h X.w.heap.size _ λM q=>?_);intro J L r g e u;obtain⟨v,i⟩:=H.step g e;have x:wO (X.at_ { X.w with heap:=X.w.heap.push (.map #[] 0) }).w X.w.heap.size []:=⟨#[],0,by show (X.w.heap.push _)[X.w.heap.size]? = _;rw[o9,aw rfl],ql,ql⟩
 exact wpList_nil (zES q A k.size J L r g ((k.trans j m).trans l e) u v (x.same i))
theorem zJL(j:bQ P T){id:Nat}{l:List Oper}{n0:Nat}{t0:Fr}{g:aF}(n:Nat){o:Oper}{t i q:TypeId}{m k v:Operand}(a:Ba)(r:l.drop n=[o])(u:P.underlying t=some (.map i q))(w:P.underlying i=some .string)(x:o.op=.mapUpdate t m k v)(y:o.guard=none)(z:o.dst=none)(d:a.length<=maxLen)
  (h:∀K:DS->Prop,(∀e t' f,evD t' m=.c (.p (.o (.map (some b))))->evD t' k=.c (.p (.s a))->evD t' v=.c (.p (.b true))->Q (a::ks) .normal ⟨e,t',f⟩->K ⟨e,t',f⟩)->lF P T l.toArray (l.take n) ⟨n0,t0,g⟩ K):
  JR P b X0 (.region id l.toArray false) ⟨n0,t0,g⟩ ks Q :=
 zNw j n a r u w x y z d λK A=>h K λe t' f B C D E=>A ⟨e,t',f⟩ ⟨B,C,D,E⟩
theorem zEU(x:bQ P T){id:Nat}{l g:List Oper}{n0:Nat}{t0:Fr}{j:aF}(n:Nat){o:Oper}{t q r:TypeId}{m k:Operand}{i:Nat}(a:Ba)(y:l.drop n=o::g)(z:P.underlying t=some (.map q r))(A:P.underlying q=some .string)(B:∀w,(zeroValue r).run P w=.ok (.bool false) w)(C:o.op=.lookup t m k false)(D:o.guard=none)(E:o.dst=some i)(f:a.length<=maxLen)
  (h:∀K:DS->Prop,(∀d t' e,i<d->evD t' m=.c (.p (.o (.map (some b))))->evD t' k=.c (.p (.s a))->(∀u:DS->Prop,(∀v,Q ks .normal v->u v)->lF P T l.toArray g ⟨d,(i,.c (.p (.b (ks.contains a))))::t',e⟩ u)->K ⟨d,t',e⟩)->lF P T l.toArray (l.take n) ⟨n0,t0,j⟩ K):
  JR P b X0 (.region id l.toArray false) ⟨n0,t0,j⟩ ks Q :=
 zJK x n a y z A B C D f λK F=>h K λd t' e G H I J=>F ⟨d,t',e⟩ ⟨H,I,by
  rw[E,show (⟨d,t',e⟩:DS).put (some i) (.c (.p (.b (ks.contains a)))) e=⟨d,(i,.c (.p (.b (ks.contains a))))::t',e⟩ from aw G]
  exact J⟩
theorem zJJ(f:bQ P T){id:Nat}{o:Oper}{d:List Oper}{n0:Nat}{t0:Fr}{a:aF}{t:TypeId}{i:Nat}{y:Code}{Q:Be}(g:o.op=.makeMap t none)(j:o.guard=none)(k:o.dst=some i)(hi:i<n0)
  (h:∀b,∀K:DS->Prop,(∀e,JR P b X0 y e [] (λ_=>Q)->K e)->lF P T (o::d).toArray d ⟨n0,(i,.c (.p (.o (.map (some b)))))::t0,a⟩ K):
  SWP P X0 (.seq (.region id (o::d).toArray false) y) ⟨n0,t0,a⟩ Q :=
 zNt f g j λb K l=>by
  rw[k,show (⟨n0,t0,a⟩:DS).put (some i) (.c (.p (.o (.map (some b))))) a=⟨n0,(i,.c (.p (.o (.map (some b)))))::t0,a⟩ from aw hi]
  simp_all
end rules
attribute [go_sem] zTn qm_r qm_e zTV zTU
end
end Go.Dm
end
section
namespace Go.Dm
open Go Go.Proofs Go.Sort
def nD(t:Bl)(c:Ch):Bool:=!(((aN t c.p).isSome != (c.k != 1)) || ((aN t c.p).isSome && !cH ((aN t c.p).getD nd0) c.o))
def at1(p:Ba)(s:Nd × Bool)(c:Ch):Nd × Bool:=if c.p==p then (c.n,c.k != 2) else s
def GG(t:Bl)(l:Bh)(p:Ba):Nd × Bool:=l.foldl (at1 p) ((aN t p).getD nd0,(aN t p).isSome)
def JL(t:Bl)(l:Bh):List Ba:=(l.map Ch.p).foldl (λo s=>AO s o) (dX [] t)
def zKo(t:Bl)(l:Bh)(p:Ba):Bl:=if (GG t l p).2 then [⟨p,(GG t l p).1⟩] else []
def pG(t:Bl)(l:Bh):Bl:=(JL t l).flatMap (zKo t l)
def sP(t:Bl)(l:Bh):Bl × Int :=
 if !zI2 l then ([],1) else if !(l.all (nD t)) then ([],17)
 else if decide ((120:Int)<((pG t l).length:Int)) then ([],16) else if !zEp (pG t l) then ([],17) else (pG t l,0)
def LQ{t:Bl}(a:OkT t){c:Ch}(b:c.o.wf):nD t c=vL t c:=by
 unfold nD vL;rw[mY (a.gett _) b];grind
theorem CW{p:Ba}:∀{l:Bh} {s:Nd × Bool},(∀c∈l,c.p≠p)->l.foldl (at1 p) s=s
 | [],_,_=>rfl
 | c::l,s,h=>by
  rw[gx,show at1 p s c=s by unfold at1;rw[au (by simpa using h c cz)]]
  exact CW λd a=>h d (cu _ a)
theorem GH{c:Ch}:∀{l:Bh} {s:Nd × Bool},l.Pairwise (λx y=>cC x.p y.p=true)->c∈l->l.foldl (at1 c.p) s=(c.n,c.k != 2)
 | [],_,_,h=>by cases h
 | d::l,s,a,h=>by
  obtain⟨e,b⟩:=dx.1 a;rw[gx];rcases bx.1 h with rfl|h
  .grind [at1,CW,mO]
  .exact GH b h
theorem zAJ:∀{ls o:List Ba},o.Pairwise (λx y=>cC x y=true)->(ls.foldl (λo s=>AO s o) o).Pairwise (λx y=>cC x y=true)/\∀q,q∈ls.foldl (λo s=>AO s o) o↔q∈o∨q∈ls
 | [],o,h=>by simp_all
 | s::ls,o,h=>by
  obtain⟨a,b⟩:=zAJ (ls:=ls) (PS (s:=s) h);grind [CJ]
theorem zI7(t:Bl)(l:Bh):(JL t l).Pairwise (λx y=>cC x y=true):=(zAJ (iZ List.Pairwise.nil)).1
def GK{t:Bl}{l:Bh}{p:Ba}:p∈JL t l↔(∃x∈t,x.p=p)∨∃c∈l,c.p=p:=by grind [JL,zAJ,iZ,List.Pairwise.nil,kI]
theorem CP{t:Bl}{l:Bh}{p:Ba}{x:It}:x∈zKo t l p↔(GG t l p).2=true/\x=⟨p,(GG t l p).1⟩:=by grind [zKo]
def zEm(t:Bl)(l:Bh):Srt (pG t l):=by grind [pG,zI7,zKo]
def zI5{t:Bl}{l:Bh}(j:OkT t)(k:gU l=true):iW (SJ t l)=pG t l:=by
 have o:=(qS k).1;refine AB (zMF j.srt k) (zEm t l) λx=>?_;rw[(uD _).mem_iff];unfold SJ pG;rw[c9,WX,WZ,jc];constructor
 .rintro (⟨c,a,r,rfl⟩|⟨b,d⟩)
  .refine⟨c.p,GK.2 (.inr ⟨c,a,rfl⟩),?_⟩;grind [CP,GG,GH]
  .refine ⟨x.p,GK.2 (.inl ⟨x,b,rfl⟩),?_⟩;have f:∀c∈l,c.p≠x.p:=λc a e=>by
    grind [zCo.2]
   rw[CP,show GG t l x.p=((aN t x.p).getD nd0,(aN t x.p).isSome) from CW f,dI j.srt b]
   simp_all
 .rintro ⟨p,_,q⟩;obtain⟨b,d⟩:=CP.1 q;by_cases h:∃c∈l,c.p=p
  .obtain⟨c,a,rfl⟩:=h;grind [GG,GH]
  .have f:∀c∈l,c.p≠p:=λc a e=>h ⟨c,a,e⟩;have e:GG t l p=((aN t p).getD nd0,(aN t p).isSome):=CW f;rw[e] at b d;cases m:aN t p with
   | none=>simp_all
   | some n =>
    obtain⟨y,s,g,i⟩:=cP m;rw[m] at d;have:x=y:=by rw[d,<- zRW y,g,i];rfl
    grind [zCo.1]
def zEn{t:Bl}{l:Bh}{i:Nat}{c:Ch}(h:l[i]?=some c):JL t (l.take (i+1))=AO c.p (JL t (l.take i)):=by grind [JL,List.take_add_one]
def zBl{t:Bl}{l:Bh}{ps:List Ba}{i:Nat}{p:Ba}(h:ps[i]?=some p):(ps.take (i+1)).flatMap (zKo t l)=(ps.take i).flatMap (zKo t l)++zKo t l p:=rl
def zKy{l:Bh}{i:Nat}{c:Ch}{p:Ba}{s:Nd × Bool}(h:l[i]?=some c):(l.take (i+1)).foldl (at1 p) s=at1 p ((l.take i).foldl (at1 p) s) c:=rl
def zI6(t:Bl)(l:Bh):(JL t l).length<=t.length+l.length:=by
 have b:∀(a o:List Ba),(a.foldl (λo s=>AO s o) o).length<=o.length+a.length:=by
  intro a
  induction a with
  | nil=>simp_all
  | cons s a c =>
   grind [PR]
 grind [kH,JL]
def KH{p:Ba}:∀{l:Bh} {s:Nd × Bool},l.foldl (at1 p) s=s∨∃c∈l,(l.foldl (at1 p) s).1=c.n
 | [],_=>.inl rfl
 | c::l,s=>by
  rw[gx];rcases KH (l:=l) (s:=at1 p s c) with h|⟨d,a,h⟩
  .rw[h];unfold at1;split
   .exact .inr ⟨c,cz,rfl⟩
   .exact .inl rfl
  .exact .inr ⟨d,cu _ a,h⟩
def zEl{t:Bl}{l:Bh}(e:OkT t)(f:∀c∈l,c.p.length<=1000000000/\c.n.d.length<=1000000000){x:It}(g:x∈pG t l):x.p.length<=1000000000/\x.n.d.length<=1000000000:=by
 obtain⟨p,a,h⟩:=jc.1 g;obtain⟨_,i⟩:=CP.1 h;rw[i];refine⟨?_,?_⟩
 .rcases GK.1 a with⟨y,j,rfl⟩|⟨c,b,rfl⟩
  .exact bj (e.plen y j) qh
  .exact(f c b).1
 .rcases KH (p:=p) (l:=l) (s:=((aN t p).getD nd0,(aN t p).isSome)) with h|⟨c,b,h⟩
  .rw[show GG t l p=((aN t p).getD nd0,(aN t p).isSome) from h]
   exact bj (e.getd p) qh
  .rw[show (GG t l p).1=c.n from h]
   exact(f c b).2
def zBj{t:Bl}{l:Bh}(b:OkT t)(d:∀c∈l,c.o.wf/\c.n.wf):sP t l=gP t l:=by
 unfold sP gP;rw[<- GQ d];cases f:gU l
 .rfl
 .simp only[bh,av,ax];have g:l.all (nD t)=l.all (vL t):=by
   rw[gi,fb,fb];exact⟨λh c a=>by rw[<- LQ b (d c a).1];exact h c a,λh c a=>by rw[LQ b (d c a).1];exact h c a⟩
  rw[g,<- zI5 b f,zEz];intro x e;rcases zA5 e with⟨c,a,rfl⟩|e
  .exact(d c a).2
  .exact b.tlen x e
end Go.Dm
end
