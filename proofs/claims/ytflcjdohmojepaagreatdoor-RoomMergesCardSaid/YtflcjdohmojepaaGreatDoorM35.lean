/- Part 36 of the proof of roomMerges_card, set without needless blanks. No condition. -/
import Derived.Test.YtflcjdohmojepaaGreatDoorM34
set_option linter.all false
set_option maxRecDepth 100000
set_option maxHeartbeats 16000000
section
namespace Go.Dm
open Go
section
section rules
variable {P:Program}{T:Tab}{X0:Ctx}{b:Nat}
theorem gB(hT:bM P T)(gd:Gnd P X0){ops:Array Oper}{l2:List Oper}{Q':Exit->Act->World->Prop}:∀(l:List Oper) {s:DS} {X:Ctx} {a:Act},X.h=s.h->HInv X->Step X0 X->TInv X s a ->
  jI P T ops l s (λs'=>∀X' a',X'.h=s'.h->HInv X'->Step X0 X'->TInv X' s' a'->wpList P ops Q' l2 a' X'.w)->wpList P ops Q' (l++l2) a X.w
 | [],s,X,a,hh,hi,hs,ht,h=>h X a hh hi hs ht
 | o::rest,s,X,a,hh,hi,hs,ht,h=>by
  refine wpList_step λK hK=>?_;have go:dop P T o.op s.t s.h (λd h'=>jI P T ops rest (s.put o.dst d h') (λs'=>∀X' a',X'.h=s'.h->HInv X'->Step X0 X'->TInv X' s' a'->wpList P ops Q' l2 a' X'.w))->o.wp P a X.w K Q':=by
   intro hd;rw[<- hh] at hd;refine AX hT hi (gd.step hs) ht.ev hd λd v X' h1 h2 h3 h4=>hK _ _ ?_;refine gB hT gd rest (s:=s.put o.dst d X'.h) ?_ h1 (hs.trans hi h2) ?_ h4
   .unfold DS.put;split<;>(try split)<;>rfl
   .exact(ht.step h2).put h3 o.dst X'.h
  have skip:jI P T ops rest (s.put o.dst (.tup []) s.h) (λs'=>∀X' a',X'.h=s'.h->HInv X'->Step X0 X'->TInv X' s' a'->wpList P ops Q' l2 a' X'.w)->K (a.put o.dst undef) X.w:=by
   intro hd;refine hK _ _ (gB hT gd rest (s:=s.put o.dst (.tup []) s.h) (by rw[hh];unfold DS.put;split<;>(try split)<;>rfl) hi hs (ht.put (d:=.tup []) (v:=undef) ⟨[],rfl,True.intro⟩ o.dst s.h) hd)
  simp only[jI] at h;split at h
  .rename_i hg;rw[if_pos (by simp[Region.wanted,hg])];exact go h
  .rename_i j want hg;have hy:∀d,((ops[j]?).bind (·.dst)).map (λi=>look s.t i)=some d->∃i,(ops[j]?).bind (·.dst)=some i/\bD X d (a.tmps.getD i undef):=by
    intro d hd;obtain⟨i,h1,h2⟩:=Option.map_eq_some_iff.1 hd;exact⟨i,h1,h2▸ht.rel i⟩
   split at h
   .rename_i v hd;obtain⟨i,h1,h3⟩:=hy _ hd;simp only[bD,cA,cZ] at h3;have hv:a.tmps[i]?=some (.bool v):=by
     rcases Nat.lt_or_ge i a.tmps.size with hlt'|hge
     .rw[Array.getElem?_eq_getElem hlt'];simp only[Array.getD,hlt',dif_pos] at h3
      congr 1
     .rw[Array.getD_eq_getD_getElem?,Array.getElem?_eq_none hge] at h3;cases h3
    have hyd:yielded ops a.tmps j=some v:=by
     unfold yielded;rw[h1];simp only[Option.bind_some,hv]
    by_cases hw:v=want
    .rw[if_pos (by simp[Region.wanted,hg,hyd,hw])];exact go (h.1 hw)
    .rw[if_neg (by simp[Region.wanted,hg,hyd,hw])];exact skip (h.2 hw)
   .rename_i hd;obtain⟨i,h1,vs,hv,hr⟩:=hy _ hd;have hvs:vs=[]:=by
     cases vs with
     | nil=>rfl
     | cons _ _=>exact hr.elim
    subst hvs;have hyd:yielded ops a.tmps j=none:=by
     unfold yielded;rw[h1];simp only[Option.bind_some];rw[Array.getD_eq_getD_getElem?] at hv;cases hx:a.tmps[i]? with
     | none=>rfl
     | some u=>rw[hx] at hv;simp only[Option.getD_some] at hv;rw[hv]
    rw[if_neg (by simp[Region.wanted,hg,hyd])];exact skip h
   .exact h.elim
def zQi(b:Nat)(X0:Ctx)(Q:List (List UInt8)->Exit->DS->Prop):Exit->Act->World->Prop:=λe a w =>
 ∃s X ks,Q ks e s/\X.w=w/\X.h=s.h/\HInv X/\Step X0 X/\TInv X s a/\pA X b/\tS X.w b ks
def FD(P:Program)(b:Nat)(X0:Ctx)(c:Code)(s:DS)(ks:List (List UInt8))(Q:List (List UInt8)->Exit->DS->Prop):Prop :=
 Gnd P X0->X0.w.heap.size<=b->∀(X:Ctx) (a:Act),X.h=s.h->HInv X->Step X0 X->TInv X s a->pA X b->tS X.w b ks->c.wp P (zQi b X0 Q) a X.w
def zOe(P:Program)(b:Nat)(X0:Ctx)(y:Code)(ks:List (List UInt8))(Q:List (List UInt8)->Exit->DS->Prop):Exit->DS->Prop:=λe s'=>match e with
 | .normal=>FD P b X0 y s' ks Q
 | e=>Q ks e s'
variable {s:DS}{ks:List (List UInt8)}{Q:List (List UInt8)->Exit->DS->Prop}
theorem zQc{y:Code}{s:DS}:zOe P b X0 y ks Q .normal s=FD P b X0 y s ks Q:=nr rfl
theorem qm_r{y:Code}{s:DS}:zOe P b X0 y ks Q .ret s=Q ks .ret s:=nr rfl
theorem qm_e{y:Code}{id:Nat}{s:DS}:zOe P b X0 y ks Q (.exit id) s=Q ks (.exit id) s:=nr rfl
theorem zNJ{c:Code}(h:∀X1:Ctx,X1.h=s.h->SWP P X1 c s (Q ks)):FD P b X0 c s ks Q:=λgd _ X a hh hi hs ht ha hm =>
 wp_mono (h X hh (gd.step hs) X a hh hi (Step.refl hi) ht) λe a w ⟨s',X',h1,h2,h3,h4,h5,h6⟩=>by
  obtain⟨g1,g2⟩:=ha.step h4 h5;exact⟨s',X',ks,h1,h2,h3,h4,hs.trans hi h5,h6,g1,hm.same g2⟩
theorem jG(hT:bM P T)(hm:P.follows .mixedOrders=true){c:Code}(h:∀X1:Ctx,X1.h=s.h->vc P T X1 c s (Q ks)):FD P b X0 c s ks Q :=
 zNJ λX1 h1=>dP hT hm c (h X1 h1)
section
variable {P:Program}{T:Tab}{X0:Ctx}{b:Nat}
variable {s:DS}{ks:List (List UInt8)}{Q:List (List UInt8)->Exit->DS->Prop}
end
theorem oO{x y:Code}(h:FD P b X0 x s ks λks'=>zOe P b X0 y ks' Q):FD P b X0 (.seq x y) s ks Q:=by
 intro gd hb X a hh hi hs ht ha hm;refine wp_seq (wp_mono (h gd hb X a hh hi hs ht ha hm) λe a w hp=>?_);obtain⟨s',X',k,h1,rfl,h3,h4,h5,h6,h7,h8⟩:=hp;cases e<;>simp only[Exit.then,zOe] at h1 ⊢
 case normal=>exact h1 gd hb X' a h3 h4 h5 h6 h7 h8
 all_goals exact⟨s',X',k,h1,rfl,h3,h4,h5,h6,h7,h8⟩
theorem cT(hT:bM P T)(hm:P.follows .mixedOrders=true){x y:Code}(h:∀X1:Ctx,X1.h=s.h->vc P T X1 x s (zOe P b X0 y ks Q)):FD P b X0 (.seq x y) s ks Q :=
 oO (jG hT hm h)
theorem rQ{id:Nat}{c:Code}(h:FD P b X0 c s ks λks'=>mZ id (Q ks')):FD P b X0 (.block id c) s ks Q:=by
 intro gd hb X a hh hi hs ht ha hm;refine wp_block (wp_mono (h gd hb X a hh hi hs ht ha hm) λe a w hp=>?_);obtain⟨s',X',k,h1,rfl,h3,h4,h5,h6,h7,h8⟩:=hp;cases e<;>simp only[Exit.inBlock,mZ] at h1 ⊢
 case exit id' =>
  split
  .rename_i he;rw[if_pos he] at h1;exact⟨s',X',k,h1,rfl,h3,h4,h5,h6,h7,h8⟩
  .rename_i he;rw[if_neg he] at h1;exact⟨s',X',k,h1,rfl,h3,h4,h5,h6,h7,h8⟩
 all_goals exact⟨s',X',k,h1,rfl,h3,h4,h5,h6,h7,h8⟩
theorem zCU{c:Code}{Q':Exit->DS->Prop}(h:FD P b X0 c s ks λ_=>Q'):Gnd P X0->X0.w.heap.size<=b->∀(X:Ctx) (a:Act),X.h=s.h->HInv X->Step X0 X->TInv X s a->pA X b->tS X.w b ks->c.wp P (zHR X0 Q') a X.w:=λgd hb X a hh hi hs ht ha hm =>
 wp_mono (h gd hb X a hh hi hs ht ha hm) λ_ _ _ ⟨s',X',_,h1,h2,h3,h4,h5,h6,_,_⟩=>⟨s',X',h1,h2,h3,h4,h5,h6⟩
theorem pA.cut{X:Ctx}(ha:pA X b)(n:Nat):pA (X.cut n) b:=⟨ha.1,ha.2.1,λid db g hd hl hg=>ha.2.2 id db g (fR hd).1 hl hg⟩
theorem pA.ren{X:Ctx}(ha:pA X b){p q:Nat}(hpq:p≠q){k:Nat}{es:List (List PV)}(hq:X.h[q]?=some (.arr k es false)):pA (X.ren p q) b:=⟨ha.1,ha.2.1,λid db g hd hl hg=>by
 rcases hZ hpq hd hl with⟨rfl,h1,_⟩|⟨h1,h2,x,h3,rfl⟩
 .simp only[Ctx.ren,if_true] at hg;exact ha.2.2 q _ g h1 hl hg
 .simp only[Ctx.ren,if_neg h1] at hg;refine ha.2.2 id x g h3 ?_ hg;cases x<;>simp_all[DB.live,renB]⟩
theorem FE.useA{n0:Nat}{s s':DS}(h:FE n0 s s'){X0 X:Ctx}{a:Act}(hn:X0.h.length=n0)(hh:X.h=s.h)(hi:HInv X)(hs:Step X0 X)(ht:TInv X s a)(ha:pA X b):∃X',X'.w=X.w/\X'.h=s'.h/\HInv X'/\Step X0 X'/\TInv X' s' a/\pA X' b:=by
 obtain⟨h0,h1,h2,h3,h4⟩:=h;have hcut:(X.cut s'.h.length).h=s'.h:=by simp only[Ctx.cut];rw[hh];exact h2.symm
 refine⟨X.cut s'.h.length,rfl,hcut,hi.cut (by rw[hh,<- h2];exact h3),hs.cut (by omega),⟨ht.size.trans h0.symm,λi=>?_,ht.defs⟩,ha.cut _⟩;rcases h4.look i with h5|⟨h5,h6⟩
 .rw[h5];exact True.intro
 .have:=ht.rel i;rw[<- h5] at this;exact this.cut h6
theorem yB.useA{n0:Nat}{s s':DS}(h:yB n0 s s'){X0 X:Ctx}{a:Act}(hn:X0.h.length=n0)(hh:X.h=s.h)(hi:HInv X)(hs:Step X0 X)(ht:TInv X s a)(ha:pA X b):∃X',X'.w=X.w/\X'.h=s'.h/\HInv X'/\Step X0 X'/\TInv X' s' a/\pA X' b:=by
 rcases h with h|⟨p,q,kb,eb,hab,h0,h1,hp,hq,h⟩
 .exact h.useA hn hh hi hs ht ha
 .rw[<- hh] at hp hq;refine h.useA (X:=X.ren p q) hn ?_ (hi.ren hab hq hp) (hs.ren hab (by omega) (by omega)) ⟨ht.size,λi=>?_,ht.defs⟩ (ha.ren hab hq)
  .simp only[Ctx.ren,DS.ren,hh]
  .simp only[DS.ren];rw[zM];exact(ht.rel i).ren hab hq hp
def SM{α:Type}(n0:Nat)(I:α->DS)(Kf:α->List (List UInt8))(J:α->Prop)(μ:α->Nat)(x:α)(Q:List (List UInt8)->Exit->DS->Prop)(ks:List (List UInt8)):Exit->DS->Prop:=λe s'=>match e with
 | .normal=>∃y,J y/\μ y < μ x/\ks=Kf y/\yB n0 s' (I y)
 | e=>Q ks e s'
theorem VC{α:Type}{c:Code}(I:α->DS)(Kf:α->List (List UInt8))(J:α->Prop)(μ:α->Nat)(x0:α)(hJ:J x0)(hk:ks=Kf x0)(hw:yB X0.h.length s (I x0))
  (h:∀x,J x->FD P b X0 c (I x) (Kf x) (SM X0.h.length I Kf J μ x Q)):FD P b X0 (.loop c) s ks Q:=by
 intro gd hb X a hh hi hs ht ha hm;obtain⟨X',h1,h2,h3,h4,h5,h6⟩:=hw.useA rfl hh hi hs ht ha;rw[<- h1] at hm ⊢;refine wp_loop_ghost (λn a w=>∃x X,μ x=n/\J x/\X.w=w/\X.h=(I x).h/\HInv X/\Step X0 X/\TInv X (I x) a/\pA X b/\tS X.w b (Kf x)) (μ x0) ⟨x0,X',rfl,hJ,rfl,h2,h3,h4,h5,h6,hk▸hm⟩ ?_;rintro n a' w' ⟨x,Y,rfl,k1,rfl,k2,k3,k4,k5,k6,k7⟩;refine wp_mono (h x k1 gd hb Y a' k2 k3 k4 k5 k6 k7) λe a w hp=>?_;obtain⟨s',Z,k,p1,rfl,p3,p4,p5,p6,p7,p8⟩:=hp;cases e<;>simp only[Exit.then,SM] at p1 ⊢
 case normal =>
  obtain⟨y,q1,q2,rfl,q3⟩:=p1;obtain⟨Z',r1,r2,r3,r4,r5,r6⟩:=q3.useA rfl p3 p4 p5 p6 p7;exact⟨μ y,q2,y,Z',rfl,q1,r1,r2,r3,r4,r5,r6,r1▸p8⟩
 all_goals exact⟨s',Z,k,p1,rfl,p3,p4,p5,p6,p7,p8⟩
theorem zKi{α:Type}{n0:Nat}{I:α->DS}{Kf:α->List (List UInt8)}{J:α->Prop}{μ:α->Nat}{x:α}{s:DS}(y:α)(h1:J y)(h2:μ y < μ x)(h3:ks=Kf y)(h4:yB n0 s (I y)):SM n0 I Kf J μ x Q ks .normal s:=⟨y,h1,h2,h3,h4⟩
theorem zQW{α:Type}{n0:Nat}{I:α->DS}{Kf:α->List (List UInt8)}{J:α->Prop}{μ:α->Nat}{x:α}{s:DS}:SM n0 I Kf J μ x Q ks .ret s=Q ks .ret s:=nr rfl
theorem zQV{α:Type}{n0:Nat}{I:α->DS}{Kf:α->List (List UInt8)}{J:α->Prop}{μ:α->Nat}{x:α}{id:Nat}{s:DS}:SM n0 I Kf J μ x Q ks (.exit id) s=Q ks (.exit id) s:=nr rfl
theorem zAG{X:Ctx}(hi:HInv X){w':World}{o:Obj}(hw:Grew X.w w' o):HInv (X.at_ w')/\Step X (X.at_ w')/\pA (X.at_ w') X.w.heap.size:=by
 have hst:Step X (X.at_ w'):={
  size:=by simp only[Ctx.at_,hw.size];omega
  os:=hw.os
  tape:=hw.tape
  output:=hw.output
  kept:=λc hc=>⟨hc,hw.old (hi.slt c hc)⟩
  len:=Nat.le_refl _
  ids:=λid db' _ h hl=>⟨db',h,cM.refl hl,rfl,λg hg=>by
   have:=(hi.blk id db' h).same hl g hg;show vT _ (w'.heap[g.1]?);rw[hw.old (hi.block_lt h hl hg)];exact this⟩
  frame:=λc hc _=>hw.old hc
  mine:=λid db g h hl hf hg=>.inr ⟨id,db,g,h,hl,hf,hg,rfl⟩
  upper:=λ_ h=>.inl h }
 refine⟨⟨λc hc=>Nat.lt_of_lt_of_le (hi.slt c hc) hst.size,λid db h=>?_,hi.own,hi.inj⟩,hst,by simp only[Ctx.at_,hw.size];omega,λhc=>absurd (hi.slt _ hc) (Nat.lt_irrefl _),λid db g h hl hg e=>absurd (hi.block_lt h hl hg) (by omega)⟩
 cases hl:db.live
 .cases db<;>simp_all[DB.live,eC]
 .exact(hi.blk id db h).move hst rfl λg hg=>hw.old (hi.block_lt h hl hg)
theorem QD{X:Ctx}{s:DS}{a:Act}(ht:TInv X s a){m:Operand}{v:Value}(h:evD s.t m=.c (.p (.o v))):a.eval m=v:=by
 have:=ht.ev m;rw[h] at this;simp only[bD,cA,cZ] at this;exact this.1
theorem zLi{X:Ctx}{s:DS}{a:Act}(ht:TInv X s a){m:Operand}{k:List UInt8}(h:evD s.t m=.c (.p (.s k))):a.eval m=HY k:=by
 have:=ht.ev m;rw[h] at this;simp only[bD,cA,cZ] at this;exact this
theorem zMy{X:Ctx}{s:DS}{a:Act}(ht:TInv X s a){m:Operand}{k:Bool}(h:evD s.t m=.c (.p (.b k))):a.eval m=.bool k:=by
 have:=ht.ev m;rw[h] at this;simp only[bD,cA,cZ] at this;exact this
theorem zKK(hT:bM P T){id:Nat}{l:List Oper}(n:Nat){o:Oper}{t kt et:TypeId}{m k v:Operand}(key:List UInt8)(hl:l.drop n=[o])(hu:P.underlying t=some (.map kt et))(hk:P.underlying kt=some .string)(ho:o.op=.mapUpdate t m k v)(hg:o.guard=none)(hd:o.dst=none)(hlen:key.length<=maxLen)
  (h:∀K:DS->Prop,(∀s',evD s'.t m=.c (.p (.o (.map (some b))))/\evD s'.t k=.c (.p (.s key))/\evD s'.t v=.c (.p (.b true))/\Q (key::ks) .normal s'->K s')->jI P T l.toArray (l.take n) s K):
  FD P b X0 (.region id l.toArray false) s ks Q:=by
 intro gd hb X a hh hi hs ht ha hm;refine wp_region_list ?_;rw[show l.toArray.toList=l.take n++[o] by rw[<- hl];simp]
 refine gB hT (gd.step hs) (l.take n) hh hi (Step.refl hi) ht (h _ λs' hs'=>?_);obtain⟨e1,e2,e3,hq⟩:=hs';intro X' a' hh' hi' hst ht';obtain⟨ha',hsm⟩:=ha.step hi' hst;obtain⟨ob,r1,r2⟩:=zMX hu hk (hm.same hsm) hlen;refine wpList_plain hg λK hK=>?_;unfold Oper.wp execOp;simp only[ho,QD ht' e1,zLi ht' e2,zMy ht' e3,Sem.run_bind,r1,Result.andThen_ok,Sem.run_pure];rw[Oper.upon_skip];refine hK _ _ (wpList_nil ⟨s',X'.setB b ob,key::ks,hq,rfl,hh',hi'.setB ha',(hs.trans hi hst).setB hb ha',?_,ha'.setB,r2⟩);have:=TInv.setB (o:=ob) ha' ht';rw[hd];exact this
theorem zHg(hT:bM P T){id:Nat}{l l2:List Oper}(n:Nat){o:Oper}{t kt et:TypeId}{m k:Operand}(key:List UInt8)(hl:l.drop n=o::l2)(hu:P.underlying t=some (.map kt et))(hk:P.underlying kt=some .string)(hz:∀w,(zeroValue et).run P w=.ok (.bool false) w)(ho:o.op=.lookup t m k false)(hg:o.guard=none)(hlen:key.length<=maxLen)
  (h:∀K:DS->Prop,(∀s',evD s'.t m=.c (.p (.o (.map (some b))))/\evD s'.t k=.c (.p (.s key))/\(∀K2:DS->Prop,(∀s2,Q ks .normal s2->K2 s2)->jI P T l.toArray l2 (s'.put o.dst (.c (.p (.b (ks.contains key)))) s'.h) K2)->K s')->jI P T l.toArray (l.take n) s K):
  FD P b X0 (.region id l.toArray false) s ks Q:=by
 intro gd hb X a hh hi hs ht ha hm;refine wp_region_list ?_;rw[show l.toArray.toList=l.take n++o::l2 by rw[<- hl];simp]
 refine gB hT (gd.step hs) (l.take n) hh hi (Step.refl hi) ht (h _ λs' hs'=>?_);obtain⟨e1,e2,hq⟩:=hs';intro X' a' hh' hi' hst ht';obtain⟨ha',hsm⟩:=ha.step hi' hst;have r1:=zJI hu hk (hz X'.w) (hm.same hsm) hlen;refine wpList_plain hg λK hK=>?_;unfold Oper.wp execOp;simp only[ho,QD ht' e1,zLi ht' e2,Sem.run_bind,r1,Result.andThen_ok,Sem.run_pure];rw[Oper.upon_value];refine hK _ _ ?_;rw[<- List.append_nil l2];refine gB hT (gd.step (hs.trans hi hst)) l2 (s:=s'.put o.dst (.c (.p (.b (ks.contains key)))) s'.h) (by unfold DS.put;split<;>(try split)<;>exact hh') hi' (Step.refl hi') (ht'.put (d:=.c (.p (.b (ks.contains key)))) rfl o.dst s'.h) (hq _ λs2 hs2=>?_);intro X2 a2 hh2 hi2 hst2 ht2;obtain⟨ha2,hsm2⟩:=ha'.step hi2 hst2;exact wpList_nil ⟨s2,X2,ks,hs2,rfl,hh2,hi2,(hs.trans hi hst).trans hi' hst2,ht2,ha2,(hm.same hsm).same hsm2⟩
theorem zHi{c:Code}(i k:Nat)(hn:look s.t i=.c (.p .nil))(h:FD P b X0 c ⟨s.n,(i,.c (.own s.h.length 0 0))::s.t,s.h++[.arr k [] false]⟩ ks Q):FD P b X0 c s ks Q:=by
 intro gd hb X a hh hi hs ht ha hm;obtain⟨h1,h2⟩:=virt hi k;obtain⟨g1,g2⟩:=ha.step h2 h1;refine h gd hb (X.virt k) a (by simp[Ctx.virt,hh]) h2 (hs.trans hi h1) ⟨ht.size,λj=>?_,ht.defs⟩ g1 (hm.same g2);simp only[look];split
 .rename_i hij;subst hij;have:=ht.rel j;rw[hn] at this;rw[<- hh];exact tI (iQ (X:=X) (k:=k) this)
 .exact(ht.rel j).step h1
theorem zKH(hT:bM P T){id:Nat}{o:Oper}{l2:List Oper}{t:TypeId}{y:Code}{Q:Exit->DS->Prop}(ho:o.op=.makeMap t none)(hg:o.guard=none)
  (h:∀b,∀K:DS->Prop,(∀s',FD P b X0 y s' [] (λ_=>Q)->K s')->jI P T (o::l2).toArray l2 (s.put o.dst (.c (.p (.o (.map (some b))))) s.h) K):
  SWP P X0 (.seq (.region id (o::l2).toArray false) y) s Q:=by
 intro gd X a hh hi hs ht;refine wp_seq (wp_region_list ?_);show wpList P _ _ (o::l2) a X.w;refine wpList_plain hg λK hK=>?_;unfold Oper.wp execOp;simp only[ho,Option.map_none,Instr.makeMap,Sem.run_bind,Sem.run_pure,run_newObj,Result.andThen_ok];rw[Oper.upon_value];obtain⟨g1,g2,g3⟩:=zAG hi (w':={ X.w with heap:=X.w.heap.push (.map #[] 0) }) ⟨rfl,rfl,rfl,tM.rfl'⟩;refine hK _ _ ?_;have ht1:TInv (X.at_ { X.w with heap:=X.w.heap.push (.map #[] 0) }) (s.put o.dst (.c (.p (.o (.map (some X.w.heap.size))))) s.h) (a.put o.dst (.map (some X.w.heap.size))):=(ht.step g2).put (d:=.c (.p (.o (.map (some X.w.heap.size))))) ⟨rfl,rfl⟩ o.dst s.h
 suffices hx:wpList P (o::l2).toArray (Exit.then (y.wp P (zHR X0 Q)) (zHR X0 Q)) (l2++[]) (a.put o.dst (.map (some X.w.heap.size))) { X.w with heap:=X.w.heap.push (.map #[] 0) } by rwa[List.append_nil] at hx
 refine gB hT (gd.step (hs.trans hi g2)) l2 (X:=X.at_ { X.w with heap:=X.w.heap.push (.map #[] 0) }) (by unfold DS.put;split<;>(try split)<;>exact hh) g1 (Step.refl g1) ht1 (h X.w.heap.size _ λs2 hs2=>?_);intro X2 a2 hh2 hi2 hst2 ht2;obtain⟨ha2,hsm2⟩:=g3.step hi2 hst2;have hm0:tS (X.at_ { X.w with heap:=X.w.heap.push (.map #[] 0) }).w X.w.heap.size []:=⟨#[],0,by show (X.w.heap.push _)[X.w.heap.size]? = _;rw[Array.getElem?_push,if_pos rfl],by simp,by simp⟩
 exact wpList_nil (zCU hs2 gd hs.size X2 a2 hh2 hi2 ((hs.trans hi g2).trans g1 hst2) ht2 ha2 (hm0.same hsm2))
theorem zHh(hT:bM P T){id:Nat}{l:List Oper}{n0:Nat}{t0:Fr}{h0:aD}(n:Nat){o:Oper}{t kt et:TypeId}{m k v:Operand}(key:List UInt8)(hl:l.drop n=[o])(hu:P.underlying t=some (.map kt et))(hk:P.underlying kt=some .string)(ho:o.op=.mapUpdate t m k v)(hg:o.guard=none)(hd:o.dst=none)(hlen:key.length<=maxLen)
  (h:∀K:DS->Prop,(∀n' t' h',evD t' m=.c (.p (.o (.map (some b))))->evD t' k=.c (.p (.s key))->evD t' v=.c (.p (.b true))->Q (key::ks) .normal ⟨n',t',h'⟩->K ⟨n',t',h'⟩)->jI P T l.toArray (l.take n) ⟨n0,t0,h0⟩ K):
  FD P b X0 (.region id l.toArray false) ⟨n0,t0,h0⟩ ks Q :=
 zKK hT n key hl hu hk ho hg hd hlen λK hK=>h K λn' t' h' e1 e2 e3 hq=>hK ⟨n',t',h'⟩ ⟨e1,e2,e3,hq⟩
theorem zCY(hT:bM P T){id:Nat}{l l2:List Oper}{n0:Nat}{t0:Fr}{h0:aD}(n:Nat){o:Oper}{t kt et:TypeId}{m k:Operand}{i:Nat}(key:List UInt8)(hl:l.drop n=o::l2)(hu:P.underlying t=some (.map kt et))(hk:P.underlying kt=some .string)(hz:∀w,(zeroValue et).run P w=.ok (.bool false) w)(ho:o.op=.lookup t m k false)(hg:o.guard=none)(hd:o.dst=some i)(hlen:key.length<=maxLen)
  (h:∀K:DS->Prop,(∀n' t' h',i<n'->evD t' m=.c (.p (.o (.map (some b))))->evD t' k=.c (.p (.s key))->(∀K2:DS->Prop,(∀s2,Q ks .normal s2->K2 s2)->jI P T l.toArray l2 ⟨n',(i,.c (.p (.b (ks.contains key))))::t',h'⟩ K2)->K ⟨n',t',h'⟩)->jI P T l.toArray (l.take n) ⟨n0,t0,h0⟩ K):
  FD P b X0 (.region id l.toArray false) ⟨n0,t0,h0⟩ ks Q :=
 zHg hT n key hl hu hk hz ho hg hlen λK hK=>h K λn' t' h' hi e1 e2 hq=>hK ⟨n',t',h'⟩ ⟨e1,e2,by
  rw[hd,show (⟨n',t',h'⟩:DS).put (some i) (.c (.p (.b (ks.contains key)))) h'=⟨n',(i,.c (.p (.b (ks.contains key))))::t',h'⟩ from if_pos hi]
  exact hq⟩
theorem zHb(hT:bM P T){id:Nat}{o:Oper}{l2:List Oper}{n0:Nat}{t0:Fr}{h0:aD}{t:TypeId}{i:Nat}{y:Code}{Q:Exit->DS->Prop}(ho:o.op=.makeMap t none)(hg:o.guard=none)(hd:o.dst=some i)(hi:i<n0)
  (h:∀b,∀K:DS->Prop,(∀s',FD P b X0 y s' [] (λ_=>Q)->K s')->jI P T (o::l2).toArray l2 ⟨n0,(i,.c (.p (.o (.map (some b)))))::t0,h0⟩ K):
  SWP P X0 (.seq (.region id (o::l2).toArray false) y) ⟨n0,t0,h0⟩ Q :=
 zKH hT ho hg λb K hK=>by
  rw[hd,show (⟨n0,t0,h0⟩:DS).put (some i) (.c (.p (.o (.map (some b))))) h0=⟨n0,(i,.c (.p (.o (.map (some b)))))::t0,h0⟩ from if_pos hi]
  exact h b K hK
end rules
attribute [go_sem] zQc qm_r qm_e zQW zQV
end
section
def Ctx.subC(X:Ctx)(tb:List Nat)(h0:aD):Ctx:=⟨X.w,X.S,λi=>X.G (rn tb 0 i),h0⟩
def zOf(tb:List Nat)(h h0:aD):Bool:=Nat.beq tb.length h0.length && (pW tb && (tb.all (λt=>Nat.blt t h.length) && h0.all (bP h0.length)))
section
variable {X:Ctx}{tb:List Nat}{h0:aD}
theorem MV(ht:EK tb X.h 0 h0):Pull X (X.subC tb h0) tb 0 :=
 ⟨rfl,rfl,λi db hd hl=>by
  have:=ht.at_ hd hl
  rwa[Nat.zero_add] at this,λi _=>rfl⟩
theorem zNB(hi:HInv X)(hb:zOf tb X.h h0=true)(ht:EK tb X.h 0 h0):HInv (X.subC tb h0):=by
 simp only[zOf,Bool.and_eq_true] at hb;obtain⟨b1,b2,b3,b4⟩:=hb;have b1:=Nat.eq_of_beq_eq_true b1;exact hi.pull (MV ht) b4 λi j db db' hd _ hd' _ he=>zGT (pX b2) (b1▸aK hd) (b1▸aK hd') he
theorem zKA(hi:HInv X)(hb:zOf tb X.h h0=true)(ht:EK tb X.h 0 h0){Z:Ctx}(h2:HInv Z)(h3:Step (X.subC tb h0) Z):
  ∃F:Ctx,F.w=Z.w/\F.h=gQ tb X.h.length X.h tb Z.h/\HInv F/\Step X F/\Push Z F tb X.h.length/\h0.length<=Z.h.length:=by
 simp only[zOf,Bool.and_eq_true] at hb;obtain⟨b1,b2,b3,b4⟩:=hb;have b1:=Nat.eq_of_beq_eq_true b1;have hnd:=pX b2;have hlt:∀t∈tb,t<X.h.length:=λt hm=>Nat.blt_eq.mp (List.all_eq_true.1 b3 t hm)
 let Y:Ctx:=⟨X.w,X.S,λi=>X.G (rn tb 0 i),h0⟩
 have hp:Pull X Y tb 0:=MV ht;have hlen:h0.length<=Z.h.length:=h3.len;have hlen':tb.length<=Z.h.length:=by omega
 obtain⟨q1,q2,q3,q4⟩:=CN (tb:=tb) (N:=X.h.length) (ts:=tb) (zs:=Z.h) (h:=X.h) hlen' hnd hlt
 let F:Ctx:=⟨Z.w,Z.S,λj=>if j<X.h.length then (if j∈tb then Z.G (tb.idxOf j) else X.G j) else Z.G (tb.length+(j-X.h.length)),gQ tb X.h.length X.h tb Z.h⟩
 have gat:∀i,i<tb.length->∃t,tb[i]?=some t/\rn tb X.h.length i=t/\t<X.h.length/\t∈tb/\tb.idxOf t=i:=λi hi=>by
  have hm:tb[i]∈tb:=List.getElem_mem hi;exact⟨tb[i],List.getElem?_eq_getElem hi,wS hi,hlt _ hm,hm,hnd.idxOf_getElem i hi⟩
 have hpu:Push Z F tb X.h.length:=by
  refine⟨rfl,rfl,λi hi=>?_,λi hi=>?_,λi hi=>?_⟩
  .show _<(gQ tb X.h.length X.h tb Z.h).length;rw[q1];rcases Nat.lt_or_ge i tb.length with hlt2|hge
   .obtain⟨t,_,e2,e3,_⟩:=gat i hlt2;rw[e2];omega
   .rw[SZ hge];omega
  .rcases Nat.lt_or_ge i tb.length with hlt2|hge
   .obtain⟨t,e1,e2,_⟩:=gat i hlt2;rw[e2];exact q3 i t e1
   .rw[SZ hge];have:=q4 (i-tb.length);rw[show tb.length+(i-tb.length)=i by omega] at this
    exact this
  .rcases Nat.lt_or_ge i tb.length with hlt2|hge
   .obtain⟨t,_,e2,e3,e4,e5⟩:=gat i hlt2;rw[e2];show (if t<X.h.length then (if t∈tb then Z.G (tb.idxOf t) else X.G t) else _)=_
    rw[if_pos e3,if_pos e4,e5]
   .rw[SZ hge];show (if X.h.length+(i-tb.length)<X.h.length then _ else Z.G (tb.length+(X.h.length+(i-tb.length)-X.h.length)))=_
    rw[if_neg (by omega)]
    congr 1;omega
 have fo:∀j,j<X.h.length->j ∉ tb->F.h[j]?=X.h[j]?/\F.G j=X.G j:=λj hj hn=>⟨q2 j hj hn,by
  show (if j<X.h.length then (if j∈tb then Z.G (tb.idxOf j) else X.G j) else _)=_
  rw[if_pos hj,if_neg hn]⟩
 have fi:∀j,j<F.h.length->(j<X.h.length/\j ∉ tb)∨∃i,i<Z.h.length/\j=rn tb X.h.length i:=λj hj=>by
  have hjl:j<X.h.length+(Z.h.length-tb.length):=by rw[<- q1];exact hj
  by_cases hx:j<X.h.length
  .by_cases hm:j∈tb
   .have hx:=List.idxOf_lt_length_iff.2 hm;exact .inr ⟨tb.idxOf j,by omega,by rw[wS hx,List.getElem_idxOf]⟩
   .exact .inl ⟨hx,hm⟩
  .exact .inr ⟨tb.length+(j-X.h.length),by omega,by rw[SZ (by omega)];omega⟩
 have yx:∀(k:Nat) (db:DB),Y.h[k]?=some db->db.live=true->X.h[rn tb 0 k]?=some (db.rn tb 0)/\rn tb 0 k∈tb:=λk db hd hl=>by
  have hk:k<tb.length:=by have:=aK hd;simp only[Y] at this;omega
  exact⟨hp.h k db hd hl,by rw[wS hk];exact List.getElem_mem hk⟩
 have away:∀(j:Nat) (db:DB) (g:Nat × Nat),X.h[j]?=some db->db.live=true->X.G j=some g->j ∉ tb->Z.w.heap[g.1]?=X.w.heap[g.1]? := λj db g hd hl hg hn=>by
  refine h3.frame g.1 (hi.block_lt hd hl hg) λk db' g' hd' hl' hf' hg' e=>?_;obtain⟨e1,e2⟩:=yx k db' hd' hl';exact hn ((hi.inj (rn tb 0 k) _ j db g' g e1 (by rw[DB.rn_live];exact hl') (by rw[DB.rn_fix];exact hf') hd hl hg' hg e)▸e2)
 have hst:Step X F:=by
  refine⟨h3.size,h3.os,h3.tape,h3.output,h3.kept,?_,λj db' hj hd hl=>?_,λb hb hno=>?_,λj db g hd hl hf hg=>?_,λb hb=>?_⟩
  .show _<=(gQ tb X.h.length X.h tb Z.h).length;rw[q1];omega
  .by_cases hm:j∈tb
   .have hx:=List.idxOf_lt_length_iff.2 hm;have hj':j=rn tb X.h.length (tb.idxOf j):=by rw[wS hx,List.getElem_idxOf]
    have hj0:j=rn tb 0 (tb.idxOf j):=by rw[wS hx,List.getElem_idxOf]
    rw[hj'] at hd;obtain⟨db1,e1,e2⟩:=hpu.inv (i:=tb.idxOf j) (by omega) hd;subst e2;rw[DB.rn_live] at hl;obtain⟨db0,k1,k2,k3,k4⟩:=h3.ids (tb.idxOf j) db1 (by show _<h0.length;omega) e1 hl;obtain⟨e3,_⟩:=yx _ _ k1 k2.live;rw[<- hj0] at e3;have hG:Z.G (tb.idxOf j)=X.G j:=by rw[k3];show X.G (rn tb 0 (tb.idxOf j))=_;rw[<- hj0]
    refine⟨_,e3,?_,?_,λg hg=>k4 g ?_⟩
    .exact k2.rn_lr
    .have e5:=hpu.G (tb.idxOf j) (by omega);rw[<- hj'] at e5;rw[e5,hG]
    .show X.G (rn tb 0 (tb.idxOf j))=_;rw[<- hj0];exact hg
   .obtain⟨e1,e2⟩:=fo j hj hm;rw[e1] at hd;refine⟨db',hd,cM.refl hl,e2,λg hg=>?_⟩;rw[show F.w.heap[g.1]?=X.w.heap[g.1]? from away j db' g hd hl hg hm]
    exact(hi.blk j db' hd).same hl g hg
  .exact h3.frame b hb λk db g hd hl hf hg=>by
    obtain⟨e1,_⟩:=yx k db hd hl;exact hno _ _ g e1 (by rw[DB.rn_live];exact hl) (by rw[DB.rn_fix];exact hf) hg
  .rcases fi j (aK hd) with⟨f1,f2⟩|⟨i,f1,rfl⟩
   .obtain⟨e1,e2⟩:=fo j f1 f2;rw[e1] at hd;rw[e2] at hg;exact .inr ⟨j,db,g,hd,hl,hf,hg,rfl⟩
   .obtain⟨db1,e1,rfl⟩:=hpu.inv f1 hd;rw[hpu.G _ f1] at hg;rw[DB.rn_live] at hl;rw[DB.rn_fix] at hf;rcases h3.mine i db1 g e1 hl hf hg with h|⟨k,db0,g0,k1,k2,k3,k4,k5⟩
    .exact .inl h
    .obtain⟨e3,_⟩:=yx k db0 k1 k2;exact .inr ⟨_,_,g0,e3,by rw[DB.rn_live];exact k2,by rw[DB.rn_fix];exact k3,k4,k5⟩
  .rcases h3.upper b hb with h|h|⟨k,db0,g0,k1,k2,k4,k5⟩
   .exact .inl h
   .exact .inr (.inl h)
   .obtain⟨e3,_⟩:=yx k db0 k1 k2;exact .inr (.inr ⟨_,_,g0,e3,by rw[DB.rn_live];exact k2,k4,k5⟩)
 have noS:∀(j:Nat) (db:DB) (g:Nat × Nat),X.h[j]?=some db->db.live=true->db.fix=false->X.G j=some g->j ∉ tb->¬ Z.S g.1:=λj db g hd hl hf hg hn hS=>by
  rcases h3.upper g.1 hS with h|h|⟨k,db0,g0,k1,k2,k4,k5⟩
  .exact(hi.own j db g hd hl hg).1 hf h
  .have h6:=hi.block_lt hd hl hg;have h7:(X.subC tb h0).w.heap.size=X.w.heap.size:=rfl;omega
  .obtain⟨e1,e2⟩:=yx k db0 k1 k2;exact hn ((hi.inj j db (rn tb 0 k) _ g g0 hd hl hf e1 (by rw[DB.rn_live];exact k2) hg k4 k5.symm)▸e2)
 have hiF:HInv F:=by
  refine⟨h2.slt,λj db hd=>?_,λj db g hd hl hg=>?_,λj db j' db' g g' hd hl hf hd' hl' hg hg' he=>?_⟩
  .rcases fi j (aK hd) with⟨f1,f2⟩|⟨i,f1,rfl⟩
   .obtain⟨e1,e2⟩:=fo j f1 f2;rw[e1] at hd;by_cases hl:db.live=true
    .exact(hi.blk j db hd).move hst e2 λg hg=>away j db g hd hl hg f2
    .cases db<;>simp_all[DB.live,eC]
   .obtain⟨db1,e1,rfl⟩:=hpu.inv f1 hd;exact eC.push hpu f1 (h2.blk i db1 e1)
  .rcases fi j (aK hd) with⟨f1,f2⟩|⟨i,f1,rfl⟩
   .obtain⟨e1,e2⟩:=fo j f1 f2;rw[e1] at hd;rw[e2] at hg;exact⟨λhf=>noS j db g hd hl hf hg f2,λhf=>(h3.kept _ ((hi.own j db g hd hl hg).2 hf)).1⟩
   .obtain⟨db1,e1,rfl⟩:=hpu.inv f1 hd;rw[hpu.G _ f1] at hg;rw[DB.rn_live] at hl;rw[DB.rn_fix];exact h2.own i db1 g e1 hl hg
  ·
   have cross:∀(j:Nat) (db:DB) (g:Nat × Nat) (i:Nat) (db1:DB) (g1:Nat × Nat),X.h[j]?=some db->db.live=true->X.G j=some g->j ∉ tb->Z.h[i]?=some db1->db1.live=true->Z.G i=some g1->g.1=g1.1->(db.fix=false∨db1.fix=false)->False:=by
    intro j db g i db1 g1 k1 k2 k3 k4 k5 k6 k7 k8 k9;by_cases hf1:db1.fix=false
    .rcases h3.mine i db1 g1 k5 k6 hf1 k7 with h|⟨k,db0,g0,m1,m2,m3,m4,m5⟩
     .have h6:=hi.block_lt k1 k2 k3;have h7:(X.subC tb h0).w.heap.size=X.w.heap.size:=rfl;omega
     .obtain⟨e1,e2⟩:=yx k db0 m1 m2;exact k4 ((hi.inj (rn tb 0 k) _ j db g0 g e1 (by rw[DB.rn_live];exact m2) (by rw[DB.rn_fix];exact m3) k1 k2 m4 k3 (m5.trans k8.symm))▸e2)
    .have hS:=(h2.own i db1 g1 k5 k6 k7).2 (by simpa using hf1);rw[<- k8] at hS;rcases k9 with k9|k9
     .exact noS j db g k1 k2 k9 k3 k4 hS
     .exact hf1 k9
   rcases fi j (aK hd) with⟨f1,f2⟩|⟨i,f1,rfl⟩<;>rcases fi j' (aK hd') with⟨f1',f2'⟩|⟨i',f1',rfl⟩
   .obtain⟨e1,e2⟩:=fo j f1 f2;obtain⟨e1',e2'⟩:=fo j' f1' f2';rw[e1] at hd;rw[e2] at hg;rw[e1'] at hd';rw[e2'] at hg';exact hi.inj j db j' db' g g' hd hl hf hd' hl' hg hg' he
   .obtain⟨e1,e2⟩:=fo j f1 f2;rw[e1] at hd;rw[e2] at hg;obtain⟨db1,e3,rfl⟩:=hpu.inv f1' hd';rw[hpu.G _ f1'] at hg';rw[DB.rn_live] at hl';exact(cross j db g i' db1 g' hd hl hg f2 e3 hl' hg' he (.inl hf)).elim
   .obtain⟨e1',e2'⟩:=fo j' f1' f2';rw[e1'] at hd';rw[e2'] at hg';obtain⟨db1,e3,rfl⟩:=hpu.inv f1 hd;rw[hpu.G _ f1] at hg;rw[DB.rn_live] at hl;rw[DB.rn_fix] at hf;exact(cross j' db' g' i db1 g hd' hl' hg' f2' e3 hl hg he.symm (.inr hf)).elim
   .obtain⟨db1,e3,rfl⟩:=hpu.inv f1 hd;rw[hpu.G _ f1] at hg;rw[DB.rn_live] at hl;rw[DB.rn_fix] at hf;obtain⟨db2,e4,rfl⟩:=hpu.inv f1' hd';rw[hpu.G _ f1'] at hg';rw[DB.rn_live] at hl';rw[h2.inj i db1 i' db2 g g' e3 hl hf e4 hl' hg hg' he]
 exact⟨F,rfl,rfl,hiF,hst,hpu,hlen⟩
end
def DS.rnF(s:DS)(tb:List Nat)(h:aD):DS:=⟨s.n,s.t.map λp=>(p.1,p.2.rn tb h.length),gQ tb h.length h tb s.h⟩
theorem zAA(tb:List Nat)(N:Nat):∀(t:Fr) (i:Nat),look (t.map λp=>(p.1,p.2.rn tb N)) i=(look t i).rn tb N
 | [],_=>rfl
 | p::t,i=>by
  simp only[List.map_cons,look];split
  .rfl
  .exact zAA tb N t i
end
end Go.Dm
end
