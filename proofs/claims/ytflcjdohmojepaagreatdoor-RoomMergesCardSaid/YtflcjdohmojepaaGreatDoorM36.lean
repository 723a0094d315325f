/- Part 37 of the proof of roomMerges_card, set without needless blanks. No condition. -/
import Derived.Test.YtflcjdohmojepaaGreatDoorM35
import Derived.Maps.RangeRun
set_option linter.all false
set_option maxRecDepth 100000
set_option maxHeartbeats 16000000
section
namespace Go.Dm
open Go
section
variable {b m c since:Nat}{ms:Array MapEntry}{es:List (Int × PV)}{k:Array Nat × Nat}{X:Ctx}
structure ItAt (b m:Nat) (ms:Array MapEntry) (c since:Nat) (es:List (Int × PV)) (k:Array Nat × Nat) (X:Ctx):Prop where
 ab:pA X b
 am:pA X m
 ne:b≠m
 it:X.w.heap[b]?=some (.mapIter (some m) since k.1 k.2)
 mp:X.w.heap[m]?=some (.map ms c)
 rel:zX X.w X.S es ms.toList
theorem ItAt.step{X':Ctx}(h:ItAt b m ms c since es k X)(hi':HInv X')(hs:Step X X'):ItAt b m ms c since es k X':=by
 obtain⟨h1,h2⟩:=h.ab.step hi' hs;obtain⟨h3,h4⟩:=h.am.step hi' hs;exact⟨h1,h3,h.ne,h2.trans h.it,h4.trans h.mp,h.rel.kept hs.kept⟩
theorem ItAt.cut(h:ItAt b m ms c since es k X)(n:Nat):ItAt b m ms c since es k (X.cut n) :=
 ⟨h.ab.cut n,h.am.cut n,h.ne,h.it,h.mp,h.rel⟩
section rules
variable {P:Program}{T:Tab}{X0:Ctx}{b m:Nat}{ms:Array MapEntry}{c since:Nat}{es:List (Int × PV)}
variable {y cd x:Code}{s:DS}{id n0 i:Nat}{X:Ctx}{o:Oper}{l2:List Oper}{it:Operand}{t0:Fr}{h0:aD}
def zQh(b m:Nat)(ms:Array MapEntry)(c since:Nat)(es:List (Int × PV))(X0:Ctx)(Q:Array Nat × Nat->Exit->DS->Prop):Exit->Act->World->Prop:=λe a w =>
 ∃s X k,Q k e s/\X.w=w/\X.h=s.h/\HInv X/\Step X0 X/\TInv X s a/\ItAt b m ms c since es k X
def VZ(P:Program)(b m:Nat)(ms:Array MapEntry)(c since:Nat)(es:List (Int × PV))(X0:Ctx)(cd:Code)(s:DS)(k:Array Nat × Nat)(Q:Array Nat × Nat->Exit->DS->Prop):Prop :=
 Gnd P X0->X0.w.heap.size<=b->∀(X:Ctx) (a:Act),X.h=s.h->HInv X->Step X0 X->TInv X s a->ItAt b m ms c since es k X->cd.wp P (zQh b m ms c since es X0 Q) a X.w
def qit(P:Program)(b m:Nat)(ms:Array MapEntry)(c since:Nat)(es:List (Int × PV))(X0:Ctx)(y:Code)(k:Array Nat × Nat)(Q:Array Nat × Nat->Exit->DS->Prop):Exit->DS->Prop:=λe s'=>match e with
 | .normal=>VZ P b m ms c since es X0 y s' k Q
 | e=>Q k e s'
variable {s:DS}{k:Array Nat × Nat}{Q:Array Nat × Nat->Exit->DS->Prop}
theorem zQb: qit P b m ms c since es X0 y k Q .normal s=VZ P b m ms c since es X0 y s k Q:=nr rfl
theorem qi_r: qit P b m ms c since es X0 y k Q .ret s=Q k .ret s:=nr rfl
theorem qi_e: qit P b m ms c since es X0 y k Q (.exit id) s=Q k (.exit id) s:=nr rfl
theorem zNI(h:∀X1:Ctx,X1.h=s.h->SWP P X1 cd s (Q k)):VZ P b m ms c since es X0 cd s k Q:=λgd _ X a hh hi hs ht ha =>
 wp_mono (h X hh (gd.step hs) X a hh hi (Step.refl hi) ht) λe a w ⟨s',X',h1,h2,h3,h4,h5,h6⟩ =>
  ⟨s',X',k,h1,h2,h3,h4,hs.trans hi h5,h6,ha.step h4 h5⟩
theorem ZG(hT:bM P T)(hm:P.follows .mixedOrders=true)(h:∀X1:Ctx,X1.h=s.h->vc P T X1 cd s (Q k)):VZ P b m ms c since es X0 cd s k Q :=
 zNI λX1 h1=>dP hT hm cd (h X1 h1)
theorem MX(h:VZ P b m ms c since es X0 x s k λk'=>qit P b m ms c since es X0 y k' Q):VZ P b m ms c since es X0 (.seq x y) s k Q:=by
 intro gd hb X a hh hi hs ht ha;refine wp_seq (wp_mono (h gd hb X a hh hi hs ht ha) λe a w hp=>?_);obtain⟨s',X',k,h1,rfl,h3,h4,h5,h6,h7⟩:=hp;cases e<;>simp only[Exit.then,qit] at h1 ⊢
 case normal=>exact h1 gd hb X' a h3 h4 h5 h6 h7
 all_goals exact⟨s',X',k,h1,rfl,h3,h4,h5,h6,h7⟩
theorem zCX(hT:bM P T)(hm:P.follows .mixedOrders=true)(h:∀X1:Ctx,X1.h=s.h->vc P T X1 x s (qit P b m ms c since es X0 y k Q)):VZ P b m ms c since es X0 (.seq x y) s k Q :=
 MX (ZG hT hm h)
theorem JA(h:VZ P b m ms c since es X0 cd s k λk'=>mZ id (Q k')):VZ P b m ms c since es X0 (.block id cd) s k Q:=by
 intro gd hb X a hh hi hs ht ha;refine wp_block (wp_mono (h gd hb X a hh hi hs ht ha) λe a w hp=>?_);obtain⟨s',X',k,h1,rfl,h3,h4,h5,h6,h7⟩:=hp;cases e<;>simp only[Exit.inBlock,mZ] at h1 ⊢
 case exit id' =>
  split
  .rename_i he;rw[if_pos he] at h1;exact⟨s',X',k,h1,rfl,h3,h4,h5,h6,h7⟩
  .rename_i he;rw[if_neg he] at h1;exact⟨s',X',k,h1,rfl,h3,h4,h5,h6,h7⟩
 all_goals exact⟨s',X',k,h1,rfl,h3,h4,h5,h6,h7⟩
theorem zHc{Q':Exit->DS->Prop}(h:VZ P b m ms c since es X0 cd s k λ_=>Q'):Gnd P X0->X0.w.heap.size<=b->∀(X:Ctx) (a:Act),X.h=s.h->HInv X->Step X0 X->TInv X s a->ItAt b m ms c since es k X->cd.wp P (zHR X0 Q') a X.w:=λgd hb X a hh hi hs ht ha =>
 wp_mono (h gd hb X a hh hi hs ht ha) λ_ _ _ ⟨s',X',_,h1,h2,h3,h4,h5,h6,_⟩=>⟨s',X',h1,h2,h3,h4,h5,h6⟩
theorem FE.useI{s':DS}(h:FE n0 s s'){X0:Ctx}{a:Act}(hn:X0.h.length=n0)(hh:X.h=s.h)(hi:HInv X)(hs:Step X0 X)(ht:TInv X s a)(ha:ItAt b m ms c since es k X):∃X',X'.w=X.w/\X'.h=s'.h/\HInv X'/\Step X0 X'/\TInv X' s' a/\ItAt b m ms c since es k X':=by
 obtain⟨h0,h1,h2,h3,h4⟩:=h;have hcut:(X.cut s'.h.length).h=s'.h:=by simp only[Ctx.cut];rw[hh];exact h2.symm
 refine⟨X.cut s'.h.length,rfl,hcut,hi.cut (by rw[hh,<- h2];exact h3),hs.cut (by omega),⟨ht.size.trans h0.symm,λi=>?_,ht.defs⟩,ha.cut _⟩;rcases h4.look i with h5|⟨h5,h6⟩
 .rw[h5];exact True.intro
 .have:=ht.rel i;rw[<- h5] at this;exact this.cut h6
def SL{α:Type}(n0:Nat)(I:α->DS)(Kf:α->Array Nat × Nat)(J:α->Prop)(μ:α->Nat)(x:α)(Q:Array Nat × Nat->Exit->DS->Prop)(k:Array Nat × Nat):Exit->DS->Prop:=λe s'=>match e with
 | .normal=>∃y,J y/\μ y < μ x/\k=Kf y/\FE n0 s' (I y)
 | e=>Q k e s'
theorem zHe{α:Type}(I:α->DS)(Kf:α->Array Nat × Nat)(J:α->Prop)(μ:α->Nat)(x0:α)(hJ:J x0)(hk:k=Kf x0)(hw:FE X0.h.length s (I x0))
 (h:∀x,J x->VZ P b m ms c since es X0 cd (I x) (Kf x) (SL X0.h.length I Kf J μ x Q)):VZ P b m ms c since es X0 (.loop cd) s k Q:=by
 intro gd hb X a hh hi hs ht ha;obtain⟨X',h1,h2,h3,h4,h5,h6⟩:=hw.useI rfl hh hi hs ht ha;rw[<- h1];refine wp_loop_ghost (λn a w=>∃x X,μ x=n/\J x/\X.w=w/\X.h=(I x).h/\HInv X/\Step X0 X/\TInv X (I x) a/\ItAt b m ms c since es (Kf x) X) (μ x0) ⟨x0,X',rfl,hJ,rfl,h2,h3,h4,h5,hk▸h6⟩ ?_;rintro n a' w' ⟨x,Y,rfl,k1,rfl,k2,k3,k4,k5,k6⟩;refine wp_mono (h x k1 gd hb Y a' k2 k3 k4 k5 k6) λe a w hp=>?_;obtain⟨s',Z,k,p1,rfl,p3,p4,p5,p6,p7⟩:=hp;cases e<;>simp only[Exit.then,SL] at p1 ⊢
 case normal =>
  obtain⟨y,q1,q2,rfl,q3⟩:=p1;obtain⟨Z',r1,r2,r3,r4,r5,r6⟩:=q3.useI rfl p3 p4 p5 p6 p7;exact⟨μ y,q2,y,Z',rfl,q1,r1,r2,r3,r4,r5,r6⟩
 all_goals exact⟨s',Z,k,p1,rfl,p3,p4,p5,p6,p7⟩
theorem zQR{α:Type}{I:α->DS}{Kf:α->Array Nat × Nat}{J:α->Prop}{μ:α->Nat}{x:α}(y:α)(h1:J y)(h2:μ y < μ x)(h3:k=Kf y)(h4:FE n0 s (I y)):SL n0 I Kf J μ x Q k .normal s:=⟨y,h1,h2,h3,h4⟩
theorem zQS{α:Type}{I:α->DS}{Kf:α->Array Nat × Nat}{J:α->Prop}{μ:α->Nat}{x:α}:SL n0 I Kf J μ x Q k .ret s=Q k .ret s:=nr rfl
theorem zQQ{α:Type}{I:α->DS}{Kf:α->Array Nat × Nat}{J:α->Prop}{μ:α->Nat}{x:α}:SL n0 I Kf J μ x Q k (.exit id) s=Q k (.exit id) s:=nr rfl
theorem ItAt.turn{k k':Array Nat × Nat}(h:ItAt b m ms c since es k X)(hi:HInv X){w1:World}(hw:w1=X.w∨w1=X.w.drew):∃X',X'.w = { w1 with heap:=w1.heap.setIfInBounds b (.mapIter (some m) since k'.1 k'.2) }/\X'.h=X.h/\HInv X'/\(∀X0:Ctx,X0.w.heap.size<=b->Step X0 X->Step X0 X')/\(∀s a,TInv X s a->TInv X' s a)/\ItAt b m ms c since es k' X':=by
 have hd:∃X1:Ctx,X1.w=w1/\X1.h=X.h/\HInv X1/\Step X X1:=by
  rcases hw with rfl|rfl
  .exact⟨X,rfl,rfl,hi,Step.refl hi⟩
  .exact⟨X.at_ X.w.drew,rfl,rfl,HInv.alike hi ⟨rfl,rfl,rfl,⟨rfl,Nat.le_succ _⟩⟩,Step.alike hi ⟨rfl,rfl,rfl,⟨rfl,Nat.le_succ _⟩⟩⟩
 obtain⟨X1,e1,e2,h1,h2⟩:=hd;have ha:=h.step h1 h2;refine⟨X1.setB b (.mapIter (some m) since k'.1 k'.2),by rw[<- e1];rfl,e2,h1.setB ha.ab,λX0 hb hs=>(hs.trans hi h2).setB hb ha.ab,λs a ht=>TInv.setB ha.ab (ht.step h2),?_⟩
 have hlt:b<X1.w.heap.size:=ha.ab.1;refine⟨ha.ab.setB,?_,ha.ne,?_,?_,ha.rel.kept (kY ha.ab)⟩
 .exact⟨by show m<(X1.w.heap.setIfInBounds b _).size;rw[Array.size_setIfInBounds];exact ha.am.1,ha.am.2⟩
 .show (X1.w.heap.setIfInBounds b _)[b]? = _;rw[Array.getElem?_setIfInBounds_self_of_lt hlt]
 .rw[oI (show m≠b from λe=>ha.ne e.symm)]
  exact ha.mp
theorem zX.at_{w:World}{S:Nat->Prop}:∀{es:List (Int × PV)} {l:List MapEntry} {j:Nat} {e:MapEntry},zX w S es l->l[j]?=some e->∃y,es[j]?=some y/\e.key=.int .i64 y.1/\cZ w S y.2 e.val
 | [],[],j,e,_,h=>by simp at h
 | y::es,e0::l,0,e,hr,h=>by
  simp only[List.getElem?_cons_zero,Option.some.injEq] at h;subst h;exact⟨y,rfl,hr.1.1,hr.1.2⟩
 | y::es,e0::l,j+1,e,hr,h=>by
  simp only[List.getElem?_cons_succ] at h ⊢;exact zX.at_ hr.2 h
 | [],_::_,_,_,hr,_=>hr.elim
 | _::_,[],_,_,hr,_=>hr.elim
theorem zHf(hT:bM P T)(ho:o.op=.next it false)(hg:o.guard=none)(hd:o.dst=some i)(hin:i<n0)
 (hit:evD t0 it=.c (.p (.o (.pointer (some ⟨b,0,none⟩)))))(hold:∀x∈ms.toList,x.born<since)(hsc:since<=k.2)
 (hz:(leftOf ms k.1).size=0->∀K:DS->Prop,(∀s2,Q k .normal s2->K s2)->jI P T (o::l2).toArray l2 ⟨n0,(i,.tup [.c (.p (.b false))])::t0,h0⟩ K)
 (h1:∀(j:Nat) (e:MapEntry) (y:Int × PV),ms.toList[j]?=some e->es[j]?=some y->k.1.contains e.born=false->∀K:DS->Prop,(∀s2,Q (k.1.push e.born,c) .normal s2->K s2)->jI P T (o::l2).toArray l2 ⟨n0,(i,.tup [.c (.p (.b true)),.c (.p (.i .i64 y.1)),.c (.p y.2)])::t0,h0⟩ K):
  VZ P b m ms c since es X0 (.region id (o::l2).toArray false) ⟨n0,t0,h0⟩ k Q:=by
 intro gd hb X a hh hi hs ht ha;refine wp_region_list ?_;show wpList P _ _ (o::l2) a X.w;refine wpList_plain hg λK hK=>?_;unfold Oper.wp execOp;rcases run_next_at (P:=P) X.w o.type b m since k.2 k.1 ms c ha.it ha.mp hold hsc with⟨e0,hrun⟩|⟨e,he,w1,hal,hrun⟩
 .simp only[ho,QD ht hit,Sem.run_bind,hrun,Result.andThen_ok,Sem.run_pure];rw[Oper.upon_value];refine hK _ _ ?_;rw[<- List.append_nil l2];refine gB hT (gd.step hs) l2 (s:=⟨n0,(i,.tup [.c (.p (.b false))])::t0,h0⟩) hh hi (Step.refl hi) ?_ (by rw[List.append_nil];exact hz e0 _ λs2 hs2 X2 a2 hh2 hi2 hst2 ht2=>wpList_nil ⟨s2,X2,k,hs2,rfl,hh2,hi2,hs.trans hi hst2,ht2,ha.step hi2 hst2⟩);have:=ht.put (d:=.tup [.c (.p (.b false))]) (v:=.tuple #[.bool false]) ⟨[.bool false],rfl,rfl,True.intro⟩ o.dst h0;rw[hd,show (⟨n0,t0,h0⟩:DS).put (some i) (.tup [.c (.p (.b false))]) h0=⟨n0,(i,.tup [.c (.p (.b false))])::t0,h0⟩ from if_pos hin] at this
  rw[hd];exact this
 .obtain⟨hem,hes⟩:=mem_left he;obtain⟨j,hj⟩:=List.mem_iff_getElem?.1 hem;obtain⟨y,hy,hk1,hk2⟩:=ha.rel.at_ hj;obtain⟨X1,r1,r2,r3,r4,r5,r6⟩:=ha.turn (k':=(k.1.push e.born,c)) hi hal;simp only[ho,QD ht hit,Sem.run_bind,hrun,Result.andThen_ok,Sem.run_pure];rw[Oper.upon_value];refine hK _ _ ?_;have hw1:ChangeMaps.setBlock w1 b (.mapIter (some m) since (k.1.push e.born) c)=X1.w:=by rw[r1];rfl
  rw[hw1];rw[<- List.append_nil l2];have hs1:=r4 X0 hb hs;refine gB hT (gd.step hs1) l2 (s:=⟨n0,(i,.tup [.c (.p (.b true)),.c (.p (.i .i64 y.1)),.c (.p y.2)])::t0,h0⟩) (r2.trans hh) r3 (Step.refl r3) ?_ (by rw[List.append_nil];exact h1 j e y hj hy hes _ λs2 hs2 X2 a2 hh2 hi2 hst2 ht2=>wpList_nil ⟨s2,X2,_,hs2,rfl,hh2,hi2,hs1.trans r3 hst2,ht2,r6.step hi2 hst2⟩);obtain⟨y',hy',_,hk3⟩:=r6.rel.at_ hj;rw[hy] at hy';cases hy';have:=(r5 _ _ ht).put (d:=.tup [.c (.p (.b true)),.c (.p (.i .i64 y.1)),.c (.p y.2)]) (v:=.tuple #[.bool true,e.key,e.val]) ⟨[.bool true,e.key,e.val],rfl,rfl,hk1,hk3,True.intro⟩ o.dst h0;rw[hd,show (⟨n0,t0,h0⟩:DS).put (some i) (.tup [.c (.p (.b true)),.c (.p (.i .i64 y.1)),.c (.p y.2)]) h0=⟨n0,(i,.tup [.c (.p (.b true)),.c (.p (.i .i64 y.1)),.c (.p y.2)])::t0,h0⟩ from if_pos hin] at this
  rw[hd];exact this
theorem zCW(hT:bM P T){seen:Array Nat}{j:Nat}{e:MapEntry}{y:Int × PV}(ho:o.op=.entry it)(hg:o.guard=none)(hd:o.dst=some i)(hin:i<n0)
 (hit:evD t0 it=.c (.p (.o (.pointer (some ⟨b,0,none⟩)))))(hk:k=(seen.push e.born,c))(hj:ms.toList[j]?=some e)(hy:es[j]?=some y)(hn:(ms.toList.map (·.born)).Nodup)
 (h1:∀K:DS->Prop,(∀s2,Q k .normal s2->K s2)->jI P T (o::l2).toArray l2 ⟨n0,(i,.tup [.c (.p (.i .i64 y.1)),.c (.p y.2)])::t0,h0⟩ K):
  VZ P b m ms c since es X0 (.region id (o::l2).toArray false) ⟨n0,t0,h0⟩ k Q:=by
 intro gd hb X a hh hi hs ht ha;refine wp_region_list ?_;show wpList P _ _ (o::l2) a X.w;refine wpList_plain hg λK hK=>?_;unfold Oper.wp execOp;have hit2:=ha.it;rw[hk] at hit2;have hrun:=run_entry_at (P:=P) X.w b m since seen ms c e hit2 ha.mp (List.mem_of_getElem? hj) hn;simp only[ho,QD ht hit,Sem.run_bind,hrun,Result.andThen_ok,Sem.run_pure];rw[Oper.upon_value];refine hK _ _ ?_;obtain⟨y',hy',hk1,hk3⟩:=ha.rel.at_ hj;rw[hy] at hy';cases hy';rw[<- List.append_nil l2];refine gB hT (gd.step hs) l2 (s:=⟨n0,(i,.tup [.c (.p (.i .i64 y.1)),.c (.p y.2)])::t0,h0⟩) hh hi (Step.refl hi) ?_ (by rw[List.append_nil];exact h1 _ λs2 hs2 X2 a2 hh2 hi2 hst2 ht2=>wpList_nil ⟨s2,X2,k,hs2,rfl,hh2,hi2,hs.trans hi hst2,ht2,ha.step hi2 hst2⟩);have:=ht.put (d:=.tup [.c (.p (.i .i64 y.1)),.c (.p y.2)]) (v:=.tuple #[e.key,e.val]) ⟨[e.key,e.val],rfl,hk1,hk3,True.intro⟩ o.dst h0;rw[hd,show (⟨n0,t0,h0⟩:DS).put (some i) (.tup [.c (.p (.i .i64 y.1)),.c (.p y.2)]) h0=⟨n0,(i,.tup [.c (.p (.i .i64 y.1)),.c (.p y.2)])::t0,h0⟩ from if_pos hin] at this
 rw[hd];exact this
theorem zHd(hT:bM P T){l:List Oper}(n:Nat){t kt et:TypeId}{x:Operand}{mid:Nat}{Q:Exit->DS->Prop}(tb:List Nat)(hs:aD)(ts:Fr)(es:List (Int × PV))
 (hl:l.drop n=[o])(ho:o.op=.range t x)(hg:o.guard=none)(hd:o.dst=some i)(hu:P.underlying t=some (.map kt et))(hmid:mid ∉ tb)
 (h:∀K:DS->Prop,(∀n' t' h',i<n'->evD t' x=.c (.mp mid)->h'[mid]?=some (.mp es)->zOf tb h' hs=true->EK tb h' 0 hs->WkP tb hs.length t' ts ->
 (∀b m ms c es' Y0,es'.Perm es->(es'.map (·.1)).Nodup->es'.length=ms.toList.length->zC9 ms.toList c->Y0.h=hs->VZ P b m ms c c es' Y0 y ⟨n',(i,.c (.p (.o (.pointer (some ⟨b,0,none⟩)))))::ts,hs⟩ (#[],c) (λ_ e s'=>Q e (s'.rnF tb h')))->K ⟨n',t',h'⟩)->jI P T l.toArray (l.take n) ⟨n0,t0,h0⟩ K):
  SWP P X0 (.seq (.region id l.toArray false) y) ⟨n0,t0,h0⟩ Q:=by
 intro gd X a hh hi hs0 hti;refine wp_seq (wp_region_list ?_);rw[show l.toArray.toList=l.take n++[o] by rw[<- hl];simp]
 refine gB hT (gd.step hs0) (l.take n) hh hi (Step.refl hi) hti (h _ λn' t' h' hin he hmp hb htb hwk hy=>?_);intro X' a' hh' hi' hst ht';have hh':X'.h=h':=hh';subst hh';have hev:=ht'.ev x;rw[show (⟨n',t',X'.h⟩:DS).t=t' from rfl,he] at hev
 simp only[bD,cA] at hev;obtain⟨g,hG,hve⟩:=hev.2.2 _ hmp;have hbk:=hi'.blk mid _ hmp;simp only[eC] at hbk;obtain⟨g',ms,c,q1,q2,⟨es',hpm,hnd,q3⟩,q4⟩:=hbk;rw[hG] at q1;cases q1;have hr:=run_range_map (P:=P) X'.w t kt et g.1 ms c hu q2;refine wpList_plain hg λK hK=>?_;unfold Oper.wp execOp;simp only[ho,hve,Sem.run_bind,hr,Result.andThen_ok,Sem.run_pure];rw[Oper.upon_value];refine hK _ _ (wpList_nil ?_);show y.wp P (zHR X0 Q) _ _;have hiY:=zNB hi' hb htb;have hgr:Grew (X'.subC tb hs).w (X'.w.alloc (.mapIter (some g.1) c #[] c)) (.mapIter (some g.1) c #[] c):=Grew.alloc X'.w _;obtain⟨k1,k2,k3⟩:=zAG hiY hgr;have htY:TInv (X'.subC tb hs) ⟨n',ts,hs⟩ a':=⟨ht'.size,λi=>by
  rcases hwk.look i with h7|⟨h7,h8⟩
  .show bD _ (look ts i) _;rw[h7];exact True.intro
  .have:=ht'.rel i;rw[show (⟨n',t',X'.h⟩:DS).t=t' from rfl,h7] at this
   exact bD.pull (MV htb) h8 this,ht'.defs⟩
 have htY1:=(htY.step k2).put (d:=.c (.p (.o (.pointer (some ⟨X'.w.heap.size,0,none⟩))))) (v:=.pointer (some ⟨X'.w.heap.size,0,none⟩)) ⟨rfl,rfl⟩ o.dst hs;rw[hd,show (⟨n',ts,hs⟩:DS).put (some i) (.c (.p (.o (.pointer (some ⟨X'.w.heap.size,0,none⟩))))) hs=⟨n',(i,.c (.p (.o (.pointer (some ⟨X'.w.heap.size,0,none⟩)))))::ts,hs⟩ from if_pos hin] at htY1
 rw [hd];have hmlt:=hi'.block_lt hmp rfl hG;have hit:ItAt X'.w.heap.size g.1 ms c c es' (#[],c) ((X'.subC tb hs).at_ (X'.w.alloc (.mapIter (some g.1) c #[] c))):=by
  refine⟨k3,⟨?_,(hi'.own mid _ g hmp rfl hG).1 rfl,λid db g2 hdb hlv hg2 e=>?_⟩,λe=>by omega,hgr.new,(hgr.old hmlt).trans q2,q3.kept k2.kept⟩
  .have:=k2.size;show g.1<(X'.w.alloc _).heap.size;rw[hgr.size];exact Nat.lt_succ_of_lt hmlt
  .have hat:=htb.at_ hdb hlv;rw[Nat.zero_add] at hat;have hlt2:id<tb.length:=by
    have h1:=aK hdb;have hb2:=hb;simp only[zOf,Bool.and_eq_true] at hb2;rw[Nat.eq_of_beq_eq_true hb2.1];exact h1
   have:=hi'.inj mid _ (rn tb 0 id) _ g g2 hmp rfl rfl hat (by rw[DB.rn_live];exact hlv) hG hg2 e.symm;rw[wS hlt2] at this;exact hmid (this▸List.getElem_mem hlt2)
 have gx:Gnd P X':=(gd.step hs0).step hst;have gy:Gnd P (X'.subC tb hs):=gx;refine wp_mono (zHc (hy X'.w.heap.size g.1 ms c es' (X'.subC tb hs) hpm hnd q3.len q4 rfl) gy (Nat.le_refl _) _ _ rfl k1 k2 htY1 hit) λe a w hp=>?_;obtain⟨s',Z,p1,rfl,p3,p4,p5,p6⟩:=hp;obtain⟨F,f1,f2,f3,f4,f5,f6⟩:=zKA hi' hb htb p4 p5;refine⟨s'.rnF tb X'.h,F,p1,f1,by rw[f2,p3];rfl,f3,(hs0.trans hi hst).trans hi' f4,p6.size,λi=>?_,p6.defs⟩
 rw[show (s'.rnF tb X'.h).t=s'.t.map (λp=>(p.1,p.2.rn tb X'.h.length)) from rfl,zAA]
 exact bD.push f5 (p6.rel i)
end rules
attribute [go_sem] zQb qi_r qi_e zQS zQQ
end
section
variable {P:Program}{f:FuncId}{args:List DV}{h:aD}{n c j:Nat}{ms:Array MapEntry}{js:List Nat}{e:MapEntry}
theorem zMT{n0:Nat}{s:DS}(i:Nat){es es2:List (Int × PV)}(hd:s.h[i]?=some (.mp es))(hp:es.Perm es2):ND n0 s ⟨s.n,s.t,s.h.set i (.mp es2)⟩:=by
  intro X0 X a hn hh hi hs ht;rw[<- hh] at hd;have hlt:=aK hd;have key:∀{j:Nat} {db:DB},(X.h.set i (.mp es2))[j]?=some db->(j=i/\db=.mp es2)∨(j≠i/\X.h[j]?=some db):=λ{j db} h=>by
    by_cases e:j=i
    · subst e;rw[List.getElem?_set_self hlt,Option.some.injEq] at h;exact .inl ⟨rfl,h.symm⟩
    · rw[List.getElem?_set_ne (Ne.symm e)] at h;exact .inr ⟨e,h⟩
  have key2:∀{j:Nat} {db:DB},(X.h.set i (.mp es2))[j]?=some db->∃db0,X.h[j]?=some db0/\cM db0 db/\db0.live=true/\db0.fix=db.fix∨(X.h[j]?=some db/\db.live=false):=λ{j db} h=>by
    rcases key h with⟨rfl,rfl⟩|⟨_,h1⟩
    · exact⟨_,.inl ⟨hd,True.intro,rfl,rfl⟩⟩
    · by_cases hl:db.live=true
      · exact⟨db,.inl ⟨h1,cM.refl hl,hl,rfl⟩⟩
      · exact⟨db,.inr ⟨h1,by simpa using hl⟩⟩
  have old:∀{j:Nat} {db:DB},(X.h.set i (.mp es2))[j]?=some db->db.live=true->∃db0,X.h[j]?=some db0/\cM db0 db/\db0.live=true/\db0.fix=db.fix:=λh hl=>by
    obtain⟨db0,h1|⟨_,h1⟩⟩:=key2 h
    · exact⟨db0,h1⟩
    · rw[hl] at h1;cases h1
  have hst:Step X ⟨X.w,X.S,X.G,X.h.set i (.mp es2)⟩ :=
    { size:=Nat.le_refl _,os:=rfl,tape:=rfl,output:=tM.rfl',kept:=Kept.refl _ _,len:=by simp
      ids:=λj db' _ h hl=>by
        obtain⟨db0,h1,h2,h3,_⟩:=old h hl;exact⟨db0,h1,h2,rfl,(hi.blk j db0 h1).same h3⟩
      frame:=λ_ _ _=>rfl
      mine:=λj db g h hl hf hg=>by
        obtain⟨db0,h1,h2,h3,h4⟩:=old h hl;exact .inr ⟨j,db0,g,h1,h3,h4.trans hf,hg,rfl⟩
      upper:=λ_ h=>.inl h }
  refine⟨⟨X.w,X.S,X.G,X.h.set i (.mp es2)⟩,rfl,by show X.h.set i _=_;rw[hh],?_,hs.trans hi hst,ht.size,λj=>(ht.rel j).step hst,ht.defs⟩
  exact
    { slt:=hi.slt
      blk:=λj db h=>by
        rcases key h with⟨rfl,rfl⟩|⟨_,h1⟩
        · have:=hi.blk j _ hd;obtain⟨g,ms,c,k1,k2,⟨es',k3,k4,k5⟩,k6⟩:=this;exact⟨g,ms,c,k1,k2,⟨es',k3.trans hp,k4,k5⟩,k6⟩
        · exact(hi.blk j db h1).move hst rfl λ_ _=>rfl
      own:=λj db g h hl hg=>by
        obtain⟨db0,h1,h2,h3,h4⟩:=old h hl;rw[<- h4];exact hi.own j db0 g h1 h3 hg
      inj:=λj db j' db' g g' h hl hf h' hl' hg hg' he=>by
        obtain⟨db0,h1,h2,h3,h4⟩:=old h hl;obtain⟨db1,k1,k2,k3,k4⟩:=old h' hl';exact hi.inj j db0 j' db1 g g' h1 h3 (h4.trans hf) k1 k3 hg hg' he }
theorem aA.dataRH{k:Nat}{es:List (List PV)}(hn:es.length=n)(hcl:h.all (bP h.length)=true)(hc:aA P f args h λd h'=>d=.c (.own h.length 0 n)/\h'=h++[.arr k es false]):
    aA P f args h λd h'=>d=.c (.p (.sl k es))/\h'=h:=by
  intro X vals hh hi gd hr;have key:∀v w',Ret X (λd h'=>d=.c (.own h.length 0 n)/\h'=h++[.arr k es false]) v w'->Ret X (λd h'=>d=.c (.p (.sl k es))/\h'=h) v w':=by
    rintro v w' ⟨d,Z,k1,k2,k3,k4,rfl,k6⟩;have hrel:∀i:Nat,bD Z (look [(0,.c (.own h.length 0 n))] i) ((#[v]:Array Value).getD i undef):=λi=>by
      simp only[look];split
      · rename_i h0;subst h0;exact k4
      · exact True.intro
    have hp:SK Z.h (.own h.length 0 n)=some (.sl k es):=by simp[SK,k6,<- hn]
    obtain⟨X',p1,p2,p3,p4,p5⟩:=zFL (n0:=X.h.length) (s:=⟨1,[(0,.c (.own h.length 0 n))],Z.h⟩) 0 h.length 0 n (x:=.sl k es) rfl hp X Z ⟨#[v],[]⟩ rfl rfl k2 k3 ⟨rfl,hrel,rfl⟩;have hv:bD X' (.c (.p (.sl k es))) v:=p5.rel 0;have hx:X'.h.take h.length=h:=by rw[p2];simp[sN,zHU,k6]
    have hc1:HInv (X'.cut h.length):=p3.cut (by rw[hx];exact hcl);have hc2:Step X (X'.cut h.length):=p4.cut (by rw[hh];exact Nat.le_refl _);exact⟨.c (.p (.sl k es)),X'.cut h.length,p1.trans k1,hc1,hc2,hv,rfl,hx⟩
  rcases hc X vals hh hi gd hr with⟨h1,h2⟩|⟨v,w',h1,h2⟩
  · exact .inl ⟨h1,h2.mono λe w' ⟨v,he,hv⟩=>⟨v,he,key v w' hv⟩⟩
  · exact .inr ⟨v,w',h1,key v w' h2⟩
theorem zQq {T:Tab} (hT:bM P T) {fn:Func} {c:Code} {R:DV->aD->Prop} (hf:P.funcs[f]?=some fn) (hb:fn.body=some c)
 (hc:(Nat.ble args.length fn.ntmps && !(fn.name == "runtime.NumGoroutine"))=true)
 (hs:∀X0:Ctx,X0.h=h->SWP P X0 c ⟨fn.ntmps,jA 0 args,h⟩ (JE T fn.results.toList R)):aA P f args h R:=by
  simp only[Bool.and_eq_true,Bool.not_eq_true'] at hc;refine eM hT hf hb (Nat.le_of_ble_eq_true hc.1) hc.2 λX0 hX=>?_;rw[fK];refine fW (hs X0 hX) λe s hv=>?_;cases e<;>simp only[JE,dpost] at hv ⊢
  case normal=>exact gS _ [] (λl hl=>.inl (by simpa using hl)) hv
  case ret=>exact gS _ [] (λl hl=>.inl (by simpa using hl)) hv
def iZ(ms:Array MapEntry)(js:List Nat):Array Nat:=(js.map λj=>(ms.toList.map (·.born)).getD j 0).toArray
theorem zBi(h:ms.toList[j]?=some e):iZ ms (js++[j])=(iZ ms js).push e.born:=by
  have hf:(ms.toList.map (·.born)).getD j 0=e.born:=by rw[List.getD_eq_getElem?_getD,List.getElem?_map,h];rfl
  unfold iZ;rw[List.map_append,List.map_cons,List.map_nil,hf];simp
theorem zDy(h:ms.toList[j]?=some e)(hm:j∈js):(iZ ms js).contains e.born=true:=by
  unfold iZ;simp only[List.contains_toArray,List.contains_iff_mem,List.mem_map];exact⟨j,hm,by rw[List.getD_eq_getElem?_getD,List.getElem?_map,h];rfl⟩
theorem zH7(hb:zC9 ms.toList c)(hj:∀k∈js,k<ms.toList.length)(h:ms.toList[j]?=some e)(hc:(iZ ms js).contains e.born=true):j∈js:=by
  unfold iZ at hc;simp only[List.contains_toArray,List.contains_iff_mem,List.mem_map] at hc;obtain⟨k,hk,he⟩:=hc;have hlt:=hj k hk;have hk2:ms.toList[k]?=some ms.toList[k]:=List.getElem?_eq_getElem hlt;simp only[List.getD_eq_getElem?_getD,List.getElem?_map,hk2,Option.map_some,Option.getD_some] at he;obtain⟨hjl,hje⟩:=List.getElem?_eq_some_iff.1 h;have hp:=List.pairwise_iff_getElem.1 hb.1;rcases Nat.lt_trichotomy k j with hlt2|rfl|hgt
  · have:=hp k j hlt hjl hlt2;rw[hje] at this;omega
  · exact hk
  · have:=hp j k hjl hlt hgt;rw[hje] at this;omega
theorem zDx(hb:zC9 ms.toList c)(hj:∀k∈js,k<ms.toList.length)(hz:(leftOf ms (iZ ms js)).size=0):∀j,j<ms.toList.length->j∈js:=by
  intro j hlt;have hj2:ms.toList[j]?=some ms.toList[j]:=List.getElem?_eq_getElem hlt;refine zH7 hb hj hj2 ?_;cases hc:(iZ ms js).contains ms.toList[j].born with
  | true=>rfl
  | false =>
    exfalso;have hmem:ms.toList[j]∈leftOf ms (iZ ms js):=by
      unfold leftOf;rw[Array.mem_filter];exact⟨by rw[<- Array.mem_toList_iff];exact List.mem_of_getElem? hj2,by rw[hc];rfl⟩
    have:leftOf ms (iZ ms js) = #[]:=Array.eq_empty_of_size_eq_zero hz;rw[this] at hmem;simp at hmem
theorem zCj(hn:js.Nodup)(hj:∀k∈js,k<n)(ha:∀j,j<n->j∈js):js.Perm (List.range n):=by
  refine(List.perm_ext_iff_of_nodup hn List.nodup_range).2 λa=>?_;rw[List.mem_range];exact⟨hj a,ha a⟩
theorem zCb(hn:js.Nodup)(hj:∀k∈js,k<n):js.length<=n:=by
  have h:js.Perm ((List.range n).filter λk=>js.contains k):=(List.perm_ext_iff_of_nodup hn (List.nodup_range.filter _)).2 λa=>by
    rw[List.mem_filter,List.mem_range,List.contains_iff_mem];exact⟨λh=>⟨hj a h,h⟩,λh=>h.2⟩
  have:=List.length_filter_le (λk=>js.contains k) (List.range n);rw[List.length_range] at this;rw[h.length_eq];exact this
theorem zCc(hn:js.Nodup)(hj:j ∉ js):(js++[j]).Nodup :=
  List.nodup_append.2 ⟨hn,by simp,λa ha b hb e=>hj (by rw[<- List.mem_singleton.1 hb,<- e];exact ha)⟩
def yC{α:Type}(es:List α)(js:List Nat):List α:=js.filterMap λj=>es[j]?
theorem zH5{α:Type}{es:List α}{y:α}(h:es[j]?=some y):yC es (js++[j])=yC es js++[y]:=by
  unfold yC;rw[List.filterMap_append];simp[h]
theorem NN{α:Type}:∀es:List α,yC es (List.range es.length)=es
  | []=>rfl
  | x::es=>by
    have:=NN es;unfold yC at this ⊢;rw[List.length_cons,List.range_succ_eq_map,List.filterMap_cons];simp only[List.getElem?_cons_zero];rw[List.filterMap_map];show x::List.filterMap (λj=>es[j]?) _=_;rw[this]
theorem zH4{α:Type}{es:List α}(hn:js.Nodup)(hj:∀k∈js,k<es.length)(ha:∀j,j<es.length->j∈js):(yC es js).Perm es:=by
  have h:=(zCj hn hj ha).filterMap λj=>es[j]?;have e:=NN es;unfold yC at e ⊢;rw[e] at h;exact h
end
end Go.Dm
end
