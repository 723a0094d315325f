/- Part 43 of the proof of roomAsks_card, set without needless blanks. No condition. -/
import Derived.Test.YtlbfnbldeefgmaaGreatDoorA41
set_option linter.all false
section
namespace Go.Dm
open Go
section rules
variable {P:Program} {T:Tab} {X0:Ctx} {b:Nat}
theorem fB (hT:bD P T) (gd:Gnd P X0) {ops:Array Oper} {l2:List Oper} {Q':Exit→Act→World→Prop}:∀ (l:List Oper) {s:DS} {X:Ctx} {a:Act},X.h=s.h→HInv X→Step X0 X→TInv X s a →
  hZ P T ops l s (fun s'=>∀ X' a',X'.h=s'.h→HInv X'→Step X0 X'→TInv X' s' a'→wpList P ops Q' l2 a' X'.w)→wpList P ops Q' (l++l2) a X.w
 | [],s,X,a,hh,hi,hs,ht,h=>h X a hh hi hs ht
 | o::rest,s,X,a,hh,hi,hs,ht,h=>by
  refine wpList_step fun K hK=>?_;have go:dop P T o.op s.t s.h (fun d h'=>hZ P T ops rest (s.put o.dst d h') (fun s'=>∀ X' a',X'.h=s'.h→HInv X'→Step X0 X'→TInv X' s' a'→wpList P ops Q' l2 a' X'.w))→o.wp P a X.w K Q':=by
   intro hd;rw [← hh] at hd;refine xM hT hi (gd.step hs) ht.ev hd fun d v X' h1 h2 h3 h4=>hK _ _ ?_;refine fB hT gd rest (s:=s.put o.dst d X'.h) ?_ h1 (hs.trans hi h2) ?_ h4
   ·unfold DS.put;split <;> (try split) <;> rfl
   ·exact (ht.step h2).put h3 o.dst X'.h
  have skip:hZ P T ops rest (s.put o.dst (.tup []) s.h) (fun s'=>∀ X' a',X'.h=s'.h→HInv X'→Step X0 X'→TInv X' s' a'→wpList P ops Q' l2 a' X'.w)→K (a.put o.dst undef) X.w:=by
   intro hd;refine hK _ _ (fB hT gd rest (s:=s.put o.dst (.tup []) s.h) (by rw [hh];unfold DS.put;split <;> (try split) <;> rfl) hi hs (ht.put (d:=.tup []) (v:=undef) ⟨[],rfl,True.intro⟩ o.dst s.h) hd)
  simp only [hZ] at h;split at h
  ·rename_i hg;rw [if_pos (by simp [Region.wanted,hg])];exact go h
  ·rename_i j want hg;have hy:∀ d,((ops[j]?).bind (·.dst)).map (fun i=>look s.t i)=some d→∃ i,(ops[j]?).bind (·.dst)=some i∧bA X d (a.tmps.getD i undef):=by
    intro d hd;obtain ⟨i,h1,h2⟩:=Option.map_eq_some_iff.1 hd;exact ⟨i,h1,h2▸ht.rel i⟩
   split at h
   ·rename_i v hd;obtain ⟨i,h1,h3⟩:=hy _ hd;simp only [bA,bS,cT] at h3;have hv:a.tmps[i]? = some (.bool v):=by
     rcases Nat.lt_or_ge i a.tmps.size with hlt'|hge
     ·rw [Array.getElem?_eq_getElem hlt'];simp only [Array.getD,hlt',dif_pos] at h3
      congr 1
     ·rw [Array.getD_eq_getD_getElem?,Array.getElem?_eq_none hge] at h3;cases h3
    have hyd:yielded ops a.tmps j=some v:=by
     unfold yielded;rw [h1];simp only [Option.bind_some,hv]
    by_cases hw:v=want
    ·rw [if_pos (by simp [Region.wanted,hg,hyd,hw])];exact go (h.1 hw)
    ·rw [if_neg (by simp [Region.wanted,hg,hyd,hw])];exact skip (h.2 hw)
   ·rename_i hd;obtain ⟨i,h1,vs,hv,hr⟩:=hy _ hd;have hvs:vs=[]:=by
     cases vs with
     | nil=>rfl
     | cons _ _=>exact hr.elim
    subst hvs;have hyd:yielded ops a.tmps j=none:=by
     unfold yielded;rw [h1];simp only [Option.bind_some];rw [Array.getD_eq_getD_getElem?] at hv;cases hx:a.tmps[i]? with
     | none=>rfl
     | some u=>rw [hx] at hv;simp only [Option.getD_some] at hv;rw [hv]
    rw [if_neg (by simp [Region.wanted,hg,hyd])];exact skip h
   ·exact h.elim
def zMH (b:Nat) (X0:Ctx) (Q:List (List UInt8)→Exit→DS→Prop):Exit→Act→World→Prop:=fun e a w =>
 ∃ s X ks,Q ks e s∧X.w=w∧X.h=s.h∧HInv X∧Step X0 X∧TInv X s a∧mR X b∧qL X.w b ks
def BF (P:Program) (b:Nat) (X0:Ctx) (c:Code) (s:DS) (ks:List (List UInt8)) (Q:List (List UInt8)→Exit→DS→Prop):Prop :=
 Gnd P X0→X0.w.heap.size≤b→∀ (X:Ctx) (a:Act),X.h=s.h→HInv X→Step X0 X→TInv X s a→mR X b→qL X.w b ks→c.wp P (zMH b X0 Q) a X.w
def zKS (P:Program) (b:Nat) (X0:Ctx) (y:Code) (ks:List (List UInt8)) (Q:List (List UInt8)→Exit→DS→Prop):Exit→DS→Prop:=fun e s'=>match e with
 | .normal=>BF P b X0 y s' ks Q
 | e=>Q ks e s'
variable {s:DS} {ks:List (List UInt8)} {Q:List (List UInt8)→Exit→DS→Prop}
theorem zMB {y:Code} {s:DS}:zKS P b X0 y ks Q .normal s=BF P b X0 y s ks Q:=nr rfl
theorem qm_r {y:Code} {s:DS}:zKS P b X0 y ks Q .ret s=Q ks .ret s:=nr rfl
theorem qm_e {y:Code} {id:Nat} {s:DS}:zKS P b X0 y ks Q (.exit id) s=Q ks (.exit id) s:=nr rfl
theorem zKp {c:Code} (h:∀ X1:Ctx,X1.h=s.h→SWP P X1 c s (Q ks)):BF P b X0 c s ks Q:=fun gd _ X a hh hi hs ht ha hm =>
 wp_mono (h X hh (gd.step hs) X a hh hi (Step.refl hi) ht) fun e a w ⟨s',X',h1,h2,h3,h4,h5,h6⟩=>by
  obtain ⟨g1,g2⟩:=ha.step h4 h5;exact ⟨s',X',ks,h1,h2,h3,h4,hs.trans hi h5,h6,g1,hm.same g2⟩
theorem hD (hT:bD P T) (hm:P.follows .mixedOrders=true) {c:Code} (h:∀ X1:Ctx,X1.h=s.h→vc P T X1 c s (Q ks)):BF P b X0 c s ks Q :=
 zKp fun X1 h1=>dG hT hm c (h X1 h1)
theorem mA {x y:Code} (h:BF P b X0 x s ks fun ks'=>zKS P b X0 y ks' Q):BF P b X0 (.seq x y) s ks Q:=by
 intro gd hb X a hh hi hs ht ha hm;refine wp_seq (wp_mono (h gd hb X a hh hi hs ht ha hm) fun e a w hp=>?_);obtain ⟨s',X',k,h1,rfl,h3,h4,h5,h6,h7,h8⟩:=hp;cases e <;> simp only [Exit.then,zKS] at h1 ⊢
 case normal=>exact h1 gd hb X' a h3 h4 h5 h6 h7 h8
 all_goals exact ⟨s',X',k,h1,rfl,h3,h4,h5,h6,h7,h8⟩
theorem cO (hT:bD P T) (hm:P.follows .mixedOrders=true) {x y:Code} (h:∀ X1:Ctx,X1.h=s.h→vc P T X1 x s (zKS P b X0 y ks Q)):BF P b X0 (.seq x y) s ks Q :=
 mA (hD hT hm h)
theorem oZ {id:Nat} {c:Code} (h:BF P b X0 c s ks fun ks'=>kZ id (Q ks')):BF P b X0 (.block id c) s ks Q:=by
 intro gd hb X a hh hi hs ht ha hm;refine wp_block (wp_mono (h gd hb X a hh hi hs ht ha hm) fun e a w hp=>?_);obtain ⟨s',X',k,h1,rfl,h3,h4,h5,h6,h7,h8⟩:=hp;cases e <;> simp only [Exit.inBlock,kZ] at h1 ⊢
 case exit id' =>
  split
  ·rename_i he;rw [if_pos he] at h1;exact ⟨s',X',k,h1,rfl,h3,h4,h5,h6,h7,h8⟩
  ·rename_i he;rw [if_neg he] at h1;exact ⟨s',X',k,h1,rfl,h3,h4,h5,h6,h7,h8⟩
 all_goals exact ⟨s',X',k,h1,rfl,h3,h4,h5,h6,h7,h8⟩
theorem zAF {c:Code} {Q':Exit→DS→Prop} (h:BF P b X0 c s ks fun _=>Q'):Gnd P X0→X0.w.heap.size≤b→∀ (X:Ctx) (a:Act),X.h=s.h→HInv X→Step X0 X→TInv X s a→mR X b→qL X.w b ks→c.wp P (zAT X0 Q') a X.w:=fun gd hb X a hh hi hs ht ha hm =>
 wp_mono (h gd hb X a hh hi hs ht ha hm) fun _ _ _ ⟨s',X',_,h1,h2,h3,h4,h5,h6,_,_⟩=>⟨s',X',h1,h2,h3,h4,h5,h6⟩
theorem mR.cut {X:Ctx} (ha:mR X b) (n:Nat):mR (X.cut n) b:=⟨ha.1,ha.2.1,fun id db g hd hl hg=>ha.2.2 id db g (eR hd).1 hl hg⟩
theorem mR.ren {X:Ctx} (ha:mR X b) {p q:Nat} (hpq:p≠q) {k:Nat} {es:List (List PV)} (hq:X.h[q]? = some (.arr k es false)):mR (X.ren p q) b:=⟨ha.1,ha.2.1,fun id db g hd hl hg=>by
 rcases gD hpq hd hl with ⟨rfl,h1,_⟩|⟨h1,h2,x,h3,rfl⟩
 ·simp only [Ctx.ren,if_true] at hg;exact ha.2.2 q _ g h1 hl hg
 ·simp only [Ctx.ren,if_neg h1] at hg;refine ha.2.2 id x g h3 ?_ hg;cases x <;> simp_all [DB.live,renB]⟩
theorem EC.useA {n0:Nat} {s s':DS} (h:EC n0 s s') {X0 X:Ctx} {a:Act} (hn:X0.h.length=n0) (hh:X.h=s.h) (hi:HInv X) (hs:Step X0 X) (ht:TInv X s a) (ha:mR X b):∃ X',X'.w=X.w∧X'.h=s'.h∧HInv X'∧Step X0 X'∧TInv X' s' a∧mR X' b:=by
 obtain ⟨h0,h1,h2,h3,h4⟩:=h;have hcut:(X.cut s'.h.length).h=s'.h:=by simp only [Ctx.cut];rw [hh];exact h2.symm
 refine ⟨X.cut s'.h.length,rfl,hcut,hi.cut (by rw [hh,← h2];exact h3),hs.cut (by omega),⟨ht.size.trans h0.symm,fun i=>?_,ht.defs⟩,ha.cut _⟩;rcases h4.look i with h5|⟨h5,h6⟩
 ·rw [h5];exact True.intro
 ·have:=ht.rel i;rw [← h5] at this;exact this.cut h6
theorem vH.useA {n0:Nat} {s s':DS} (h:vH n0 s s') {X0 X:Ctx} {a:Act} (hn:X0.h.length=n0) (hh:X.h=s.h) (hi:HInv X) (hs:Step X0 X) (ht:TInv X s a) (ha:mR X b):∃ X',X'.w=X.w∧X'.h=s'.h∧HInv X'∧Step X0 X'∧TInv X' s' a∧mR X' b:=by
 rcases h with h|⟨p,q,kb,eb,hab,h0,h1,hp,hq,h⟩
 ·exact h.useA hn hh hi hs ht ha
 ·rw [← hh] at hp hq;refine h.useA (X:=X.ren p q) hn ?_ (hi.ren hab hq hp) (hs.ren hab (by omega) (by omega)) ⟨ht.size,fun i=>?_,ht.defs⟩ (ha.ren hab hq)
  ·simp only [Ctx.ren,DS.ren,hh]
  ·simp only [DS.ren];rw [FW];exact (ht.rel i).ren hab hq hp
def MH {α:Type} (n0:Nat) (I:α→DS) (Kf:α→List (List UInt8)) (J:α→Prop) (μ:α→Nat) (x:α) (Q:List (List UInt8)→Exit→DS→Prop) (ks:List (List UInt8)):Exit→DS→Prop:=fun e s'=>match e with
 | .normal=>∃ y,J y∧μ y < μ x∧ks=Kf y∧vH n0 s' (I y)
 | e=>Q ks e s'
theorem NU {α:Type} {c:Code} (I:α→DS) (Kf:α→List (List UInt8)) (J:α→Prop) (μ:α→Nat) (x0:α) (hJ:J x0) (hk:ks=Kf x0) (hw:vH X0.h.length s (I x0))
  (h:∀ x,J x→BF P b X0 c (I x) (Kf x) (MH X0.h.length I Kf J μ x Q)):BF P b X0 (.loop c) s ks Q:=by
 intro gd hb X a hh hi hs ht ha hm;obtain ⟨X',h1,h2,h3,h4,h5,h6⟩:=hw.useA rfl hh hi hs ht ha;rw [← h1] at hm ⊢;refine wp_loop_ghost (fun n a w=>∃ x X,μ x=n∧J x∧X.w=w∧X.h=(I x).h∧HInv X∧Step X0 X∧TInv X (I x) a∧mR X b∧qL X.w b (Kf x)) (μ x0) ⟨x0,X',rfl,hJ,rfl,h2,h3,h4,h5,h6,hk▸hm⟩ ?_;rintro n a' w' ⟨x,Y,rfl,k1,rfl,k2,k3,k4,k5,k6,k7⟩;refine wp_mono (h x k1 gd hb Y a' k2 k3 k4 k5 k6 k7) fun e a w hp=>?_;obtain ⟨s',Z,k,p1,rfl,p3,p4,p5,p6,p7,p8⟩:=hp;cases e <;> simp only [Exit.then,MH] at p1 ⊢
 case normal =>
  obtain ⟨y,q1,q2,rfl,q3⟩:=p1;obtain ⟨Z',r1,r2,r3,r4,r5,r6⟩:=q3.useA rfl p3 p4 p5 p6 p7;exact ⟨μ y,q2,y,Z',rfl,q1,r1,r2,r3,r4,r5,r6,r1▸p8⟩
 all_goals exact ⟨s',Z,k,p1,rfl,p3,p4,p5,p6,p7,p8⟩
theorem zHi {α:Type} {n0:Nat} {I:α→DS} {Kf:α→List (List UInt8)} {J:α→Prop} {μ:α→Nat} {x:α} {s:DS} (y:α) (h1:J y) (h2:μ y < μ x) (h3:ks=Kf y) (h4:vH n0 s (I y)):MH n0 I Kf J μ x Q ks .normal s:=⟨y,h1,h2,h3,h4⟩
theorem zNi {α:Type} {n0:Nat} {I:α→DS} {Kf:α→List (List UInt8)} {J:α→Prop} {μ:α→Nat} {x:α} {s:DS}:MH n0 I Kf J μ x Q ks .ret s=Q ks .ret s:=nr rfl
theorem zNh {α:Type} {n0:Nat} {I:α→DS} {Kf:α→List (List UInt8)} {J:α→Prop} {μ:α→Nat} {x:α} {id:Nat} {s:DS}:MH n0 I Kf J μ x Q ks (.exit id) s=Q ks (.exit id) s:=nr rfl
theorem WG {X:Ctx} (hi:HInv X) {w':World} {o:Obj} (hw:Grew X.w w' o):HInv (X.at_ w')∧Step X (X.at_ w')∧mR (X.at_ w') X.w.heap.size:=by
 have hst:Step X (X.at_ w'):={
  size:=by simp only [Ctx.at_,hw.size];omega
  os:=hw.os
  tape:=hw.tape
  output:=hw.output
  kept:=fun c hc=>⟨hc,hw.old (hi.slt c hc)⟩
  len:=Nat.le_refl _
  ids:=fun id db' _ h hl=>⟨db',h,cD.refl hl,rfl,fun g hg=>by
   have:=(hi.blk id db' h).same hl g hg;show sR _ (w'.heap[g.1]?);rw [hw.old (hi.block_lt h hl hg)];exact this⟩
  frame:=fun c hc _=>hw.old hc
  mine:=fun id db g h hl hf hg=>.inr ⟨id,db,g,h,hl,hf,hg,rfl⟩
  upper:=fun _ h=>.inl h }
 refine ⟨⟨fun c hc=>Nat.lt_of_lt_of_le (hi.slt c hc) hst.size,fun id db h=>?_,hi.own,hi.inj⟩,hst,by simp only [Ctx.at_,hw.size];omega,fun hc=>absurd (hi.slt _ hc) (Nat.lt_irrefl _),fun id db g h hl hg e=>absurd (hi.block_lt h hl hg) (by omega)⟩
 cases hl:db.live
 ·cases db <;> simp_all [DB.live,dU]
 ·exact (hi.blk id db h).move hst rfl fun g hg=>hw.old (hi.block_lt h hl hg)
theorem KJ {X:Ctx} {s:DS} {a:Act} (ht:TInv X s a) {m:Operand} {v:Value} (h:evD s.t m=.c (.p (.o v))):a.eval m=v:=by
 have:=ht.ev m;rw [h] at this;simp only [bA,bS,cT] at this;exact this.1
theorem zIf {X:Ctx} {s:DS} {a:Act} (ht:TInv X s a) {m:Operand} {k:List UInt8} (h:evD s.t m=.c (.p (.s k))):a.eval m=DN k:=by
 have:=ht.ev m;rw [h] at this;simp only [bA,bS,cT] at this;exact this
theorem zJq {X:Ctx} {s:DS} {a:Act} (ht:TInv X s a) {m:Operand} {k:Bool} (h:evD s.t m=.c (.p (.b k))):a.eval m=.bool k:=by
 have:=ht.ev m;rw [h] at this;simp only [bA,bS,cT] at this;exact this
theorem zHI (hT:bD P T) {id:Nat} {l:List Oper} (n:Nat) {o:Oper} {t kt et:TypeId} {m k v:Operand} (key:List UInt8) (hl:l.drop n=[o]) (hu:P.underlying t=some (.map kt et)) (hk:P.underlying kt=some .string) (ho:o.op=.mapUpdate t m k v) (hg:o.guard=none) (hd:o.dst=none) (hlen:key.length≤maxLen)
  (h:∀ K:DS→Prop,(∀ s',evD s'.t m=.c (.p (.o (.map (some b))))∧evD s'.t k=.c (.p (.s key))∧evD s'.t v=.c (.p (.b true))∧Q (key::ks) .normal s'→K s')→hZ P T l.toArray (l.take n) s K):
  BF P b X0 (.region id l.toArray false) s ks Q:=by
 intro gd hb X a hh hi hs ht ha hm;refine wp_region_list ?_;rw [show l.toArray.toList=l.take n++[o] by rw [← hl];simp]
 refine fB hT (gd.step hs) (l.take n) hh hi (Step.refl hi) ht (h _ fun s' hs'=>?_);obtain ⟨e1,e2,e3,hq⟩:=hs';intro X' a' hh' hi' hst ht';obtain ⟨ha',hsm⟩:=ha.step hi' hst;obtain ⟨ob,r1,r2⟩:=zJP hu hk (hm.same hsm) hlen;refine wpList_plain hg fun K hK=>?_;unfold Oper.wp execOp;simp only [ho,KJ ht' e1,zIf ht' e2,zJq ht' e3,Sem.run_bind,r1,Result.andThen_ok,Sem.run_pure];rw [Oper.upon_skip];refine hK _ _ (wpList_nil ⟨s',X'.setB b ob,key::ks,hq,rfl,hh',hi'.setB ha',(hs.trans hi hst).setB hb ha',?_,ha'.setB,r2⟩);have:=TInv.setB (o:=ob) ha' ht';rw [hd];exact this
theorem zEG (hT:bD P T) {id:Nat} {l l2:List Oper} (n:Nat) {o:Oper} {t kt et:TypeId} {m k:Operand} (key:List UInt8) (hl:l.drop n=o::l2) (hu:P.underlying t=some (.map kt et)) (hk:P.underlying kt=some .string) (hz:∀ w,(zeroValue et).run P w=.ok (.bool false) w) (ho:o.op=.lookup t m k false) (hg:o.guard=none) (hlen:key.length≤maxLen)
  (h:∀ K:DS→Prop,(∀ s',evD s'.t m=.c (.p (.o (.map (some b))))∧evD s'.t k=.c (.p (.s key))∧(∀ K2:DS→Prop,(∀ s2,Q ks .normal s2→K2 s2)→hZ P T l.toArray l2 (s'.put o.dst (.c (.p (.b (ks.contains key)))) s'.h) K2)→K s')→hZ P T l.toArray (l.take n) s K):
  BF P b X0 (.region id l.toArray false) s ks Q:=by
 intro gd hb X a hh hi hs ht ha hm;refine wp_region_list ?_;rw [show l.toArray.toList=l.take n++o::l2 by rw [← hl];simp]
 refine fB hT (gd.step hs) (l.take n) hh hi (Step.refl hi) ht (h _ fun s' hs'=>?_);obtain ⟨e1,e2,hq⟩:=hs';intro X' a' hh' hi' hst ht';obtain ⟨ha',hsm⟩:=ha.step hi' hst;have r1:=zGV hu hk (hz X'.w) (hm.same hsm) hlen;refine wpList_plain hg fun K hK=>?_;unfold Oper.wp execOp;simp only [ho,KJ ht' e1,zIf ht' e2,Sem.run_bind,r1,Result.andThen_ok,Sem.run_pure];rw [Oper.upon_value];refine hK _ _ ?_;rw [← List.append_nil l2];refine fB hT (gd.step (hs.trans hi hst)) l2 (s:=s'.put o.dst (.c (.p (.b (ks.contains key)))) s'.h) (by unfold DS.put;split <;> (try split) <;> exact hh') hi' (Step.refl hi') (ht'.put (d:=.c (.p (.b (ks.contains key)))) rfl o.dst s'.h) (hq _ fun s2 hs2=>?_);intro X2 a2 hh2 hi2 hst2 ht2;obtain ⟨ha2,hsm2⟩:=ha'.step hi2 hst2;exact wpList_nil ⟨s2,X2,ks,hs2,rfl,hh2,hi2,(hs.trans hi hst).trans hi' hst2,ht2,ha2,(hm.same hsm).same hsm2⟩
theorem zEI {c:Code} (i k:Nat) (hn:look s.t i=.c (.p .nil)) (h:BF P b X0 c ⟨s.n,(i,.c (.own s.h.length 0 0))::s.t,s.h++[.arr k [] false]⟩ ks Q):BF P b X0 c s ks Q:=by
 intro gd hb X a hh hi hs ht ha hm;obtain ⟨h1,h2⟩:=virt hi k;obtain ⟨g1,g2⟩:=ha.step h2 h1;refine h gd hb (X.virt k) a (by simp [Ctx.virt,hh]) h2 (hs.trans hi h1) ⟨ht.size,fun j=>?_,ht.defs⟩ g1 (hm.same g2);simp only [look];split
 ·rename_i hij;subst hij;have:=ht.rel j;rw [hn] at this;rw [← hh];exact qC (gS (X:=X) (k:=k) this)
 ·exact (ht.rel j).step h1
theorem zHE (hT:bD P T) {id:Nat} {o:Oper} {l2:List Oper} {t:TypeId} {y:Code} {Q:Exit→DS→Prop} (ho:o.op=.makeMap t none) (hg:o.guard=none)
  (h:∀ b,∀ K:DS→Prop,(∀ s',BF P b X0 y s' [] (fun _=>Q)→K s')→hZ P T (o::l2).toArray l2 (s.put o.dst (.c (.p (.o (.map (some b))))) s.h) K):
  SWP P X0 (.seq (.region id (o::l2).toArray false) y) s Q:=by
 intro gd X a hh hi hs ht;refine wp_seq (wp_region_list ?_);show wpList P _ _ (o::l2) a X.w;refine wpList_plain hg fun K hK=>?_;unfold Oper.wp execOp;simp only [ho,Option.map_none,Instr.makeMap,Sem.run_bind,Sem.run_pure,run_newObj,Result.andThen_ok];rw [Oper.upon_value];obtain ⟨g1,g2,g3⟩:=WG hi (w':={ X.w with heap:=X.w.heap.push (.map #[] 0) }) ⟨rfl,rfl,rfl,qG.rfl'⟩;refine hK _ _ ?_;have ht1:TInv (X.at_ { X.w with heap:=X.w.heap.push (.map #[] 0) }) (s.put o.dst (.c (.p (.o (.map (some X.w.heap.size))))) s.h) (a.put o.dst (.map (some X.w.heap.size))):=(ht.step g2).put (d:=.c (.p (.o (.map (some X.w.heap.size))))) ⟨rfl,rfl⟩ o.dst s.h
 suffices hx:wpList P (o::l2).toArray (Exit.then (y.wp P (zAT X0 Q)) (zAT X0 Q)) (l2++[]) (a.put o.dst (.map (some X.w.heap.size))) { X.w with heap:=X.w.heap.push (.map #[] 0) } by rwa [List.append_nil] at hx
 refine fB hT (gd.step (hs.trans hi g2)) l2 (X:=X.at_ { X.w with heap:=X.w.heap.push (.map #[] 0) }) (by unfold DS.put;split <;> (try split) <;> exact hh) g1 (Step.refl g1) ht1 (h X.w.heap.size _ fun s2 hs2=>?_);intro X2 a2 hh2 hi2 hst2 ht2;obtain ⟨ha2,hsm2⟩:=g3.step hi2 hst2;have hm0:qL (X.at_ { X.w with heap:=X.w.heap.push (.map #[] 0) }).w X.w.heap.size []:=⟨#[],0,by show (X.w.heap.push _)[X.w.heap.size]? = _;rw [Array.getElem?_push,if_pos rfl],by simp,by simp⟩
 exact wpList_nil (zAF hs2 gd hs.size X2 a2 hh2 hi2 ((hs.trans hi g2).trans g1 hst2) ht2 ha2 (hm0.same hsm2))
theorem zEH (hT:bD P T) {id:Nat} {l:List Oper} {n0:Nat} {t0:Fr} {h0:aC} (n:Nat) {o:Oper} {t kt et:TypeId} {m k v:Operand} (key:List UInt8) (hl:l.drop n=[o]) (hu:P.underlying t=some (.map kt et)) (hk:P.underlying kt=some .string) (ho:o.op=.mapUpdate t m k v) (hg:o.guard=none) (hd:o.dst=none) (hlen:key.length≤maxLen)
  (h:∀ K:DS→Prop,(∀ n' t' h',evD t' m=.c (.p (.o (.map (some b))))→evD t' k=.c (.p (.s key))→evD t' v=.c (.p (.b true))→Q (key::ks) .normal ⟨n',t',h'⟩→K ⟨n',t',h'⟩)→hZ P T l.toArray (l.take n) ⟨n0,t0,h0⟩ K):
  BF P b X0 (.region id l.toArray false) ⟨n0,t0,h0⟩ ks Q :=
 zHI hT n key hl hu hk ho hg hd hlen fun K hK=>h K fun n' t' h' e1 e2 e3 hq=>hK ⟨n',t',h'⟩ ⟨e1,e2,e3,hq⟩
theorem zAJ (hT:bD P T) {id:Nat} {l l2:List Oper} {n0:Nat} {t0:Fr} {h0:aC} (n:Nat) {o:Oper} {t kt et:TypeId} {m k:Operand} {i:Nat} (key:List UInt8) (hl:l.drop n=o::l2) (hu:P.underlying t=some (.map kt et)) (hk:P.underlying kt=some .string) (hz:∀ w,(zeroValue et).run P w=.ok (.bool false) w) (ho:o.op=.lookup t m k false) (hg:o.guard=none) (hd:o.dst=some i) (hlen:key.length≤maxLen)
  (h:∀ K:DS→Prop,(∀ n' t' h',i<n'→evD t' m=.c (.p (.o (.map (some b))))→evD t' k=.c (.p (.s key))→(∀ K2:DS→Prop,(∀ s2,Q ks .normal s2→K2 s2)→hZ P T l.toArray l2 ⟨n',(i,.c (.p (.b (ks.contains key))))::t',h'⟩ K2)→K ⟨n',t',h'⟩)→hZ P T l.toArray (l.take n) ⟨n0,t0,h0⟩ K):
  BF P b X0 (.region id l.toArray false) ⟨n0,t0,h0⟩ ks Q :=
 zEG hT n key hl hu hk hz ho hg hlen fun K hK=>h K fun n' t' h' hi e1 e2 hq=>hK ⟨n',t',h'⟩ ⟨e1,e2,by
  rw [hd,show (⟨n',t',h'⟩:DS).put (some i) (.c (.p (.b (ks.contains key)))) h'=⟨n',(i,.c (.p (.b (ks.contains key))))::t',h'⟩ from if_pos hi]
  exact hq⟩
theorem zEB (hT:bD P T) {id:Nat} {o:Oper} {l2:List Oper} {n0:Nat} {t0:Fr} {h0:aC} {t:TypeId} {i:Nat} {y:Code} {Q:Exit→DS→Prop} (ho:o.op=.makeMap t none) (hg:o.guard=none) (hd:o.dst=some i) (hi:i<n0)
  (h:∀ b,∀ K:DS→Prop,(∀ s',BF P b X0 y s' [] (fun _=>Q)→K s')→hZ P T (o::l2).toArray l2 ⟨n0,(i,.c (.p (.o (.map (some b)))))::t0,h0⟩ K):
  SWP P X0 (.seq (.region id (o::l2).toArray false) y) ⟨n0,t0,h0⟩ Q :=
 zHE hT ho hg fun b K hK=>by
  rw [hd,show (⟨n0,t0,h0⟩:DS).put (some i) (.c (.p (.o (.map (some b))))) h0=⟨n0,(i,.c (.p (.o (.map (some b)))))::t0,h0⟩ from if_pos hi]
  exact h b K hK
end rules
attribute [go_sem] zMB qm_r qm_e zNi zNh
end Go.Dm
end
section
namespace Go.Proofs.YtlbfnbldeefgmaaGreatDoor
open Go Go.Dm Go.Proofs
set_option maxRecDepth 100000
set_option maxHeartbeats 4000000
theorem zFj {p q:List UInt8} {k m k' m':Int} {tt tt':Nat} {d d':List UInt8}:
  aA Tryz.prog 156 [.agg [.p (.s p),.p (.i .i64 k),.p (.i .i64 m),.p (.f tt),.p (.sl 1 (bO d))],.agg [.p (.s q),.p (.i .i64 k'),.p (.i .i64 m'),.p (.f tt'),.p (.sl 1 (bO d'))]] [] fun r h=>r=.c (.p (.i .i64 (HL p q)))∧h=[]:=by
 refine ent aB aK Tryz.func156 rfl rfl fun X0 hX=>?_;simp only [Tryz.f156,go_sem]
 repeat' (first|simp only [*,go_sem,Nat.reduceLT,Nat.reduceEqDiff,↓reduceIte,]|((with_reducible refine dM (jX) ?_ ?_ ?_);exact rfl;exact rfl))
theorem zKd {h:aC} {id:Nat} {l:List It} (hu:∀ x∈l,∀ y∈l,x.p=y.p→x=y) (hid:h[id]? = some (.arr 5 (aU l) false)) (hsz:l.length<4611686018427387904):
  aA Tryz.prog 155 [.c (.own id 0 l.length),.c (.clo 156 [])] h fun d h'=>d=.tup []∧h'=h.set id (.arr 5 (aU (fH l)) false):=by
 have:=mX (P:=Tryz.prog) (f:=155) (g:=156) 5 (by decide) cfI TC
  (enters Tryz.func155 rfl rfl) (enters_of Tryz.func156 (by kernel_rfl) rfl)
  (fun enc hk h1 c hO blk off cap d w hcmp hH hblk hsz=>Tryz.slices_SortFunc_f155 5 Tryz.isAgg130 Tryz.sizeOf130 enc hk h1 c hO 156 #[] blk off cap d w (enters_of Tryz.func156 (by kernel_rfl) rfl) hcmp hH hblk hsz)
  (fun p cap fv w=>Tryz.slices_SortFunc_none_f155 (α:=Nat) p cap fv w)
  (h:=h) (i0:=id) (es:=aU l) (fun x hx y hy=>by
   obtain ⟨a,_,rfl⟩:=List.mem_map.1 hx;obtain ⟨b,_,rfl⟩:=List.mem_map.1 hy;exact zFj) (HZ hu) hid (by rw [cS];exact hsz)
 rw [KF,cS] at this;exact this
theorem zLr {t:List It} {p:List UInt8} {kk k m k' m':Int} {tt tt':Nat} {d d':List UInt8} (ht:OkT t):
  aA Tryz.prog 154 [.c (.p (.sl 5 (aU t))),.agg [.p (.s p),.p (.i .i64 kk),.p (.i .i64 k),.p (.i .i64 m),.p (.f tt),.p (.sl 1 (bO d)),.p (.i .i64 k'),.p (.i .i64 m'),.p (.f tt'),.p (.sl 1 (bO d'))]] [] fun r h =>
   r=.c (.p (.b (rC t ⟨p,kk,⟨k,m,tt,d⟩,⟨k',m',tt',d'⟩⟩)))∧h=[]:=by
 have hg:=jL (t:=t) (p:=p) (Nat.le_trans ht.len (by decide)) ht.srt ht.ne (fun x hx=>Nat.le_trans (ht.dlen x hx) (by decide));unfold rC;simp only;clear ht;generalize (aQ t p).getD nd0=n at *;generalize (aQ t p).isSome=u at *;refine ent aB aK Tryz.func154 rfl rfl fun X0 hX=>?_;simp only [Tryz.f154,go_sem]
 repeat' (first|simp only [*,go_sem,Nat.reduceLT,Nat.reduceLeDiff,Nat.reduceEqDiff,↓reduceIte,Nat.reduceAdd,]|((with_reducible refine kM (hg) ?_ ?_ ?_);exact rfl;exact fun _=>rfl)|((with_reducible refine dM (rO) ?_ ?_ ?_);exact rfl;exact rfl)|with_reducible refine aO (fun _=>?_) (fun _=>?_)|with_reducible refine bF (fun _=>?_) (fun _=>?_))
 all_goals simp_all
theorem zFx {t:List It} (ht:t.length≤1000000) (hd:∀ x∈t,x.n.d.length≤140737488355328):
  aA Tryz.prog 99 [.c (.p (.sl 5 (aU t)))] [] fun r h=>r=.c (.p (.sl 5 (aU t)))∧h=[]:=by
 refine ent aB aK Tryz.func99 rfl rfl fun X0 hX=>?_;simp only [Tryz.f99,go_sem]
 repeat' (simp only [*,go_sem,Nat.reduceLT,Nat.reduceEqDiff,↓reduceIte,])
 refine mB aB aK 3 5 rfl ?_;refine aY aB aK (α:=Nat) (fun k=>⟨23,[(6,.c (.p (.sl 5 (aU t)))),(7,.c (.p (.i .i64 t.length))),(8,.c (.p (.i .i64 k))),(3,.c (.own 0 0 k))],[.arr 5 (aU (t.take k)) false]⟩)
  (fun k=>k≤t.length) (fun k=>t.length-k) 0 (Nat.zero_le _) (.inl (aI (by rw [hX];rfl) rfl rfl (by simp [aH,aL,aD,aJ,aF,gA,]))) ?_
 intro k hk;have hmn:min k t.length=k:=Nat.min_eq_left hk;have hln:(t.take k).length=k:=by rw [List.length_take,hmn]
 by_cases hlt:k<t.length
 ·have hx:t[k]? = some t[k]:=List.getElem?_eq_getElem hlt;have hg:=cQ hx;have h1:decide ((k:Int)<(t.length:Int))=true:=decide_eq_true (by omega);have w1:IntKind.i64.wrap ((k:Int)+1)=k+1:=wrap_i64 (by omega) (by omega);have hnx:t.take (k+1)=t.take k++[⟨t[k].p,t[k].n⟩]:=by rw [List.take_add_one,hx];rfl
  have hdx:=hd _ (List.getElem_mem hlt);generalize t[k]=x at hx hg hnx hdx;generalize hrow:t.take k=row at hln hnx;clear hx hrow hd
  repeat' (first|simp only [*,go_sem,Nat.reduceLT,Nat.reduceLeDiff,Nat.reduceEqDiff,↓reduceIte,Nat.reduceAdd,]|((refine aN (id:=5) aB aK [7,8] [1,2,3,4,5,6,7,0,8,9] (by decide +kernel) ?_);(repeat' (first|(refine aT ?_)|((refine cV ?_ ?_ rfl rfl rfl ?_ ?_);(rotate_left 2);(focus ((repeat' (first|simp only [*,go_sem,Nat.reduceLT,Nat.reduceLeDiff,Nat.reduceEqDiff,↓reduceIte,Nat.reduceAdd,Nat.reduceMul,Nat.reduceBEq,]|((with_reducible refine And.intro ?_ ?_);((first|omega|decide)))));((refine And.intro ?_ ?_ <;> exact rfl))));(simp only [aG]))|((refine cU ?_ rfl rfl rfl ?_ ?_);(rotate_left 1);(focus ((repeat' (first|exact bG|refine aZ ?_ ?_));(all_goals ((repeat' (first|simp only [*,go_sem,Nat.reduceLT,Nat.reduceLeDiff,Nat.reduceEqDiff,↓reduceIte,Nat.reduceAdd,]|((with_reducible refine kM (xC hdx) ?_ ?_ ?_);exact rfl;exact fun _=>rfl)));(try (exact rfl))))));(simp only [aG])))))|((with_reducible refine And.intro ?_ ?_);omega))
  exact gV (k+1) 0 3 (by omega) (by omega) rfl rfl (aI rfl (by rw [hnx];rfl) rfl (by simp [aH,aL,aD,aJ,aF,vB,tY,vA,]))
 ·have h1:decide ((k:Int)<(t.length:Int))=false:=decide_eq_false (by omega);have hk2:k=t.length:=by omega
  subst hk2;rw [List.take_length];clear hln hmn
  repeat' (simp only [*,go_sem,Nat.reduceLT,Nat.reduceEqDiff,↓reduceIte,])
end Go.Proofs.YtlbfnbldeefgmaaGreatDoor
end
