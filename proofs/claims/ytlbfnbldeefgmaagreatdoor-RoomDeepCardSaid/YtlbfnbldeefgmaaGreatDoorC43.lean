/- Part 44 of the proof of roomDeep_card, set without needless blanks. No condition. -/
import Derived.Test.YtlbfnbldeefgmaaGreatDoorC42
import Derived.StringKeys
set_option linter.all false
section
namespace Go.Proofs.YtlbfnbldeefgmaaGreatDoor
open Go Go.Dm Go.Proofs
set_option maxRecDepth 100000
set_option maxHeartbeats 8000000
theorem VB {r:Rm}:aA Tryz.prog 25 [.c (.ptr 0 0)] (cB r) fun d h=>d=.c (.p (.i .i64 r.x))∧h=cB r:=by
 refine ent aC aK Tryz.func25 rfl rfl fun X0 hX=>?_;simp only [Tryz.f25,go_sem]
 repeat' (simp only [*,go_sem,Nat.reduceLT,Nat.reduceEqDiff,↓reduceIte,Nat.reduceAdd,])
theorem EK {h:aB} {i n:Nat} {l:List Nm} {K:DV→aB→Prop} (hl:l.length≤1000000) (hn:n=l.length) (h0:h[i]? = some (.arr 2 (bJ l) false)) (hk:K (.c (.own h.length 0 l.length)) (h++[.arr 2 (bJ l) false])):
  aA Tryz.prog 51 [.c (.own i 0 n)] h K:=by
 refine zFQ (by rw [hn,← eV,List.take_length]) (XD hl) h0 (by simp [sK,mK,iK,bJ,qH]) ?_;simpa [DV.sh,CV.sh,DB.sh,eV] using hk
theorem zCO {h:aB} {i n:Nat} {l:List Ly} {K:DV→aB→Prop} (hl:l.length≤1000000) (hn:n=l.length) (h0:h[i]? = some (.arr 4 (cY l) false)) (hk:K (.c (.own h.length 0 l.length)) (h++[.arr 4 (cY l) false])):
  aA Tryz.prog 52 [.c (.own i 0 n)] h K:=by
 refine zFQ (by rw [hn,← fN,List.take_length]) (NO hl) h0 (by simp [sK,mK,iK,cY,qH,Ly.cs]) ?_;simpa [DV.sh,CV.sh,DB.sh,fN] using hk
theorem MV {r:Rm} (hr:OkR r):aA Tryz.prog 26 [.c (.ptr 0 0)] (cB r) fun d h=>d=.c (.own 4 0 r.N.length)∧h=cB r++[.arr 2 (bJ r.N) false]:=by
 have hnl:=hr.nl;have hk:∀ {h:aB} {K:DV→aB→Prop},h[1]? = some (.arr 2 (bJ r.N) false)→K (.c (.own h.length 0 r.N.length)) (h++[.arr 2 (bJ r.N) false])→aA Tryz.prog 51 [.c (.own 1 0 r.N.length)] h K:=fun h0 hk=>EK (by omega) rfl h0 hk;refine zCz aC aK Tryz.func26 rfl rfl fun X0 hX=>?_;simp only [Tryz.f26,go_sem]
 repeat' (simp only [*,go_sem,Nat.reduceLT,Nat.reduceEqDiff,↓reduceIte,Nat.reduceAdd,])
theorem VD {r:Rm} {s:List UInt8} (hr:OkR r):aA Tryz.prog 12 [.c (.ptr 0 0),.c (.p (.s s))] (cB r) fun d h=>d=.tup [.c (.p (.sl 5 (aZ (oO r s).1))),.c (.p (.i .i64 (oO r s).2))]∧h=cB r:=by
 have hly:=oL (s:=s) hr;have htr:=mP (a:=(cU r s).1.i) hr;unfold oO;generalize cU r s=y at *;obtain ⟨⟨yi,yp,yq,yf⟩,e⟩:=y;simp only [Ly.cv] at *;generalize treeR r yi=T at *;clear hr;refine bN ?_;cases he:(e == 0)
 ·have hb:(e != 0)=true:=by rw [bne,he];rfl
  simp only [Bool.not_false,if_true];refine ent aC aK Tryz.func12 rfl rfl fun X0 hX=>?_;simp only [Tryz.f12,go_sem]
  repeat' (first|simp only [*,go_sem,Nat.reduceLT,Nat.reduceLeDiff,Nat.reduceEqDiff,↓reduceIte,Nat.reduceAdd,]|((with_reducible refine aS [0,1,2,3] (hly) ?_ ?_ ?_ ?_);exact rfl;exact rfl;(focus ((simp only [go_sem];done)))))
  all_goals exact .inr ⟨5,rfl⟩
 ·have hb:(e != 0)=false:=by rw [bne,he];rfl
  simp only [Bool.not_true,Bool.false_eq_true,if_false];refine ent aC aK Tryz.func12 rfl rfl fun X0 hX=>?_;simp only [Tryz.f12,go_sem]
  repeat' (first|simp only [*,go_sem,Nat.reduceLT,Nat.reduceLeDiff,Nat.reduceEqDiff,↓reduceIte,Nat.reduceAdd,]|((with_reducible refine aS [0,1,2,3] (hly) ?_ ?_ ?_ ?_);exact rfl;exact rfl;(focus ((simp only [go_sem];done))))|((with_reducible refine aS [0,1,2,3] (htr) ?_ ?_ ?_ ?_);exact rfl;exact rfl;(focus ((simp only [go_sem];done)))))
end Go.Proofs.YtlbfnbldeefgmaaGreatDoor
end
section
namespace Go.Dm
open Go Go.WideMaps Go.MapKept Go.WideShapes
def zJy (k:List UInt8):Value:=.string ⟨k.toArray⟩
def QK (w:World) (b:Nat) (ks:List (List UInt8)):Prop:=∃ es clock,w.heap[b]? = some (.map es clock) ∧
 (∀ e∈es.toList,∃ k∈ks,e.key=zJy k∧e.val=.bool true)∧∀ k∈ks,k.length≤maxLen∧∃ e∈es.toList,e.key=zJy k
theorem QK.keys {P:Program} {kt:TypeId} (hk:P.underlying kt=some .string) {es:Array MapEntry} {ks:List (List UInt8)} (h1:∀ e∈es.toList,∃ k∈ks,e.key=zJy k∧e.val=.bool true) (h2:∀ k∈ks,k.length≤maxLen∧∃ e∈es.toList,e.key=zJy k):
  ∀ e∈es.toList,∃ l,keyOf P kt e.key=some l:=fun e he=>by
 obtain ⟨k,hk',he1,_⟩:=h1 e he;rw [he1];exact ⟨_,keyOf_string_mk hk (by show k.toArray.size≤maxLen;simpa using (h2 k hk').1)⟩
def oT (X:Ctx) (b:Nat):Prop:=b<X.w.heap.size∧¬ X.S b∧∀ id db g,X.h[id]? = some db→db.live=true→X.G id=some g→g.1≠b
theorem oT.step {X X':Ctx} {b:Nat} (ha:oT X b) (hi':HInv X') (hs:Step X X'):oT X' b∧X'.w.heap[b]? = X.w.heap[b]? := by
 obtain ⟨h1,h2,h3⟩:=ha;have hS:¬ X'.S b:=fun h=>by
  rcases hs.upper b h with h|h|⟨id,db,g,hd,hl,hg,e⟩
  ·exact h2 h
  ·omega
  ·exact h3 id db g hd hl hg e
 refine ⟨⟨Nat.lt_of_lt_of_le h1 hs.size,hS,fun id db g hd hl hg e=>?_⟩,hs.frame b h1 fun id db g hd hl _ hg=>h3 id db g hd hl hg⟩;cases hf:db.fix
 ·rcases hs.mine id db g hd hl hf hg with h|⟨id0,db0,g0,hd0,hl0,_,hg0,e0⟩
  ·omega
  ·exact h3 id0 db0 g0 hd0 hl0 hg0 (e0.trans e)
 ·exact hS (e▸(hi'.own id db g hd hl hg).2 hf)
theorem QK.same {w w':World} {b:Nat} {ks:List (List UInt8)} (h:QK w b ks) (e:w'.heap[b]? = w.heap[b]?):QK w' b ks:=by
 obtain ⟨es,c,h1,h2⟩:=h;exact ⟨es,c,e.trans h1,h2⟩
section put
variable {X:Ctx} {b:Nat} {o:Obj}
def Ctx.setB (X:Ctx) (b:Nat) (o:Obj):Ctx:=X.at_ { X.w with heap:=X.w.heap.setIfInBounds b o }
theorem kX {c:Nat} (h:c≠b):(X.setB b o).w.heap[c]? = X.w.heap[c]? := by
 show (X.w.heap.setIfInBounds b o)[c]? = _;rw [Array.getElem?_setIfInBounds_ne (Ne.symm h)]
theorem iT (ha:oT X b):Kept X.w (X.setB b o).w X.S X.S:=fun c hc=>⟨hc,kX fun e=>ha.2.1 (e▸hc)⟩
theorem zBw (ha:oT X b) {x:KV} {v:Value} (h:nT X x v):nT (X.setB b o) x v:=by
 cases x <;> simp only [nT] at h ⊢
 case p=>exact cN.kept (iT ha) h
 case ptr=>exact h
theorem zN (ha:oT X b):∀ {xs:List KV} {vs:List Value},eJ X xs vs→eJ (X.setB b o) xs vs
 | [],[],_=>True.intro
 | _::_,_::_,h=>⟨zBw ha h.1,zN ha h.2⟩
 | [],_::_,h=>h.elim
 | _::_,[],h=>h.elim
theorem qB (ha:oT X b) {x:CV} {v:Value} (h:bP X x v):bP (X.setB b o) x v:=by
 cases x <;> simp only [bP] at h ⊢
 case p=>exact cN.kept (iT ha) h
 case own id off len =>
  obtain ⟨h1,h2,h3⟩:=h;refine ⟨h1,h2,fun k es ro hd=>?_⟩;obtain ⟨h4,h5⟩:=h3 k es ro hd;refine ⟨h4,?_⟩;show match X.G id with|none=>_|some g=>_
  cases hg:X.G id with
  | none=>rw [hg] at h5;exact h5
  | some g =>
   rw [hg] at h5;obtain ⟨cap,q,arr,el,fz,h6,h7⟩:=h5;exact ⟨cap,q,arr,el,fz,(kX (ha.2.2 id _ g hd rfl hg)).trans h6,h7⟩
 case ptr=>exact h
 case aptr=>exact h
 case mp=>exact h
 case bs=>exact h
 case eptr =>
  obtain ⟨bl,off,h1,h2,h3⟩:=h;exact ⟨bl,off,h1,h2,fJ.kept (iT ha) h2 h3⟩
 case full =>
  obtain ⟨a,h1,h2⟩:=h;refine ⟨a,h1,h2.imp id ?_⟩;rintro ⟨bl,off,h3,h4,h5⟩;exact ⟨bl,off,h3,h4,eI.kept (iT ha) h4 h5⟩
 case clo =>
  obtain ⟨vs,h1,h2⟩:=h;exact ⟨vs,h1,zN ha h2⟩
theorem rN (ha:oT X b):∀ {xs:List CV} {vs:List Value},aY X xs vs→aY (X.setB b o) xs vs
 | [],[],_=>True.intro
 | _::_,_::_,h=>⟨qB ha h.1,rN ha h.2⟩
 | [],_::_,h=>h.elim
 | _::_,[],h=>h.elim
theorem TL (ha:oT X b) {x:EV} {v:Value} (h:dL X x v):dL (X.setB b o) x v:=by
 cases x <;> simp only [dL] at h ⊢
 case c=>exact qB ha h
 case agg=>obtain ⟨vs,h1,h2⟩:=h;exact ⟨vs,h1,rN ha h2⟩
theorem wM (ha:oT X b):∀ {xs:List EV} {vs:List Value},cA X xs vs→cA (X.setB b o) xs vs
 | [],[],_=>True.intro
 | _::_,_::_,h=>⟨TL ha h.1,wM ha h.2⟩
 | [],_::_,h=>h.elim
 | _::_,[],h=>h.elim
theorem zBv (ha:oT X b) {x:DV} {v:Value} (h:aX X x v):aX (X.setB b o) x v:=by
 cases x <;> simp only [aX] at h ⊢
 case c=>exact qB ha h
 case agg=>obtain ⟨vs,h1,h2⟩:=h;exact ⟨vs,h1,rN ha h2⟩
 case tup=>obtain ⟨vs,h1,h2⟩:=h;exact ⟨vs,h1,wM ha h2⟩
theorem zBu (ha:oT X b) {id:Nat} {db:DB} (hd:X.h[id]? = some db) (h:dU X id db):dU (X.setB b o) id db:=by
 cases db <;> simp only [dU] at h ⊢
 case box =>
  obtain ⟨g,arr,el,fz,h1,h2,h3,h4,h5⟩:=h;have hb:(X.setB b o).w.heap[g.1]? = X.w.heap[g.1]? := kX (ha.2.2 id _ g hd rfl h1);refine ⟨g,arr,el,fz,h1,hb.trans h2,h3,h4,cI.mk fun j c hj=>?_⟩;obtain ⟨v,g1,g2⟩:=h5.at_ hj;exact ⟨v,by rw [World.cell?_of_block (a:=⟨g.1,g.2+j,none⟩) hb];exact g1,qB ha g2⟩
 case arr =>
  rcases h with h|⟨g,arr,el,fz,h1,h2,h3,h4,h5⟩
  ·exact .inl h
  ·have hb:(X.setB b o).w.heap[g.1]? = X.w.heap[g.1]? := kX (ha.2.2 id _ g hd rfl h1);exact .inr ⟨g,arr,el,fz,h1,hb.trans h2,h3,h4,h5.move (iT ha) hb⟩
 case mp =>
  obtain ⟨g,ms,c,h1,h2,h3,h4⟩:=h;have hb:(X.setB b o).w.heap[g.1]? = X.w.heap[g.1]? := kX (ha.2.2 id _ g hd rfl h1);exact ⟨g,ms,c,h1,hb.trans h2,h3.kept (iT ha),h4⟩
theorem HInv.setB (hi:HInv X) (ha:oT X b):HInv (X.setB b o) where
 slt:=fun c hc=>by
  show c<(X.w.heap.setIfInBounds b o).size;rw [Array.size_setIfInBounds];exact hi.slt c hc
 blk:=fun id db h=>zBu ha h (hi.blk id db h)
 own:=hi.own
 inj:=hi.inj
theorem oT.setB (ha:oT X b):oT (X.setB b o) b :=
 ⟨by show b<(X.w.heap.setIfInBounds b o).size;rw [Array.size_setIfInBounds];exact ha.1,ha.2⟩
theorem Step.setB {X0:Ctx} (hs:Step X0 X) (h0:X0.w.heap.size≤b) (ha:oT X b):Step X0 (X.setB b o) where
 size:=by
  show _≤(X.w.heap.setIfInBounds b o).size;rw [Array.size_setIfInBounds];exact hs.size
 os:=hs.os
 tape:=hs.tape
 output:=hs.output
 kept:=fun c hc=>⟨(hs.kept c hc).1,(kX (show c≠b from fun e=>ha.2.1 (e▸(hs.kept c hc).1))).trans (hs.kept c hc).2⟩
 len:=hs.len
 ids:=fun id db' hid hd hl=>by
  obtain ⟨db,h1,h2,h3,h4⟩:=hs.ids id db' hid hd hl;exact ⟨db,h1,h2,h3,fun g hg=>by rw [kX (ha.2.2 id db' g hd hl (h3.trans hg))];exact h4 g hg⟩
 frame:=fun c hc hn=>(kX (by omega)).trans (hs.frame c hc hn)
 mine:=hs.mine
 upper:=hs.upper
theorem TInv.setB {s:DS} {a:Act} (ha:oT X b) (ht:TInv X s a):TInv (X.setB b o) s a:=⟨ht.size,fun i=>zBv ha (ht.rel i),ht.defs⟩
end put
end Go.Dm
end
section
namespace Go.Dm
open Go
section rules
variable {P:Program} {T:Tab} {X0:Ctx} {b:Nat}
theorem jP (hT:bG P T) (gd:Gnd P X0) {ops:Array Oper} {l2:List Oper} {Q':Exit→Act→World→Prop}:∀ (l:List Oper) {s:DS} {X:Ctx} {a:Act},X.h=s.h→HInv X→Step X0 X→TInv X s a →
  jK P T ops l s (fun s'=>∀ X' a',X'.h=s'.h→HInv X'→Step X0 X'→TInv X' s' a'→wpList P ops Q' l2 a' X'.w)→wpList P ops Q' (l++l2) a X.w
 | [],s,X,a,hh,hi,hs,ht,h=>h X a hh hi hs ht
 | o::rest,s,X,a,hh,hi,hs,ht,h=>by
  refine wpList_step fun K hK=>?_;have go:dop P T o.op s.t s.h (fun d h'=>jK P T ops rest (s.put o.dst d h') (fun s'=>∀ X' a',X'.h=s'.h→HInv X'→Step X0 X'→TInv X' s' a'→wpList P ops Q' l2 a' X'.w))→o.wp P a X.w K Q':=by
   intro hd;rw [← hh] at hd;refine uQ hT hi (gd.step hs) ht.ev hd fun d v X' h1 h2 h3 h4=>hK _ _ ?_;refine jP hT gd rest (s:=s.put o.dst d X'.h) ?_ h1 (hs.trans hi h2) ?_ h4
   ·unfold DS.put;split <;> (try split) <;> rfl
   ·exact (ht.step h2).put h3 o.dst X'.h
  have skip:jK P T ops rest (s.put o.dst (.tup []) s.h) (fun s'=>∀ X' a',X'.h=s'.h→HInv X'→Step X0 X'→TInv X' s' a'→wpList P ops Q' l2 a' X'.w)→K (a.put o.dst undef) X.w:=by
   intro hd;refine hK _ _ (jP hT gd rest (s:=s.put o.dst (.tup []) s.h) (by rw [hh];unfold DS.put;split <;> (try split) <;> rfl) hi hs (ht.put (d:=.tup []) (v:=undef) ⟨[],rfl,True.intro⟩ o.dst s.h) hd)
  simp only [jK] at h;split at h
  ·rename_i hg;rw [if_pos (by simp [Region.wanted,hg])];exact go h
  ·rename_i j want hg;have hy:∀ d,((ops[j]?).bind (·.dst)).map (fun i=>look s.t i)=some d→∃ i,(ops[j]?).bind (·.dst)=some i∧aX X d (a.tmps.getD i undef):=by
    intro d hd;obtain ⟨i,h1,h2⟩:=Option.map_eq_some_iff.1 hd;exact ⟨i,h1,h2▸ht.rel i⟩
   split at h
   ·rename_i v hd;obtain ⟨i,h1,h3⟩:=hy _ hd;simp only [aX,bP,cN] at h3;have hv:a.tmps[i]? = some (.bool v):=by
     rcases Nat.lt_or_ge i a.tmps.size with hlt'|hge
     ·rw [Array.getElem?_eq_getElem hlt'];simp only [Array.getD,hlt',dif_pos] at h3
      congr 1
     ·rw [Array.getD_eq_getD_getElem?,Array.getElem?_eq_none hge] at h3;cases h3
    have hyd:yielded ops a.tmps j=some v:=by
     unfold yielded;rw [h1];simp only [Option.bind_some,hv]
    by_cases hw:v=want
    ·rw [if_pos (by simp [Region.wanted,hg,hyd,hw])];exact go (h.1 hw)
    ·rw [if_neg (by simp [Region.wanted,hg,hyd,hw])];exact skip (h.2 hw)
   ·rename_i hd;obtain ⟨i,h1,vs,hv,hr⟩:=hy _ hd;have hvs:vs=[]:=by
     cases vs with
     | nil=>rfl
     | cons _ _=>exact hr.elim
    subst hvs;have hyd:yielded ops a.tmps j=none:=by
     unfold yielded;rw [h1];simp only [Option.bind_some];rw [Array.getD_eq_getD_getElem?] at hv;cases hx:a.tmps[i]? with
     | none=>rfl
     | some u=>rw [hx] at hv;simp only [Option.getD_some] at hv;rw [hv]
    rw [if_neg (by simp [Region.wanted,hg,hyd])];exact skip h
   ·exact h.elim
def zJE (b:Nat) (X0:Ctx) (Q:List (List UInt8)→Exit→DS→Prop):Exit→Act→World→Prop:=fun e a w =>
 ∃ s X ks,Q ks e s∧X.w=w∧X.h=s.h∧HInv X∧Step X0 X∧TInv X s a∧oT X b∧QK X.w b ks
def zKy (P:Program) (b:Nat) (X0:Ctx) (c:Code) (s:DS) (ks:List (List UInt8)) (Q:List (List UInt8)→Exit→DS→Prop):Prop :=
 Gnd P X0→X0.w.heap.size≤b→∀ (X:Ctx) (a:Act),X.h=s.h→HInv X→Step X0 X→TInv X s a→oT X b→QK X.w b ks→c.wp P (zJE b X0 Q) a X.w
def zKf (P:Program) (b:Nat) (X0:Ctx) (y:Code) (ks:List (List UInt8)) (Q:List (List UInt8)→Exit→DS→Prop):Exit→DS→Prop:=fun e s'=>match e with
 | .normal=>zKy P b X0 y s' ks Q
 | e=>Q ks e s'
variable {s:DS} {ks:List (List UInt8)} {Q:List (List UInt8)→Exit→DS→Prop}
theorem qm_n {y:Code} {s:DS}:zKf P b X0 y ks Q .normal s=zKy P b X0 y s ks Q:=nr rfl
theorem qm_r {y:Code} {s:DS}:zKf P b X0 y ks Q .ret s=Q ks .ret s:=nr rfl
theorem qm_e {y:Code} {id:Nat} {s:DS}:zKf P b X0 y ks Q (.exit id) s=Q ks (.exit id) s:=nr rfl
theorem oT.cut {X:Ctx} (ha:oT X b) (n:Nat):oT (X.cut n) b:=⟨ha.1,ha.2.1,fun id db g hd hl hg=>ha.2.2 id db g (eK hd).1 hl hg⟩
theorem oT.ren {X:Ctx} (ha:oT X b) {p q:Nat} (hpq:p≠q) {k:Nat} {es:List (List PV)} (hq:X.h[q]? = some (.arr k es false)):oT (X.ren p q) b:=⟨ha.1,ha.2.1,fun id db g hd hl hg=>by
 rcases fV hpq hd hl with ⟨rfl,h1,_⟩|⟨h1,h2,x,h3,rfl⟩
 ·simp only [Ctx.ren,if_true] at hg;exact ha.2.2 q _ g h1 hl hg
 ·simp only [Ctx.ren,if_neg h1] at hg;refine ha.2.2 id x g h3 ?_ hg;cases x <;> simp_all [DB.live,renB]⟩
def zFE {α:Type} (n0:Nat) (I:α→DS) (Kf:α→List (List UInt8)) (J:α→Prop) (μ:α→Nat) (x:α) (Q:List (List UInt8)→Exit→DS→Prop) (ks:List (List UInt8)):Exit→DS→Prop:=fun e s'=>match e with
 | .normal=>∃ y,J y∧μ y < μ x∧ks=Kf y∧DY n0 s' (I y)
 | e=>Q ks e s'
theorem zKc {α:Type} {n0:Nat} {I:α→DS} {Kf:α→List (List UInt8)} {J:α→Prop} {μ:α→Nat} {x:α} {s:DS}:zFE n0 I Kf J μ x Q ks .ret s=Q ks .ret s:=nr rfl
theorem zKb {α:Type} {n0:Nat} {I:α→DS} {Kf:α→List (List UInt8)} {J:α→Prop} {μ:α→Nat} {x:α} {id:Nat} {s:DS}:zFE n0 I Kf J μ x Q ks (.exit id) s=Q ks (.exit id) s:=nr rfl
theorem zEm {X:Ctx} (hi:HInv X) {w':World} {o:Obj} (hw:Grew X.w w' o):HInv (X.at_ w')∧Step X (X.at_ w')∧oT (X.at_ w') X.w.heap.size:=by
 have hst:Step X (X.at_ w'):={
  size:=by simp only [Ctx.at_,hw.size];omega
  os:=hw.os
  tape:=hw.tape
  output:=hw.output
  kept:=fun c hc=>⟨hc,hw.old (hi.slt c hc)⟩
  len:=Nat.le_refl _
  ids:=fun id db' _ h hl=>⟨db',h,bX.refl hl,rfl,fun g hg=>by
   have:=(hi.blk id db' h).same hl g hg;show qR _ (w'.heap[g.1]?);rw [hw.old (hi.block_lt h hl hg)];exact this⟩
  frame:=fun c hc _=>hw.old hc
  mine:=fun id db g h hl hf hg=>.inr ⟨id,db,g,h,hl,hf,hg,rfl⟩
  upper:=fun _ h=>.inl h }
 refine ⟨⟨fun c hc=>Nat.lt_of_lt_of_le (hi.slt c hc) hst.size,fun id db h=>?_,hi.own,hi.inj⟩,hst,by simp only [Ctx.at_,hw.size];omega,fun hc=>absurd (hi.slt _ hc) (Nat.lt_irrefl _),fun id db g h hl hg e=>absurd (hi.block_lt h hl hg) (by omega)⟩
 cases hl:db.live
 ·cases db <;> simp_all [DB.live,dU]
 ·exact (hi.blk id db h).move hst rfl fun g hg=>hw.old (hi.block_lt h hl hg)
theorem zAg {X:Ctx} {s:DS} {a:Act} (ht:TInv X s a) {m:Operand} {v:Value} (h:evD s.t m=.c (.p (.o v))):a.eval m=v:=by
 have:=ht.ev m;rw [h] at this;simp only [aX,bP,cN] at this;exact this.1
end rules
attribute [go_sem] qm_n qm_r qm_e zKc zKb
end Go.Dm
end
