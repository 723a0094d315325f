/- Part 15 of the proof of roomKnown_card. No condition. -/
import Derived.Test.YtbpblnmhlhpebaaGreatDoorB13
import Derived.Test.YtbpblnmhlhpebaaGreatDoorB09
set_option linter.all false
section
section
namespace Go.Dm
open Go
def vO (n:Nat) (h:aC) (R:DV→aC→Prop):DV→Prop
 | .c (.own id off len)=>off=0∧n≤id∧(h.take n).all (bV n)=true∧∃ k es,h[id]? = some (.arr k es false)∧R (.c (.own n 0 len)) (h.take n++[.arr k es false])
 | _=>False
def QO (n:Nat) (t:Fr) (h:aC) (R:DV→aC→Prop):List ResultVar→Prop
 | [.tmp i]=>vO n h R (look t i)
 | _=>False
def RP (n:Nat) (rs:List ResultVar) (R:DV→aC→Prop):Exit→DS→Prop
 | .normal,s=>QO n s.t s.h R rs
 | .ret,s=>QO n s.t s.h R rs
 | _,_=>False
theorem zEi {n:Nat} {rs:List ResultVar} {R:DV→aC→Prop} {s:DS}:RP n rs R .normal s=QO n s.t s.h R rs:=nr rfl
theorem zFr {n:Nat} {rs:List ResultVar} {R:DV→aC→Prop} {s:DS}:RP n rs R .ret s=QO n s.t s.h R rs:=nr rfl
theorem zBh {n:Nat} {t:Fr} {h:aC} {R:DV→aC→Prop} {i:Nat}:QO n t h R [.tmp i]=vO n h R (look t i):=nr rfl
attribute [go_sem] zEi zFr zBh
theorem zKZ {n:Nat} {h:aC} {d:DV} {R:DV→aC→Prop} (hv:vO n h R d):Fin n h d R:=by
 unfold vO at hv
 split at hv
 ·obtain ⟨rfl,h1,h2,k,es,h3,h4⟩:=hv
  exact .inr (.inr ⟨_,_,k,es,rfl,h1,h3,h2,h4⟩)
 ·exact hv.elim
theorem zLX {P:Program} {T:Tab} (hT:bT P T) (hm:P.follows .mixedOrders=true) {f:FuncId} {fn:Func} {c:Code} {args:List DV} {h:aC} {R:DV→aC→Prop} (hf:P.funcs[f]? = some fn) (hb:fn.body=some c)
  (hc:(Nat.ble args.length fn.ntmps && !(fn.name == "runtime.NumGoroutine"))=true)
  (hs:∀ X0:Ctx,X0.h=h→vc P T X0 c ⟨fn.ntmps,lO 0 args,h⟩ (RP h.length fn.results.toList R)):aA P f args h R:=by
 simp only [Bool.and_eq_true,Bool.not_eq_true'] at hc
 refine gI hT hf hb (Nat.le_of_ble_eq_true hc.1) hc.2 fun X0 hX=>?_
 rw [gT]
 refine gH (eB hT hm c (hs X0 hX)) fun e s hv=>?_
 have key:QO h.length s.t s.h R fn.results.toList→dpost T h.length fn.results.toList R .normal s∧dpost T h.length fn.results.toList R .ret s:=by
  intro hr
  generalize fn.results.toList=rs at hr
  unfold QO at hr
  split at hr
  ·rename_i i
   have hf:=zKZ hr
   have:∃ x,look s.t i=.c x:=by
    unfold vO at hr
    split at hr
    ·rename_i he;exact ⟨_,he⟩
    ·exact hr.elim
   obtain ⟨x,hx⟩:=this
   rw [hx] at hf
   simp only [dpost,mC,hx]
   exact ⟨hf,hf⟩
  ·exact hr.elim
 cases e <;> simp only [RP] at hv
 case normal=>exact (key hv).1
 case ret=>exact (key hv).2
theorem VX {P:Program} {f:FuncId} {args args':List DV} {h:aC} {K:DV→aC→Prop} {n k:Nat} {es:List (List PV)} (hc:aA P f args' [] fun d h'=>d=.c (.own 0 0 n)∧h'=[.arr k es false]) (hp:iI h args=some args')
  (hk:K (.c (.own h.length 0 n)) (sP h (kY args)++[.arr k es false])):aA P f args h K :=
 (aA.frame h hp hc).mono fun d h' ⟨d0,h0,⟨h1,h2⟩,h3,h4⟩=>by
  subst h1;subst h2
  subst h3;subst h4
  simpa [DV.sh,CV.sh,DB.sh] using hk
def vR (h:aC) (R:DV→aC→Prop):DV→Prop
 | .c x=>R (.c x) h
 | _=>False
def QE (t:Fr) (h:aC) (R:DV→aC→Prop):List ResultVar→Prop
 | [.tmp i]=>vR h R (look t i)
 | _=>False
def TT (rs:List ResultVar) (R:DV→aC→Prop):Exit→DS→Prop
 | .normal,s=>QE s.t s.h R rs
 | .ret,s=>QE s.t s.h R rs
 | _,_=>False
theorem zEG {rs:List ResultVar} {R:DV→aC→Prop} {s:DS}:TT rs R .normal s=QE s.t s.h R rs:=nr rfl
theorem zF7 {rs:List ResultVar} {R:DV→aC→Prop} {s:DS}:TT rs R .ret s=QE s.t s.h R rs:=nr rfl
theorem zBY {t:Fr} {h:aC} {R:DV→aC→Prop} {i:Nat}:QE t h R [.tmp i]=vR h R (look t i):=nr rfl
theorem vR_c {h:aC} {R:DV→aC→Prop} {x:CV}:vR h R (.c x)=R (.c x) h:=nr rfl
attribute [go_sem] zEG zF7 zBY vR_c
theorem MZ {P:Program} {T:Tab} (hT:bT P T) (hm:P.follows .mixedOrders=true) {f:FuncId} {fn:Func} {c:Code} {args:List DV} {h:aC} {R:DV→aC→Prop} (hf:P.funcs[f]? = some fn) (hb:fn.body=some c)
  (hc:(Nat.ble args.length fn.ntmps && !(fn.name == "runtime.NumGoroutine"))=true)
  (hs:∀ X0:Ctx,X0.h=h→vc P T X0 c ⟨fn.ntmps,lO 0 args,h⟩ (TT fn.results.toList R)):aA P f args h R:=by
 simp only [Bool.and_eq_true,Bool.not_eq_true'] at hc
 refine gI hT hf hb (Nat.le_of_ble_eq_true hc.1) hc.2 fun X0 hX=>?_
 rw [gT]
 refine gH (eB hT hm c (hs X0 hX)) fun e s hv=>?_
 have key:QE s.t s.h R fn.results.toList→dpost T h.length fn.results.toList R .normal s∧dpost T h.length fn.results.toList R .ret s:=by
  intro hr
  generalize fn.results.toList=rs at hr
  unfold QE at hr
  split at hr
  ·rename_i i
   unfold vR at hr
   split at hr
   ·rename_i x hx
    simp only [dpost,mC,hx]
    exact ⟨.inl hr,.inl hr⟩
   ·exact hr.elim
  ·exact hr.elim
 cases e <;> simp only [TT] at hv
 case normal=>exact (key hv).1
 case ret=>exact (key hv).2
def zEn:List PV→List PV→Prop
 | [],[]=>True
 | x::xs,y::ys=>wkP x y∧zEn xs ys
 | _,_=>False
def jK:List (List PV)→List (List PV)→Prop
 | [],[]=>True
 | e::es,f::fs=>zEn e f∧jK es fs
 | _,_=>False
theorem zEn.len:∀ {e f:List PV},zEn e f→f.length=e.length
 | [],[],_=>rfl
 | _::_,_::_,h=>by simp [zEn.len h.2]
 | [],_::_,h=>h.elim
 | _::_,[],h=>h.elim
theorem jK.len:∀ {e f:List (List PV)},jK e f→f.length=e.length
 | [],[],_=>rfl
 | _::_,_::_,h=>by simp [jK.len h.2]
 | [],_::_,h=>h.elim
 | _::_,[],h=>h.elim
theorem wkP.relP {w:World} {S:Nat→Prop} {x y:PV} {v:Value} (h:wkP x y) (hr:cR w S x v):cR w S y v:=by
 rcases h with rfl|⟨rfl,k,rfl⟩
 ·exact hr
 ·exact cR.nilOf k hr
theorem zEn.relE {w:World} {S:Nat→Prop} {bl:Nat}:∀ {e f:List PV} {off:Nat},zEn e f→fW w S bl off e→fW w S bl off f
 | [],[],_,_,_=>True.intro
 | _::_,_::_,_,h,⟨⟨v,h1,h2⟩,h3⟩=>⟨⟨v,h1,h.1.relP h2⟩,zEn.relE h.2 h3⟩
 | [],_::_,_,h,_=>h.elim
 | _::_,[],_,h,_=>h.elim
theorem jK.relL {w:World} {S:Nat→Prop} {k bl:Nat}:∀ {e f:List (List PV)} {off:Nat},jK e f→eR w S k bl off e→eR w S k bl off f
 | [],[],_,_,_=>True.intro
 | _::_,_::_,_,h,⟨⟨h1,h2⟩,h3⟩=>⟨⟨h.1.len.trans h1,h.1.relE h2⟩,jK.relL h.2 h3⟩
 | [],_::_,_,h,_=>h.elim
 | _::_,[],_,h,_=>h.elim
end Go.Dm
end
section
namespace Go.Dm
open Go
def FD:CV→Bool
 | .p _=>true
 | _=>false
def zK9:EV→Bool
 | .c x=>FD x
 | .agg xs=>xs.all FD
def zCb:DV→Bool
 | .jk=>true
 | .c x=>FD x
 | .agg xs=>xs.all FD
 | .tup xs=>xs.all zK9
theorem wD {X Y:Ctx} (hw:Y.w=X.w) (hS:Y.S=X.S) {x:CV} {v:Value} (hf:FD x=true) (h:bS X x v):bS Y x v:=by
 cases x <;> simp only [FD] at hf
 ·simp only [bS] at h ⊢;rw [hw,hS];exact h
 all_goals cases hf
theorem yT {X Y:Ctx} (hw:Y.w=X.w) (hS:Y.S=X.S):∀ {xs:List CV} {vs:List Value},xs.all FD=true→bE X xs vs→bE Y xs vs
 | [],[],_,_=>True.intro
 | _::_,_::_,hf,h=>by
  simp only [List.all_cons,Bool.and_eq_true] at hf
  exact ⟨wD hw hS hf.1 h.1,yT hw hS hf.2 h.2⟩
 | [],_::_,_,h=>h.elim
 | _::_,[],_,h=>h.elim
theorem zFa {X Y:Ctx} (hw:Y.w=X.w) (hS:Y.S=X.S) {x:EV} {v:Value} (hf:zK9 x=true) (h:eH X x v):eH Y x v:=by
 cases x <;> simp only [zK9] at hf <;> simp only [eH] at h ⊢
 ·exact wD hw hS hf h
 ·obtain ⟨vs,h1,h2⟩:=h;exact ⟨vs,h1,yT hw hS hf h2⟩
theorem JB {X Y:Ctx} (hw:Y.w=X.w) (hS:Y.S=X.S):∀ {xs:List EV} {vs:List Value},xs.all zK9=true→cO X xs vs→cO Y xs vs
 | [],[],_,_=>True.intro
 | _::_,_::_,hf,h=>by
  simp only [List.all_cons,Bool.and_eq_true] at hf
  exact ⟨zFa hw hS hf.1 h.1,JB hw hS hf.2 h.2⟩
 | [],_::_,_,h=>h.elim
 | _::_,[],_,h=>h.elim
theorem wF {X Y:Ctx} (hw:Y.w=X.w) (hS:Y.S=X.S) {x:DV} {v:Value} (hf:zCb x=true) (h:bB X x v):bB Y x v:=by
 cases x <;> simp only [zCb] at hf <;> simp only [bB] at h ⊢
 ·exact wD hw hS hf h
 ·obtain ⟨vs,h1,h2⟩:=h;exact ⟨vs,h1,yT hw hS hf h2⟩
 ·obtain ⟨vs,h1,h2⟩:=h;exact ⟨vs,h1,JB hw hS hf h2⟩
theorem BK {X Y:Ctx} (hw:Y.w=X.w) (hS:Y.S=X.S) {bl:Nat}:∀ {off:Nat} {cs:List CV},cs.all FD=true→cJ X bl off cs→cJ Y bl off cs
 | _,[],_,_=>True.intro
 | _,_::_,hf,h=>by
  simp only [List.all_cons,Bool.and_eq_true] at hf
  obtain ⟨⟨v,h1,h2⟩,h3⟩:=h
  exact ⟨⟨v,by rw [hw];exact h1,wD hw hS hf.1 h2⟩,BK hw hS hf.2 h3⟩
theorem LL {X Y:Ctx} (hw:Y.w=X.w) (hS:Y.S=X.S):∀ {ps:List PV} {vs:List Value},dC X (ps.map fun x=>.c (.p x)) vs→dC Y (ps.map fun x=>.c (.p x)) vs
 | [],[],_=>True.intro
 | _::_,_::_,h=>⟨wF hw hS rfl h.1,LL hw hS h.2⟩
 | [],_::_,h=>h.elim
 | _::_,[],h=>h.elim
theorem qW {X:Ctx} {G:Nat→Option (Nat × Nat)} {h:aC} {bl off:Nat} {cs:List CV} (hf:cs.all FD=true) (hb:cJ X bl off cs):cJ ⟨X.w,X.S,G,h⟩ bl off cs:=BK (X:=X) (Y:=⟨X.w,X.S,G,h⟩) rfl rfl hf hb
theorem QN {X:Ctx} {G:Nat→Option (Nat × Nat)} {h:aC} {d:DV} {v:Value} (hf:zCb d=true) (hd:bB X d v):bB ⟨X.w,X.S,G,h⟩ d v:=wF (X:=X) (Y:=⟨X.w,X.S,G,h⟩) rfl rfl hf hd
theorem aA.box {P:Program} {f:FuncId} {h:aC} {i:Nat} {c0 c1:List CV} {ps:List PV} {r:DV} {K:DV→aC→Prop}
  (hc:aA P f (.c (.ptr 0 0)::ps.map fun x=>.c (.p x)) [.box c0] fun d h'=>d=r∧h'=[.box c1])
  (h0:h[i]? = some (.box c0)) (hd:(c0.all FD && (c1.all FD && zCb r))=true) (hk:K r (h.set i (.box c1))):
  aA P f (.c (.ptr i 0)::ps.map fun x=>.c (.p x)) h K:=by
 simp only [Bool.and_eq_true] at hd
 obtain ⟨hd0,hd1,hdr⟩:=hd
 intro X vals hh hi gd hr
 subst hh
 have hlt:=aO h0
 obtain ⟨g,arr,el,fz,hg,hb1,hb2,hb3,hb4⟩:=hi.blk i _ h0
 let Y:Ctx:=⟨X.w,X.S,fun j=>if j=0 then some g else none,[.box c0]⟩
 have hiY:HInv Y:=by
  refine ⟨hi.slt,fun id db hdb=>?_,fun id db g' hdb hl hg'=>?_,fun id db id' db' g1 g2 hdb _ _ hdb' _ _ _ _=>?_⟩
  ·cases id with
   | zero =>
    simp only [Y,List.getElem?_cons_zero,Option.some.injEq] at hdb
    subst hdb
    exact ⟨g,arr,el,fz,rfl,hb1,hb2,hb3,qW hd0 hb4⟩
   | succ n=>simp [Y] at hdb
  ·cases id with
   | zero =>
    simp only [Y,List.getElem?_cons_zero,Option.some.injEq,if_true] at hdb hg'
    subst hdb;subst hg'
    exact hi.own i _ g h0 rfl hg
   | succ n=>simp [Y] at hdb
  ·have e1:=aO hdb
   have e2:=aO hdb'
   simp only [Y,List.length_cons,List.length_nil] at e1 e2
   omega
 cases vals with
 | nil=>exact hr.elim
 | cons v0 vs =>
  obtain ⟨⟨_,hv1,hv2⟩,hr2⟩:=hr
  obtain ⟨g',hg',rfl⟩:=hv2 _ h0
  rw [hg] at hg';cases hg'
  have hrY:dC Y (.c (.ptr 0 0)::ps.map fun x=>.c (.p x)) (.pointer (some ⟨g.1,g.2+0,none⟩)::vs) :=
   ⟨⟨Nat.zero_lt_one,rfl,fun cells hcells=>⟨g,rfl,rfl⟩⟩,LL (X:=X) (Y:=Y) rfl rfl hr2⟩
  have key:∀ v w',Ret Y (fun d h'=>d=r∧h'=[.box c1]) v w'→Ret X K v w':=by
   rintro v w' ⟨d,Z,h1,h2,h3,h4,rfl,h5⟩
   have hZ0:Z.h[0]? = some (.box c1):=by rw [h5];rfl
   obtain ⟨db,e1,e2,e3,e4⟩:=h3.ids 0 _ (by simp [Y]) hZ0 rfl
   have hGZ:Z.G 0=some g:=e3
   have e4:=e4 g rfl
   have hfr:∀ b,b<X.w.heap.size→b≠g.1→Z.w.heap[b]? = X.w.heap[b]? := fun b hb hne=>h3.frame b hb fun id db g' hdb hl hf hg'=>by
    have e1:=aO hdb
    simp only [Y,List.length_cons,List.length_nil] at e1
    have:id=0:=by omega
    subst this
    simp only [Y,if_true,Option.some.injEq] at hg'
    subst hg'
    exact fun e=>hne e.symm
   have hst:Step X ⟨Z.w,Z.S,X.G,X.h.set i (.box c1)⟩:=by
    refine ⟨h3.size,h3.os,h3.tape,h3.output,h3.kept,by simp,fun id db' hl' hdb' hlv=>?_,fun b hb hno=>?_,fun id db g' hdb hl hf hg'=>?_,fun b hb=>?_⟩
    ·rcases bU hdb' with ⟨rfl,rfl,_⟩|⟨hne,h'⟩
     ·exact ⟨_,h0,True.intro,rfl,fun g' hg'=>by rw [hg] at hg';cases hg';exact e4⟩
     ·refine ⟨db',h',cK.refl hlv,rfl,fun g' hg'=>?_⟩
      rw [show Z.w.heap[g'.1]? = X.w.heap[g'.1]? from hfr _ (hi.block_lt h' hlv hg') fun e=>hne (hi.inj i _ id db' g g' h0 rfl rfl h' hlv hg hg' e.symm).symm]
      exact (hi.blk id db' h').same hlv g' hg'
    ·exact hfr b hb fun e=>hno i _ g h0 rfl rfl hg e.symm
    ·rcases bU hdb with ⟨rfl,rfl,_⟩|⟨hne,h'⟩
     ·exact .inr ⟨id,_,g',h0,rfl,rfl,hg',rfl⟩
     ·exact .inr ⟨id,db,g',h',hl,hf,hg',rfl⟩
    ·rcases h3.upper b hb with h|h|⟨id,db,g',hdb,hl,hg',e⟩
     ·exact .inl h
     ·exact .inr (.inl h)
     ·have e1:=aO hdb
      simp only [Y,List.length_cons,List.length_nil] at e1
      have:id=0:=by omega
      subst this
      simp only [Y,if_true,Option.some.injEq] at hg'
      subst hg'
      exact .inr (.inr ⟨i,_,g,h0,rfl,hg,e⟩)
   refine ⟨d,⟨Z.w,Z.S,X.G,X.h.set i (.box c1)⟩,h1,⟨h2.slt,fun id db hdb=>?_,fun id db g' hdb hl hg'=>?_,fun id db id' db' g1 g2 hdb hl hf hdb' hl' hg1 hg2 he=>?_⟩,hst,QN hdr h4,hk⟩
   ·rcases bU hdb with ⟨rfl,rfl,_⟩|⟨hne,h'⟩
    ·obtain ⟨g',arr',el',fz',k1,k2,k3,k4,k5⟩:=h2.blk 0 _ hZ0
     rw [hGZ] at k1;cases k1
     exact ⟨g,arr',el',fz',hg,k2,k3,k4,qW hd1 k5⟩
    ·by_cases hl:db.live=true
     ·exact (hi.blk id db h').move hst rfl fun g' hg'=>hfr _ (hi.block_lt h' hl hg') fun e=>hne (hi.inj i _ id db g g' h0 rfl rfl h' hl hg hg' e.symm).symm
     ·cases db <;> simp_all [DB.live,dR]
   ·rcases bU hdb with ⟨rfl,rfl,_⟩|⟨hne,h'⟩
    ·have hgg:g'=g:=by
      have:X.G id=some g':=hg'
      rw [hg] at this;cases this;rfl
     subst hgg
     exact h2.own 0 _ g' hZ0 rfl hGZ
    ·have ho:=hi.own id db g' h' hl hg'
     refine ⟨fun hf hS=>?_,fun hf=>(h3.kept _ (ho.2 hf)).1⟩
     rcases h3.upper _ hS with h|h|⟨j,d',g2,hdb2,hl2,hg2,e⟩
     ·exact ho.1 hf h
     ·have:=hi.block_lt h' hl hg'
      have hYw:Y.w.heap.size=X.w.heap.size:=rfl
      omega
     ·have e1:=aO hdb2
      simp only [Y,List.length_cons,List.length_nil] at e1
      have:j=0:=by omega
      subst this
      simp only [Y,if_true,Option.some.injEq] at hg2
      subst hg2
      exact hne (hi.inj i _ id db g g' h0 rfl rfl h' hl hg hg' e).symm
   ·rcases bU hdb with ⟨rfl,rfl,_⟩|⟨hne,h1'⟩ <;> rcases bU hdb' with ⟨rfl,rfl,_⟩|⟨hne',h2'⟩
    ·rfl
    ·exact hi.inj id _ id' db' g1 g2 h0 rfl rfl h2' hl' hg1 hg2 he
    ·exact hi.inj id db id' _ g1 g2 h1' hl hf h0 rfl hg1 hg2 he
    ·exact hi.inj id db id' db' g1 g2 h1' hl hf h2' hl' hg1 hg2 he
  have gdY:Gnd P Y:=gd
  rcases hc Y _ rfl hiY gdY hrY with ⟨h1,h2⟩|⟨v,w',h1,h2⟩
  ·exact .inl ⟨h1,h2.mono fun e w' ⟨v,he,hv⟩=>⟨v,he,key v w' hv⟩⟩
  ·exact .inr ⟨v,w',h1,key v w' h2⟩
theorem zKl {P:Program} {f:FuncId} {h:aC} {i:Nat} {c0 c1:List CV} {x:PV} {r:DV} {K:DV→aC→Prop}
  (hc:aA P f [.c (.ptr 0 0),.c (.p x)] [.box c0] fun d h'=>d=r∧h'=[.box c1])
  (h0:h[i]? = some (.box c0)) (hd:(c0.all FD && (c1.all FD && zCb r))=true) (hk:K r (h.set i (.box c1))):
  aA P f [.c (.ptr i 0),.c (.p x)] h K:=aA.box (ps:=[x]) hc h0 hd hk
end Go.Dm
end
section
namespace Go.Dm
open Go
section
variable {P:Program} {T:Tab} {X0:Ctx} {Q:Exit→DS→Prop}
theorem TE {c:Code} {s:DS} (i id off len:Nat) {x:PV} (hl:look s.t i=.c (.own id off len)) (hp:RO s.h (.own id off len)=some x)
  (h:SWP P X0 c ⟨s.n,(i,.c (.p x))::s.t,sP s.h [id]⟩ Q):SWP P X0 c s Q:=by
 intro gd X a hh hi hs ht
 obtain ⟨X',h1,h2,h3,h4,h5,h6⟩:=jC [id] hi
 rw [← h1]
 refine h gd X' a (by rw [h2,hh]) h5 (hs.trans hi h4) ⟨ht.size,fun j=>?_,ht.defs⟩
 simp only [look]
 split
 ·rename_i hij
  subst hij
  have:=ht.rel j
  rw [hl] at this
  simp only [bB] at this
  simp only [bB,bS]
  exact rI hi h4 h1 this (by rw [hh];exact hp) h6
 ·exact (ht.rel j).step h4
def WkS (P:Program) (X0:Ctx) (s s':DS):Prop:=∀ (c:Code) (Q:Exit→DS→Prop),SWP P X0 c s' Q→SWP P X0 c s Q
def XE {α:Type} (P:Program) (X0:Ctx) (I:α→DS) (J:α→Prop) (Q:Exit→DS→Prop):Exit→DS→Prop:=fun e s'=>match e with
 | .normal=>∃ y,J y∧WkS P X0 s' (I y)
 | e=>Q e s'
theorem vZ (hT:bT P T) (hm:P.follows .mixedOrders=true) {α:Type} (I:α→DS) (J:α→Prop) {x y:Code} {s:DS} (h1:vc P T X0 x s (XE P X0 I J Q))
  (h2:∀ a,J a→SWP P X0 y (I a) Q):SWP P X0 (.seq x y) s Q :=
 FP (gH (eB hT hm x h1) fun e s' hq=>by
  cases e <;> simp only [XE] at hq ⊢
  case normal =>
   obtain ⟨a,ha,hw⟩:=hq
   exact hw _ _ (h2 a ha)
  all_goals exact hq)
theorem qj_e {α:Type} {I:α→DS} {J:α→Prop} {id:Nat} {s:DS}:XE P X0 I J Q (.exit id) s=Q (.exit id) s:=nr rfl
theorem qj_r {α:Type} {I:α→DS} {J:α→Prop} {s:DS}:XE P X0 I J Q .ret s=Q .ret s:=nr rfl
theorem zLd {α:Type} {I:α→DS} {J:α→Prop} {s:DS} (y:α) (h1:J y) (h3:YB X0.h.length s (I y)):XE P X0 I J Q .normal s:=⟨y,h1,fun _ _ h=>TS h3 h⟩
def PH (P:Program) (X0:Ctx) (y:Code) (Q:Exit→DS→Prop):Exit→DS→Prop:=fun e s'=>match e with
 | .normal=>SWP P X0 y s' Q
 | e=>Q e s'
theorem dB (hT:bT P T) (hm:P.follows .mixedOrders=true) {x y:Code} {s:DS} (h1:vc P T X0 x s (PH P X0 y Q)):SWP P X0 (.seq x y) s Q :=
 FP (gH (eB hT hm x h1) fun e s' hq=>by
  cases e <;> simp only [PH] at hq ⊢ <;> exact hq)
theorem qf_n {y:Code} {s:DS}:PH P X0 y Q .normal s=SWP P X0 y s Q:=nr rfl
theorem qf_e {y:Code} {id:Nat} {s:DS}:PH P X0 y Q (.exit id) s=Q (.exit id) s:=nr rfl
theorem qf_r {y:Code} {s:DS}:PH P X0 y Q .ret s=Q .ret s:=nr rfl
attribute [go_sem] qj_e qj_r qf_n qf_e qf_r
theorem SJ {h:aC} {id k n:Nat} {es:List (List PV)} {ro:Bool} (h0:h[id]? = some (.arr k es ro)) (hn:es.length=n):RO h (.own id 0 n)=some (.sl k es):=by
 subst hn
 simp [RO,h0]
theorem zMi {h:aC} {f:FuncId} {fn:Func} {c:Code} {args:List DV} {R:DV→aC→Prop} (hT:bT P T) (hf:P.funcs[f]? = some fn) (hb:fn.body=some c)
  (hc:(Nat.ble args.length fn.ntmps && !(fn.name == "runtime.NumGoroutine"))=true)
  (hs:∀ X0:Ctx,X0.h=h→SWP P X0 c ⟨fn.ntmps,lO 0 args,h⟩ (WV T h.length fn.results.toList R)):aA P f args h R:=by
 simp only [Bool.and_eq_true,Bool.not_eq_true'] at hc
 refine gI hT hf hb (Nat.le_of_ble_eq_true hc.1) hc.2 fun X0 hX=>?_
 rw [gT]
 exact gH (hs X0 hX) fun e s=>zO
end
end Go.Dm
end
end
namespace Go.Dm
open Go
section
section
variable {P:Program} {T:Tab} {X0:Ctx} {Q:Exit→DS→Prop}
theorem VE {id:Nat} {c:Code} {s:DS} (h:SWP P X0 c s (rO id Q)):SWP P X0 (.block id c) s Q :=
 KY (gH h fun e s' hq=>by cases e <;> simp only [rO] at hq ⊢ <;> exact hq)
theorem iG (hT:bT P T) (hm:P.follows .mixedOrders=true) {c:Code} {s:DS} (h:vc P T X0 c s Q):SWP P X0 c s Q:=eB hT hm c h
theorem rE {id:Nat} {c y:Code} {s:DS} (h:SWP P X0 c s (rO id (PH P X0 y Q))):SWP P X0 (.seq (.block id c) y) s Q :=
 FP (gH (VE h) fun e s' hq=>by cases e <;> simp only [PH] at hq ⊢ <;> exact hq)
theorem qU {α:Type} {c:Code} (I:α→DS) (J:α→Prop) (μ:α→Nat) (x0:α) {s:DS} (hJ:J x0) (hw:MJ X0.h.length s (I x0))
  (h:∀ x,J x→SWP P X0 c (I x) (uR X0.h.length I J μ x Q)):SWP P X0 (.loop c) s Q:=by
 intro gd X a hh hi hs ht
 obtain ⟨X',h1,h2,h3,h4,h5⟩:=hw.use rfl hh hi hs ht
 rw [← h1]
 refine wp_loop_ghost (fun n a w=>∃ x X,μ x=n∧J x∧X.w=w∧X.h=(I x).h∧HInv X∧Step X0 X∧TInv X (I x) a) (μ x0) ⟨x0,X',rfl,hJ,rfl,h2,h3,h4,h5⟩ ?_
 rintro n a' w' ⟨x,Y,rfl,k1,rfl,k2,k3,k4,k5⟩
 refine wp_mono (h x k1 gd Y a' k2 k3 k4 k5) fun e a w hp=>?_
 obtain ⟨s',Z,p1,rfl,p3,p4,p5,p6⟩:=hp
 cases e <;> simp only [Exit.then,uR] at p1 ⊢
 case normal =>
  obtain ⟨y,q1,q2,q3⟩:=p1
  obtain ⟨Z',r1,r2,r3,r4,r5⟩:=q3.use rfl p3 p4 p5 p6
  exact ⟨μ y,q2,y,Z',rfl,q1,r1,r2,r3,r4,r5⟩
 all_goals exact ⟨s',Z,p1,rfl,p3,p4,p5,p6⟩
end
theorem yE:bytesOf []=some []:=rfl
attribute [go_sem] yE
end
section
def wkQ (x y:PV):Prop:=wkP x y∨∃ k es es',x=.sl k es∧y=.sl k es'∧jK es es'
def zG4:List PV→List PV→Prop
 | [],[]=>True
 | x::xs,y::ys=>wkQ x y∧zG4 xs ys
 | _,_=>False
def pQ:List (List PV)→List (List PV)→Prop
 | [],[]=>True
 | e::es,f::fs=>zG4 e f∧pQ es fs
 | _,_=>False
theorem zG4.len:∀ {e f:List PV},zG4 e f→f.length=e.length
 | [],[],_=>rfl
 | _::_,_::_,h=>by simp [zG4.len h.2]
 | [],_::_,h=>h.elim
 | _::_,[],h=>h.elim
theorem pQ.len:∀ {e f:List (List PV)},pQ e f→f.length=e.length
 | [],[],_=>rfl
 | _::_,_::_,h=>by simp [pQ.len h.2]
 | [],_::_,h=>h.elim
 | _::_,[],h=>h.elim
theorem PR {w:World} {S:Nat→Prop} {k:Nat} {es es':List (List PV)} (hw:jK es es') {v:Value} (hr:cR w S (.sl k es) v):cR w S (.sl k es') v:=by
 simp only [cR] at hr ⊢
 obtain ⟨a,c,h1,h2,h3⟩:=hr
 refine ⟨a,c,by rw [hw.len];exact h1,by rw [hw.len];exact h2,?_⟩
 rcases h3 with h3|⟨bl,off,h4,h5,h6⟩
 ·left
  subst h3
  exact List.eq_nil_of_length_eq_zero hw.len
 ·exact .inr ⟨bl,off,h4,h5,hw.relL h6⟩
theorem wkQ.relP {w:World} {S:Nat→Prop} {x y:PV} {v:Value} (h:wkQ x y) (hr:cR w S x v):cR w S y v:=by
 rcases h with h|⟨k,es,es',rfl,rfl,h⟩
 ·exact h.relP hr
 ·exact PR h hr
theorem zG4.relE {w:World} {S:Nat→Prop} {bl:Nat}:∀ {e f:List PV} {off:Nat},zG4 e f→fW w S bl off e→fW w S bl off f
 | [],[],_,_,_=>True.intro
 | _::_,_::_,_,h,⟨⟨v,h1,h2⟩,h3⟩=>⟨⟨v,h1,h.1.relP h2⟩,zG4.relE h.2 h3⟩
 | [],_::_,_,h,_=>h.elim
 | _::_,[],_,h,_=>h.elim
theorem pQ.relL {w:World} {S:Nat→Prop} {k bl:Nat}:∀ {e f:List (List PV)} {off:Nat},pQ e f→eR w S k bl off e→eR w S k bl off f
 | [],[],_,_,_=>True.intro
 | _::_,_::_,_,h,⟨⟨h1,h2⟩,h3⟩=>⟨⟨h.1.len.trans h1,h.1.relE h2⟩,pQ.relL h.2 h3⟩
 | [],_::_,_,h,_=>h.elim
 | _::_,[],_,h,_=>h.elim
end
section
theorem OkE.nil:OkE []:=⟨fun x hx=>(by cases hx),List.Pairwise.nil,List.Pairwise.nil,fun x hx=>(by cases hx),by decide⟩
end
section
structure Nm where
 n:List UInt8
 l:Int
def bW (l:List Nm):List (List PV):=l.map fun x=>[.s x.n,.i .i64 x.l]
theorem gE (l:List Nm):(bW l).length=l.length:=by simp [bW]
theorem zAU:bW []=[]:=rfl
theorem qL {l:List Nm} {k:Nat} {x:Nm} (h:l[k]? = some x):(bW l).getD k []=[.s x.n,.i .i64 x.l]:=by
 simp only [bW,List.getD_eq_getElem?_getD,List.getElem?_map,h]
 rfl
theorem HQ (l:List Nm):(∀ x∈bW l,x.length=2)=True:=eq_true fun x hx=>by
 obtain ⟨y,_,rfl⟩:=List.mem_map.1 hx
 rfl
theorem YD (a:List Nm) (n:Nat):(bW a).take n=bW (a.take n):=by simp [bW]
theorem VW (a:List Nm) (n:Nat):(bW a).drop n=bW (a.drop n):=by simp [bW]
theorem zC1 (a b:List Nm):bW a++bW b=bW (a++b):=by simp [bW]
theorem VZ (t:List Nm) (n:List UInt8) (i:Int):bW t++[[.s n,.i .i64 i]]=bW (t++[⟨n,i⟩]):=by simp [bW]
theorem zDq (t:List Nm) (k:Nat) (n:List UInt8) (i:Int):(bW t).set k [.s n,.i .i64 i]=bW (t.set k ⟨n,i⟩):=by simp [bW,List.map_set]
theorem zJ6 (x:Nm):Nm.mk x.n x.l=x:=rfl
def kT:List (Int × List En)→Int→List En
 | [],_=>[]
 | e::es,n=>if e.1=n then e.2 else kT es n
def mW:List (Int × List En)→Int→List En→List (Int × List En)
 | [],n,x=>[(n,x)]
 | e::es,n,x=>if e.1=n then (n,x)::es else e::mW es n x
def wC (l:List (Int × List En)):List (Int × PV):=l.map fun e=>(e.1,.sl 7 (gN e.2))
theorem zEP:wC []=[]:=rfl
theorem HF:∀ (l:List (Int × List En)) (n:Int),mT (wC l) n (.sl 7 [])=.sl 7 (gN (kT l n))
 | [],_=>rfl
 | e::es,n=>by
  simp only [wC,List.map_cons,mT,kT]
  split
  ·rfl
  ·exact HF es n
theorem RQ:∀ (l:List (Int × List En)) (n:Int) (x:List En),AZ (wC l) n (.sl 7 (gN x))=wC (mW l n x)
 | [],_,_=>rfl
 | e::es,n,x=>by
  simp only [wC,List.map_cons,AZ,mW]
  split
  ·rfl
  ·exact congrArg _ (RQ es n x)
theorem qY:∀ (l:List (Int × List En)) (n:Int) (x:List En),kT (mW l n x) n=x
 | [],n,x=>by simp [mW,kT]
 | e::es,n,x=>by
  simp only [mW]
  split
  ·simp [kT]
  ·rename_i h;simp only [kT];rw [if_neg h];exact qY es n x
theorem oN:∀ (l:List (Int × List En)) {n m:Int} (x:List En),m≠n→kT (mW l n x) m=kT l m
 | [],n,m,x,h=>by simp [mW,kT,Ne.symm h]
 | e::es,n,m,x,h=>by
  simp only [mW]
  split
  ·rename_i h1;simp only [kT];rw [if_neg (Ne.symm h),if_neg (by rw [h1];exact Ne.symm h)]
  ·simp only [kT];rw [oN es x h]
structure Rm where
 N:List Nm
 L:List Ly
 E:List (Int × List En)
 x:Int
def mI (r:Rm) (id:Int):List (List En):=(bO r.L id).map (kT r.E)
def FQ (r:Rm) (id:Int):List It × Bool:=oA [] (mI r id)
def treeR (r:Rm) (id:Int):List It:=(FQ r id).1
theorem WA {r:Rm} (hg:OkG r.L) (T:Int→List It) (h0:T 0=[]) (hok:∀ x∈r.L,OkT (T x.i)) (hE:∀ x∈r.L,kT r.E x.i=dY (T x.p) (T x.i)):∀ (k:Nat) {x:Ly},r.L[k]? = some x→FQ r x.i=(T x.i,true):=by
 intro k
 induction k using Nat.strongRecOn with
 | ind k ih =>
  intro x hx
  have hm:=List.mem_of_getElem? hx
  have key:oA [] ((bO r.L x.p).map (kT r.E))=(T x.p,true)∧OkT (T x.p):=by
   rcases hg.par k x hx with hp|⟨j,y,h1,h2,h3,_⟩
   ·rw [hp,oQ hg.lo1,h0]
    exact ⟨rfl,OkT.nil⟩
   ·rw [← h3]
    exact ⟨ih j h1 h2,hok y (List.mem_of_getElem? h2)⟩
  unfold FQ mI
  rw [hg.step hm,List.map_append,List.map_cons,List.map_nil,DG,key.1,if_pos rfl,hE x hm,zDQ key.2 (hok x hm),if_pos rfl]
attribute [go_sem] gE zAU HQ YD VW zC1 VZ zDq zJ6 zEP HF RQ
end
section
section
variable {P:Program} {T:Tab} {X0:Ctx}
structure RInvF (P:Program) (X0:Ctx) (ops:Array Oper) (n:Nat) (chain:List Nat) (f:Nat) (V:Nat→DV) (H:Nat→Bool→aC) (t0:Fr) (L:Array Bool) (X:Ctx) (a:Act):Prop where
 size:L.size=ops.size
 closed:zB9 ops L
 hh:X.h=H (chain.filter fun e=>L.getD e false).length (L.getD f false)
 hi:HInv X
 hs:Step X0 X
 sz:a.tmps.size=n
 defs:a.defers=[]
 relA:∀ k j,L.getD k false=true→gD ops k=some j→bB X (V k) (a.tmps.getD j undef)
 relB:∀ j,(∀ k,L.getD k false=true→gD ops k≠some j)→bB X (look t0 j) (a.tmps.getD j undef)
section plan
variable {ops:Array Oper} {n:Nat} {chain order:List Nat}
end plan
end
end
end Go.Dm
