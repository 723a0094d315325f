/- Part 16 of the proof of roomForks_card, set without needless blanks. No condition. -/
import Derived.Test.YtbpblnmhlhpebaaGreatDoorC14
import Derived.Test.YtbpblnmhlhpebaaGreatDoorC10
set_option linter.unusedSimpArgs false
set_option linter.unusedVariables false
section
section
namespace Go.Dm
open Go
def vO (n:Nat) (h:aD) (R:DV→aD→Prop):DV→Prop
 | .c (.own id off len)=>off=0∧n≤id∧(h.take n).all (cC n)=true∧∃ k es,h[id]? = some (.arr k es false)∧R (.c (.own n 0 len)) (h.take n++[.arr k es false])
 | _=>False
def QM (n:Nat) (t:Fr) (h:aD) (R:DV→aD→Prop):List ResultVar→Prop
 | [.tmp i]=>vO n h R (look t i)
 | _=>False
def VS (n:Nat) (rs:List ResultVar) (R:DV→aD→Prop):Exit→DS→Prop
 | .normal,s=>QM n s.t s.h R rs
 | .ret,s=>QM n s.t s.h R rs
 | _,_=>False
theorem zE0 {n:Nat} {rs:List ResultVar} {R:DV→aD→Prop} {s:DS}:VS n rs R .normal s=QM n s.t s.h R rs:=nr rfl
theorem zFU {n:Nat} {rs:List ResultVar} {R:DV→aD→Prop} {s:DS}:VS n rs R .ret s=QM n s.t s.h R rs:=nr rfl
theorem zBY {n:Nat} {t:Fr} {h:aD} {R:DV→aD→Prop} {i:Nat}:QM n t h R [.tmp i]=vO n h R (look t i):=nr rfl
attribute [go_sem] zE0 zFU zBY
theorem zJ1 {n:Nat} {h:aD} {d:DV} {R:DV→aD→Prop} (hv:vO n h R d):Fin n h d R:=by
 unfold vO at hv
 split at hv
 ·obtain ⟨rfl,h1,h2,k,es,h3,h4⟩:=hv
  exact .inr (.inr ⟨_,_,k,es,rfl,h1,h3,h2,h4⟩)
 ·exact hv.elim
theorem zMw {P:Program} {T:Tab} (hT:bL P T) (hm:P.follows .mixedOrders=true) {f:FuncId} {fn:Func} {c:Code} {args:List DV} {h:aD} {R:DV→aD→Prop} (hf:P.funcs[f]? = some fn) (hb:fn.body=some c)
  (hc:(Nat.ble args.length fn.ntmps && !(fn.name == "runtime.NumGoroutine"))=true)
  (hs:∀ X0:Ctx,X0.h=h→vc P T X0 c ⟨fn.ntmps,kG 0 args,h⟩ (VS h.length fn.results.toList R)):aA P f args h R:=by
 simp only [Bool.and_eq_true,Bool.not_eq_true'] at hc
 refine eN hT hf hb (Nat.le_of_ble_eq_true hc.1) hc.2 fun X0 hX=>?_
 rw [fH]
 refine fE (dI hT hm c (hs X0 hX)) fun e s hv=>?_
 have key:QM h.length s.t s.h R fn.results.toList→dpost T h.length fn.results.toList R .normal s∧dpost T h.length fn.results.toList R .ret s:=by
  intro hr
  generalize fn.results.toList=rs at hr
  unfold QM at hr
  split at hr
  ·rename_i i
   have hf:=zJ1 hr
   have:∃ x,look s.t i=.c x:=by
    unfold vO at hr
    split at hr
    ·rename_i he;exact ⟨_,he⟩
    ·exact hr.elim
   obtain ⟨x,hx⟩:=this
   rw [hx] at hf
   simp only [dpost,lJ,hx]
   exact ⟨hf,hf⟩
  ·exact hr.elim
 cases e <;> simp only [VS] at hv
 case normal=>exact (key hv).1
 case ret=>exact (key hv).2
theorem zB2 {P:Program} {f:FuncId} {args args':List DV} {h:aD} {K:DV→aD→Prop} {n k:Nat} {es:List (List PV)} (hc:aA P f args' [] fun d h'=>d=.c (.own 0 0 n)∧h'=[.arr k es false]) (hp:gT h args=some args')
  (hk:K (.c (.own h.length 0 n)) (vI h (kR args)++[.arr k es false])):aA P f args h K :=
 (aA.frame h hp hc).mono fun d h' ⟨d0,h0,⟨h1,h2⟩,h3,h4⟩=>by
  subst h1;subst h2
  subst h3;subst h4
  simpa [DV.sh,CV.sh,DB.sh] using hk
def vR (h:aD) (R:DV→aD→Prop):DV→Prop
 | .c x=>R (.c x) h
 | _=>False
def SF (t:Fr) (h:aD) (R:DV→aD→Prop):List ResultVar→Prop
 | [.tmp i]=>vR h R (look t i)
 | _=>False
def SZ (rs:List ResultVar) (R:DV→aD→Prop):Exit→DS→Prop
 | .normal,s=>SF s.t s.h R rs
 | .ret,s=>SF s.t s.h R rs
 | _,_=>False
theorem zFJ {rs:List ResultVar} {R:DV→aD→Prop} {s:DS}:SZ rs R .normal s=SF s.t s.h R rs:=nr rfl
theorem zFB {rs:List ResultVar} {R:DV→aD→Prop} {s:DS}:SZ rs R .ret s=SF s.t s.h R rs:=nr rfl
theorem zAG {t:Fr} {h:aD} {R:DV→aD→Prop} {i:Nat}:SF t h R [.tmp i]=vR h R (look t i):=nr rfl
theorem vR_c {h:aD} {R:DV→aD→Prop} {x:CV}:vR h R (.c x)=R (.c x) h:=nr rfl
attribute [go_sem] zFJ zFB zAG vR_c
theorem TM {P:Program} {T:Tab} (hT:bL P T) (hm:P.follows .mixedOrders=true) {f:FuncId} {fn:Func} {c:Code} {args:List DV} {h:aD} {R:DV→aD→Prop} (hf:P.funcs[f]? = some fn) (hb:fn.body=some c)
  (hc:(Nat.ble args.length fn.ntmps && !(fn.name == "runtime.NumGoroutine"))=true)
  (hs:∀ X0:Ctx,X0.h=h→vc P T X0 c ⟨fn.ntmps,kG 0 args,h⟩ (SZ fn.results.toList R)):aA P f args h R:=by
 simp only [Bool.and_eq_true,Bool.not_eq_true'] at hc
 refine eN hT hf hb (Nat.le_of_ble_eq_true hc.1) hc.2 fun X0 hX=>?_
 rw [fH]
 refine fE (dI hT hm c (hs X0 hX)) fun e s hv=>?_
 have key:SF s.t s.h R fn.results.toList→dpost T h.length fn.results.toList R .normal s∧dpost T h.length fn.results.toList R .ret s:=by
  intro hr
  generalize fn.results.toList=rs at hr
  unfold SF at hr
  split at hr
  ·rename_i i
   unfold vR at hr
   split at hr
   ·rename_i x hx
    simp only [dpost,lJ,hx]
    exact ⟨.inl hr,.inl hr⟩
   ·exact hr.elim
  ·exact hr.elim
 cases e <;> simp only [SZ] at hv
 case normal=>exact (key hv).1
 case ret=>exact (key hv).2
def zGZ:List PV→List PV→Prop
 | [],[]=>True
 | x::xs,y::ys=>wkP x y∧zGZ xs ys
 | _,_=>False
def iU:List (List PV)→List (List PV)→Prop
 | [],[]=>True
 | e::es,f::fs=>zGZ e f∧iU es fs
 | _,_=>False
theorem zGZ.len:∀ {e f:List PV},zGZ e f→f.length=e.length
 | [],[],_=>rfl
 | _::_,_::_,h=>by simp [zGZ.len h.2]
 | [],_::_,h=>h.elim
 | _::_,[],h=>h.elim
theorem iU.len:∀ {e f:List (List PV)},iU e f→f.length=e.length
 | [],[],_=>rfl
 | _::_,_::_,h=>by simp [iU.len h.2]
 | [],_::_,h=>h.elim
 | _::_,[],h=>h.elim
theorem wkP.relP {w:World} {S:Nat→Prop} {x y:PV} {v:Value} (h:wkP x y) (hr:cF w S x v):cF w S y v:=by
 rcases h with rfl|⟨rfl,k,rfl⟩
 ·exact hr
 ·exact cF.nilOf k hr
theorem zGZ.relE {w:World} {S:Nat→Prop} {bl:Nat}:∀ {e f:List PV} {off:Nat},zGZ e f→fC w S bl off e→fC w S bl off f
 | [],[],_,_,_=>True.intro
 | _::_,_::_,_,h,⟨⟨v,h1,h2⟩,h3⟩=>⟨⟨v,h1,h.1.relP h2⟩,zGZ.relE h.2 h3⟩
 | [],_::_,_,h,_=>h.elim
 | _::_,[],_,h,_=>h.elim
theorem iU.relL {w:World} {S:Nat→Prop} {k bl:Nat}:∀ {e f:List (List PV)} {off:Nat},iU e f→eD w S k bl off e→eD w S k bl off f
 | [],[],_,_,_=>True.intro
 | _::_,_::_,_,h,⟨⟨h1,h2⟩,h3⟩=>⟨⟨h.1.len.trans h1,h.1.relE h2⟩,iU.relL h.2 h3⟩
 | [],_::_,_,h,_=>h.elim
 | _::_,[],_,h,_=>h.elim
end Go.Dm
end
section
namespace Go.Dm
open Go
def DT:CV→Bool
 | .p _=>true
 | _=>false
def zLx:EV→Bool
 | .c x=>DT x
 | .agg xs=>xs.all DT
def zDo:DV→Bool
 | .jk=>true
 | .c x=>DT x
 | .agg xs=>xs.all DT
 | .tup xs=>xs.all zLx
theorem vU {X Y:Ctx} (hw:Y.w=X.w) (hS:Y.S=X.S) {x:CV} {v:Value} (hf:DT x=true) (h:bR X x v):bR Y x v:=by
 cases x <;> simp only [DT] at hf
 ·simp only [bR] at h ⊢;rw [hw,hS];exact h
 all_goals cases hf
theorem wO {X Y:Ctx} (hw:Y.w=X.w) (hS:Y.S=X.S):∀ {xs:List CV} {vs:List Value},xs.all DT=true→bC X xs vs→bC Y xs vs
 | [],[],_,_=>True.intro
 | _::_,_::_,hf,h=>by
  simp only [List.all_cons,Bool.and_eq_true] at hf
  exact ⟨vU hw hS hf.1 h.1,wO hw hS hf.2 h.2⟩
 | [],_::_,_,h=>h.elim
 | _::_,[],_,h=>h.elim
theorem zGE {X Y:Ctx} (hw:Y.w=X.w) (hS:Y.S=X.S) {x:EV} {v:Value} (hf:zLx x=true) (h:dN X x v):dN Y x v:=by
 cases x <;> simp only [zLx] at hf <;> simp only [dN] at h ⊢
 ·exact vU hw hS hf h
 ·obtain ⟨vs,h1,h2⟩:=h;exact ⟨vs,h1,wO hw hS hf h2⟩
theorem HQ {X Y:Ctx} (hw:Y.w=X.w) (hS:Y.S=X.S):∀ {xs:List EV} {vs:List Value},xs.all zLx=true→cG X xs vs→cG Y xs vs
 | [],[],_,_=>True.intro
 | _::_,_::_,hf,h=>by
  simp only [List.all_cons,Bool.and_eq_true] at hf
  exact ⟨zGE hw hS hf.1 h.1,HQ hw hS hf.2 h.2⟩
 | [],_::_,_,h=>h.elim
 | _::_,[],_,h=>h.elim
theorem vK {X Y:Ctx} (hw:Y.w=X.w) (hS:Y.S=X.S) {x:DV} {v:Value} (hf:zDo x=true) (h:bB X x v):bB Y x v:=by
 cases x <;> simp only [zDo] at hf <;> simp only [bB] at h ⊢
 ·exact vU hw hS hf h
 ·obtain ⟨vs,h1,h2⟩:=h;exact ⟨vs,h1,wO hw hS hf h2⟩
 ·obtain ⟨vs,h1,h2⟩:=h;exact ⟨vs,h1,HQ hw hS hf h2⟩
theorem BK {X Y:Ctx} (hw:Y.w=X.w) (hS:Y.S=X.S) {bl:Nat}:∀ {off:Nat} {cs:List CV},cs.all DT=true→cE X bl off cs→cE Y bl off cs
 | _,[],_,_=>True.intro
 | _,_::_,hf,h=>by
  simp only [List.all_cons,Bool.and_eq_true] at hf
  obtain ⟨⟨v,h1,h2⟩,h3⟩:=h
  exact ⟨⟨v,by rw [hw];exact h1,vU hw hS hf.1 h2⟩,BK hw hS hf.2 h3⟩
theorem MS {X Y:Ctx} (hw:Y.w=X.w) (hS:Y.S=X.S):∀ {ps:List PV} {vs:List Value},dD X (ps.map fun x=>.c (.p x)) vs→dD Y (ps.map fun x=>.c (.p x)) vs
 | [],[],_=>True.intro
 | _::_,_::_,h=>⟨vK hw hS rfl h.1,MS hw hS h.2⟩
 | [],_::_,h=>h.elim
 | _::_,[],h=>h.elim
theorem qP {X:Ctx} {G:Nat→Option (Nat × Nat)} {h:aD} {bl off:Nat} {cs:List CV} (hf:cs.all DT=true) (hb:cE X bl off cs):cE ⟨X.w,X.S,G,h⟩ bl off cs:=BK (X:=X) (Y:=⟨X.w,X.S,G,h⟩) rfl rfl hf hb
theorem PI {X:Ctx} {G:Nat→Option (Nat × Nat)} {h:aD} {d:DV} {v:Value} (hf:zDo d=true) (hd:bB X d v):bB ⟨X.w,X.S,G,h⟩ d v:=vK (X:=X) (Y:=⟨X.w,X.S,G,h⟩) rfl rfl hf hd
theorem aA.box {P:Program} {f:FuncId} {h:aD} {i:Nat} {c0 c1:List CV} {ps:List PV} {r:DV} {K:DV→aD→Prop}
  (hc:aA P f (.c (.ptr 0 0)::ps.map fun x=>.c (.p x)) [.box c0] fun d h'=>d=r∧h'=[.box c1])
  (h0:h[i]? = some (.box c0)) (hd:(c0.all DT && (c1.all DT && zDo r))=true) (hk:K r (h.set i (.box c1))):
  aA P f (.c (.ptr i 0)::ps.map fun x=>.c (.p x)) h K:=by
 simp only [Bool.and_eq_true] at hd
 obtain ⟨hd0,hd1,hdr⟩:=hd
 intro X vals hh hi gd hr
 subst hh
 have hlt:=aN h0
 obtain ⟨g,arr,el,fz,hg,hb1,hb2,hb3,hb4⟩:=hi.blk i _ h0
 let Y:Ctx:=⟨X.w,X.S,fun j=>if j=0 then some g else none,[.box c0]⟩
 have hiY:HInv Y:=by
  refine ⟨hi.slt,fun id db hdb=>?_,fun id db g' hdb hl hg'=>?_,fun id db id' db' g1 g2 hdb _ _ hdb' _ _ _ _=>?_⟩
  ·cases id with
   | zero =>
    simp only [Y,List.getElem?_cons_zero,Option.some.injEq] at hdb
    subst hdb
    exact ⟨g,arr,el,fz,rfl,hb1,hb2,hb3,qP hd0 hb4⟩
   | succ n=>simp [Y] at hdb
  ·cases id with
   | zero =>
    simp only [Y,List.getElem?_cons_zero,Option.some.injEq,if_true] at hdb hg'
    subst hdb;subst hg'
    exact hi.own i _ g h0 rfl hg
   | succ n=>simp [Y] at hdb
  ·have e1:=aN hdb
   have e2:=aN hdb'
   simp only [Y,List.length_cons,List.length_nil] at e1 e2
   omega
 cases vals with
 | nil=>exact hr.elim
 | cons v0 vs =>
  obtain ⟨⟨_,hv1,hv2⟩,hr2⟩:=hr
  obtain ⟨g',hg',rfl⟩:=hv2 _ h0
  rw [hg] at hg';cases hg'
  have hrY:dD Y (.c (.ptr 0 0)::ps.map fun x=>.c (.p x)) (.pointer (some ⟨g.1,g.2+0,none⟩)::vs) :=
   ⟨⟨Nat.zero_lt_one,rfl,fun cells hcells=>⟨g,rfl,rfl⟩⟩,MS (X:=X) (Y:=Y) rfl rfl hr2⟩
  have key:∀ v w',Ret Y (fun d h'=>d=r∧h'=[.box c1]) v w'→Ret X K v w':=by
   rintro v w' ⟨d,Z,h1,h2,h3,h4,rfl,h5⟩
   have hZ0:Z.h[0]? = some (.box c1):=by rw [h5];rfl
   obtain ⟨db,e1,e2,e3,e4⟩:=h3.ids 0 _ (by simp [Y]) hZ0 rfl
   have hGZ:Z.G 0=some g:=e3
   have e4:=e4 g rfl
   have hfr:∀ b,b<X.w.heap.size→b≠g.1→Z.w.heap[b]? = X.w.heap[b]? := fun b hb hne=>h3.frame b hb fun id db g' hdb hl hf hg'=>by
    have e1:=aN hdb
    simp only [Y,List.length_cons,List.length_nil] at e1
    have:id=0:=by omega
    subst this
    simp only [Y,if_true,Option.some.injEq] at hg'
    subst hg'
    exact fun e=>hne e.symm
   have hst:Step X ⟨Z.w,Z.S,X.G,X.h.set i (.box c1)⟩:=by
    refine ⟨h3.size,h3.os,h3.tape,h3.output,h3.kept,by simp,fun id db' hl' hdb' hlv=>?_,fun b hb hno=>?_,fun id db g' hdb hl hf hg'=>?_,fun b hb=>?_⟩
    ·rcases bW hdb' with ⟨rfl,rfl,_⟩|⟨hne,h'⟩
     ·exact ⟨_,h0,True.intro,rfl,fun g' hg'=>by rw [hg] at hg';cases hg';exact e4⟩
     ·refine ⟨db',h',cH.refl hlv,rfl,fun g' hg'=>?_⟩
      rw [show Z.w.heap[g'.1]? = X.w.heap[g'.1]? from hfr _ (hi.block_lt h' hlv hg') fun e=>hne (hi.inj i _ id db' g g' h0 rfl rfl h' hlv hg hg' e.symm).symm]
      exact (hi.blk id db' h').same hlv g' hg'
    ·exact hfr b hb fun e=>hno i _ g h0 rfl rfl hg e.symm
    ·rcases bW hdb with ⟨rfl,rfl,_⟩|⟨hne,h'⟩
     ·exact .inr ⟨id,_,g',h0,rfl,rfl,hg',rfl⟩
     ·exact .inr ⟨id,db,g',h',hl,hf,hg',rfl⟩
    ·rcases h3.upper b hb with h|h|⟨id,db,g',hdb,hl,hg',e⟩
     ·exact .inl h
     ·exact .inr (.inl h)
     ·have e1:=aN hdb
      simp only [Y,List.length_cons,List.length_nil] at e1
      have:id=0:=by omega
      subst this
      simp only [Y,if_true,Option.some.injEq] at hg'
      subst hg'
      exact .inr (.inr ⟨i,_,g,h0,rfl,hg,e⟩)
   refine ⟨d,⟨Z.w,Z.S,X.G,X.h.set i (.box c1)⟩,h1,⟨h2.slt,fun id db hdb=>?_,fun id db g' hdb hl hg'=>?_,fun id db id' db' g1 g2 hdb hl hf hdb' hl' hg1 hg2 he=>?_⟩,hst,PI hdr h4,hk⟩
   ·rcases bW hdb with ⟨rfl,rfl,_⟩|⟨hne,h'⟩
    ·obtain ⟨g',arr',el',fz',k1,k2,k3,k4,k5⟩:=h2.blk 0 _ hZ0
     rw [hGZ] at k1;cases k1
     exact ⟨g,arr',el',fz',hg,k2,k3,k4,qP hd1 k5⟩
    ·by_cases hl:db.live=true
     ·exact (hi.blk id db h').move hst rfl fun g' hg'=>hfr _ (hi.block_lt h' hl hg') fun e=>hne (hi.inj i _ id db g g' h0 rfl rfl h' hl hg hg' e.symm).symm
     ·cases db <;> simp_all [DB.live,dK]
   ·rcases bW hdb with ⟨rfl,rfl,_⟩|⟨hne,h'⟩
    ·have hgg:g'=g:=by
      have:X.G id=some g':=hg'
      rw [hg] at this;cases this;rfl
     subst hgg
     exact h2.own 0 _ g' hZ0 rfl hGZ
    ·have ho:=hi.own id db g' h' hl hg'
     refine ⟨fun hf hS=>?_,fun hf=>(h3.kept _ (ho.2 hf)).1⟩
     rcases h3.upper _ hS with h|h|⟨j,d',g2,hdb2,hl2,hg2,e⟩
     ·exact ho.1 hf h
     ·have:=hi.block_lt h' hl hg'
      have hYw:Y.w.heap.size=X.w.heap.size:=rfl
      omega
     ·have e1:=aN hdb2
      simp only [Y,List.length_cons,List.length_nil] at e1
      have:j=0:=by omega
      subst this
      simp only [Y,if_true,Option.some.injEq] at hg2
      subst hg2
      exact hne (hi.inj i _ id db g g' h0 rfl rfl h' hl hg hg' e).symm
   ·rcases bW hdb with ⟨rfl,rfl,_⟩|⟨hne,h1'⟩ <;> rcases bW hdb' with ⟨rfl,rfl,_⟩|⟨hne',h2'⟩
    ·rfl
    ·exact hi.inj id _ id' db' g1 g2 h0 rfl rfl h2' hl' hg1 hg2 he
    ·exact hi.inj id db id' _ g1 g2 h1' hl hf h0 rfl hg1 hg2 he
    ·exact hi.inj id db id' db' g1 g2 h1' hl hf h2' hl' hg1 hg2 he
  have gdY:Gnd P Y:=gd
  rcases hc Y _ rfl hiY gdY hrY with ⟨h1,h2⟩|⟨v,w',h1,h2⟩
  ·exact .inl ⟨h1,h2.mono fun e w' ⟨v,he,hv⟩=>⟨v,he,key v w' hv⟩⟩
  ·exact .inr ⟨v,w',h1,key v w' h2⟩
theorem zKe {P:Program} {f:FuncId} {h:aD} {i:Nat} {c0 c1:List CV} {x:PV} {r:DV} {K:DV→aD→Prop}
  (hc:aA P f [.c (.ptr 0 0),.c (.p x)] [.box c0] fun d h'=>d=r∧h'=[.box c1])
  (h0:h[i]? = some (.box c0)) (hd:(c0.all DT && (c1.all DT && zDo r))=true) (hk:K r (h.set i (.box c1))):
  aA P f [.c (.ptr i 0),.c (.p x)] h K:=aA.box (ps:=[x]) hc h0 hd hk
end Go.Dm
end
section
namespace Go.Dm
open Go
section
variable {P:Program} {T:Tab} {X0:Ctx} {Q:Exit→DS→Prop}
def WkS (P:Program) (X0:Ctx) (s s':DS):Prop:=∀ (c:Code) (Q:Exit→DS→Prop),SWP P X0 c s' Q→SWP P X0 c s Q
def zCK {α:Type} (P:Program) (X0:Ctx) (I:α→DS) (J:α→Prop) (Q:Exit→DS→Prop):Exit→DS→Prop:=fun e s'=>match e with
 | .normal=>∃ y,J y∧WkS P X0 s' (I y)
 | e=>Q e s'
theorem DX (hT:bL P T) (hm:P.follows .mixedOrders=true) {α:Type} (I:α→DS) (J:α→Prop) {x y:Code} {s:DS} (h1:vc P T X0 x s (zCK P X0 I J Q))
  (h2:∀ a,J a→SWP P X0 y (I a) Q):SWP P X0 (.seq x y) s Q :=
 EH (fE (dI hT hm x h1) fun e s' hq=>by
  cases e <;> simp only [zCK] at hq ⊢
  case normal =>
   obtain ⟨a,ha,hw⟩:=hq
   exact hw _ _ (h2 a ha)
  all_goals exact hq)
theorem qj_e {α:Type} {I:α→DS} {J:α→Prop} {id:Nat} {s:DS}:zCK P X0 I J Q (.exit id) s=Q (.exit id) s:=nr rfl
theorem qj_r {α:Type} {I:α→DS} {J:α→Prop} {s:DS}:zCK P X0 I J Q .ret s=Q .ret s:=nr rfl
theorem zLv {α:Type} {I:α→DS} {J:α→Prop} {s:DS} (y:α) (h1:J y) (h3:SQ X0.h.length s (I y)):zCK P X0 I J Q .normal s:=⟨y,h1,fun _ _ h=>zEY h3 h⟩
def PB (P:Program) (X0:Ctx) (y:Code) (Q:Exit→DS→Prop):Exit→DS→Prop:=fun e s'=>match e with
 | .normal=>SWP P X0 y s' Q
 | e=>Q e s'
theorem cV (hT:bL P T) (hm:P.follows .mixedOrders=true) {x y:Code} {s:DS} (h1:vc P T X0 x s (PB P X0 y Q)):SWP P X0 (.seq x y) s Q :=
 EH (fE (dI hT hm x h1) fun e s' hq=>by
  cases e <;> simp only [PB] at hq ⊢ <;> exact hq)
theorem qf_n {y:Code} {s:DS}:PB P X0 y Q .normal s=SWP P X0 y s Q:=nr rfl
theorem qf_e {y:Code} {id:Nat} {s:DS}:PB P X0 y Q (.exit id) s=Q (.exit id) s:=nr rfl
theorem qf_r {y:Code} {s:DS}:PB P X0 y Q .ret s=Q .ret s:=nr rfl
attribute [go_sem] qj_e qj_r qf_n qf_e qf_r
theorem zL0 {h:aD} {f:FuncId} {fn:Func} {c:Code} {args:List DV} {R:DV→aD→Prop} (hT:bL P T) (hf:P.funcs[f]? = some fn) (hb:fn.body=some c)
  (hc:(Nat.ble args.length fn.ntmps && !(fn.name == "runtime.NumGoroutine"))=true)
  (hs:∀ X0:Ctx,X0.h=h→SWP P X0 c ⟨fn.ntmps,kG 0 args,h⟩ (XD T h.length fn.results.toList R)):aA P f args h R:=by
 simp only [Bool.and_eq_true,Bool.not_eq_true'] at hc
 refine eN hT hf hb (Nat.le_of_ble_eq_true hc.1) hc.2 fun X0 hX=>?_
 rw [fH]
 exact fE (hs X0 hX) fun e s=>xJ
end
end Go.Dm
end
end
namespace Go.Dm
open Go
section
section
variable {P:Program} {T:Tab} {X0:Ctx} {Q:Exit→DS→Prop}
theorem WQ {id:Nat} {c:Code} {s:DS} (h:SWP P X0 c s (nH id Q)):SWP P X0 (.block id c) s Q :=
 LZ (fE h fun e s' hq=>by cases e <;> simp only [nH] at hq ⊢ <;> exact hq)
theorem iT (hT:bL P T) (hm:P.follows .mixedOrders=true) {c:Code} {s:DS} (h:vc P T X0 c s Q):SWP P X0 c s Q:=dI hT hm c h
theorem rX {id:Nat} {c y:Code} {s:DS} (h:SWP P X0 c s (nH id (PB P X0 y Q))):SWP P X0 (.seq (.block id c) y) s Q :=
 EH (fE (WQ h) fun e s' hq=>by cases e <;> simp only [PB] at hq ⊢ <;> exact hq)
theorem qI {α:Type} {c:Code} (I:α→DS) (J:α→Prop) (μ:α→Nat) (x0:α) {s:DS} (hJ:J x0) (hw:uT X0.h.length s (I x0))
  (h:∀ x,J x→SWP P X0 c (I x) (uJ X0.h.length I J μ x Q)):SWP P X0 (.loop c) s Q:=by
 intro gd X a hh hi hs ht
 obtain ⟨X',h1,h2,h3,h4,h5⟩:=hw.use rfl hh hi hs ht
 rw [← h1]
 refine wp_loop_ghost (fun n a w=>∃ x X,μ x=n∧J x∧X.w=w∧X.h=(I x).h∧HInv X∧Step X0 X∧TInv X (I x) a) (μ x0) ⟨x0,X',rfl,hJ,rfl,h2,h3,h4,h5⟩ ?_
 rintro n a' w' ⟨x,Y,rfl,k1,rfl,k2,k3,k4,k5⟩
 refine wp_mono (h x k1 gd Y a' k2 k3 k4 k5) fun e a w hp=>?_
 obtain ⟨s',Z,p1,rfl,p3,p4,p5,p6⟩:=hp
 cases e <;> simp only [Exit.then,uJ] at p1 ⊢
 case normal =>
  obtain ⟨y,q1,q2,q3⟩:=p1
  obtain ⟨Z',r1,r2,r3,r4,r5⟩:=q3.use rfl p3 p4 p5 p6
  exact ⟨μ y,q2,y,Z',rfl,q1,r1,r2,r3,r4,r5⟩
 all_goals exact ⟨s',Z,p1,rfl,p3,p4,p5,p6⟩
end
theorem yK:bytesOf []=some []:=rfl
attribute [go_sem] yK
end
section
def wkQ (x y:PV):Prop:=wkP x y∨∃ k es es',x=.sl k es∧y=.sl k es'∧iU es es'
def zHr:List PV→List PV→Prop
 | [],[]=>True
 | x::xs,y::ys=>wkQ x y∧zHr xs ys
 | _,_=>False
def pF:List (List PV)→List (List PV)→Prop
 | [],[]=>True
 | e::es,f::fs=>zHr e f∧pF es fs
 | _,_=>False
theorem zHr.len:∀ {e f:List PV},zHr e f→f.length=e.length
 | [],[],_=>rfl
 | _::_,_::_,h=>by simp [zHr.len h.2]
 | [],_::_,h=>h.elim
 | _::_,[],h=>h.elim
theorem pF.len:∀ {e f:List (List PV)},pF e f→f.length=e.length
 | [],[],_=>rfl
 | _::_,_::_,h=>by simp [pF.len h.2]
 | [],_::_,h=>h.elim
 | _::_,[],h=>h.elim
theorem PW {w:World} {S:Nat→Prop} {k:Nat} {es es':List (List PV)} (hw:iU es es') {v:Value} (hr:cF w S (.sl k es) v):cF w S (.sl k es') v:=by
 simp only [cF] at hr ⊢
 obtain ⟨a,c,h1,h2,h3⟩:=hr
 refine ⟨a,c,by rw [hw.len];exact h1,by rw [hw.len];exact h2,?_⟩
 rcases h3 with h3|⟨bl,off,h4,h5,h6⟩
 ·left
  subst h3
  exact List.eq_nil_of_length_eq_zero hw.len
 ·exact .inr ⟨bl,off,h4,h5,hw.relL h6⟩
theorem wkQ.relP {w:World} {S:Nat→Prop} {x y:PV} {v:Value} (h:wkQ x y) (hr:cF w S x v):cF w S y v:=by
 rcases h with h|⟨k,es,es',rfl,rfl,h⟩
 ·exact h.relP hr
 ·exact PW h hr
theorem zHr.relE {w:World} {S:Nat→Prop} {bl:Nat}:∀ {e f:List PV} {off:Nat},zHr e f→fC w S bl off e→fC w S bl off f
 | [],[],_,_,_=>True.intro
 | _::_,_::_,_,h,⟨⟨v,h1,h2⟩,h3⟩=>⟨⟨v,h1,h.1.relP h2⟩,zHr.relE h.2 h3⟩
 | [],_::_,_,h,_=>h.elim
 | _::_,[],_,h,_=>h.elim
theorem pF.relL {w:World} {S:Nat→Prop} {k bl:Nat}:∀ {e f:List (List PV)} {off:Nat},pF e f→eD w S k bl off e→eD w S k bl off f
 | [],[],_,_,_=>True.intro
 | _::_,_::_,_,h,⟨⟨h1,h2⟩,h3⟩=>⟨⟨h.1.len.trans h1,h.1.relE h2⟩,pF.relL h.2 h3⟩
 | [],_::_,_,h,_=>h.elim
 | _::_,[],_,h,_=>h.elim
end
section
theorem OkE.nil:OkE []:=⟨fun x hx=>(by cases hx),List.Pairwise.nil,List.Pairwise.nil,fun x hx=>(by cases hx),by decide⟩
end
section
structure Nm where
 n:List UInt8
 l:Int
def cR (l:List Nm):List (List PV):=l.map fun x=>[.s x.n,.i .i64 x.l]
theorem gL (l:List Nm):(cR l).length=l.length:=by simp [cR]
theorem zCT:cR []=[]:=rfl
theorem rI {l:List Nm} {k:Nat} {x:Nm} (h:l[k]? = some x):(cR l).getD k []=[.s x.n,.i .i64 x.l]:=by
 simp only [cR,List.getD_eq_getElem?_getD,List.getElem?_map,h]
 rfl
theorem JY (l:List Nm):(∀ x∈cR l,x.length=2)=True:=eq_true fun x hx=>by
 obtain ⟨y,_,rfl⟩:=List.mem_map.1 hx
 rfl
theorem XU (a:List Nm) (n:Nat):(cR a).take n=cR (a.take n):=by simp [cR]
theorem ZC (a:List Nm) (n:Nat):(cR a).drop n=cR (a.drop n):=by simp [cR]
theorem zDp (a b:List Nm):cR a++cR b=cR (a++b):=by simp [cR]
theorem XT (t:List Nm) (n:List UInt8) (i:Int):cR t++[[.s n,.i .i64 i]]=cR (t++[⟨n,i⟩]):=by simp [cR]
theorem zB6 (t:List Nm) (k:Nat) (n:List UInt8) (i:Int):(cR t).set k [.s n,.i .i64 i]=cR (t.set k ⟨n,i⟩):=by simp [cR,List.map_set]
theorem zKB (x:Nm):Nm.mk x.n x.l=x:=rfl
def jU:List (Int × List En)→Int→List En
 | [],_=>[]
 | e::es,n=>if e.1=n then e.2 else jU es n
def oQ:List (Int × List En)→Int→List En→List (Int × List En)
 | [],n,x=>[(n,x)]
 | e::es,n,x=>if e.1=n then (n,x)::es else e::oQ es n x
def BT (l:List (Int × List En)):List (Int × PV):=l.map fun e=>(e.1,.sl 7 (fV e.2))
theorem zEF:BT []=[]:=rfl
theorem KJ:∀ (l:List (Int × List En)) (n:Int),mM (BT l) n (.sl 7 [])=.sl 7 (fV (jU l n))
 | [],_=>rfl
 | e::es,n=>by
  simp only [BT,List.map_cons,mM,jU]
  split
  ·rfl
  ·exact KJ es n
theorem SN:∀ (l:List (Int × List En)) (n:Int) (x:List En),BN (BT l) n (.sl 7 (fV x))=BT (oQ l n x)
 | [],_,_=>rfl
 | e::es,n,x=>by
  simp only [BT,List.map_cons,BN,oQ]
  split
  ·rfl
  ·exact congrArg _ (SN es n x)
theorem qO:∀ (l:List (Int × List En)) (n:Int) (x:List En),jU (oQ l n x) n=x
 | [],n,x=>by simp [oQ,jU]
 | e::es,n,x=>by
  simp only [oQ]
  split
  ·simp [jU]
  ·rename_i h;simp only [jU];rw [if_neg h];exact qO es n x
theorem oI:∀ (l:List (Int × List En)) {n m:Int} (x:List En),m≠n→jU (oQ l n x) m=jU l m
 | [],n,m,x,h=>by simp [oQ,jU,Ne.symm h]
 | e::es,n,m,x,h=>by
  simp only [oQ]
  split
  ·rename_i h1;simp only [jU];rw [if_neg (Ne.symm h),if_neg (by rw [h1];exact Ne.symm h)]
  ·simp only [jU];rw [oI es x h]
structure Rm where
 N:List Nm
 L:List Ly
 E:List (Int × List En)
 x:Int
def lM (r:Rm) (id:Int):List (List En):=(bS r.L id).map (jU r.E)
def FB (r:Rm) (id:Int):List It × Bool:=nE [] (lM r id)
def treeR (r:Rm) (id:Int):List It:=(FB r id).1
theorem XE {r:Rm} (hg:OkG r.L) (T:Int→List It) (h0:T 0=[]) (hok:∀ x∈r.L,OkT (T x.i)) (hE:∀ x∈r.L,jU r.E x.i=fM (T x.p) (T x.i)):∀ (k:Nat) {x:Ly},r.L[k]? = some x→FB r x.i=(T x.i,true):=by
 intro k
 induction k using Nat.strongRecOn with
 | ind k ih =>
  intro x hx
  have hm:=List.mem_of_getElem? hx
  have key:nE [] ((bS r.L x.p).map (jU r.E))=(T x.p,true)∧OkT (T x.p):=by
   rcases hg.par k x hx with hp|⟨j,y,h1,h2,h3,_⟩
   ·rw [hp,oF hg.lo1,h0]
    exact ⟨rfl,OkT.nil⟩
   ·rw [← h3]
    exact ⟨ih j h1 h2,hok y (List.mem_of_getElem? h2)⟩
  unfold FB lM
  rw [hg.step hm,List.map_append,List.map_cons,List.map_nil,BS,key.1,if_pos rfl,hE x hm,zCA key.2 (hok x hm),if_pos rfl]
attribute [go_sem] gL zCT JY XU ZC zDp XT zB6 zKB zEF KJ SN
end
section
section
variable {P:Program} {T:Tab} {X0:Ctx}
structure RInvF (P:Program) (X0:Ctx) (ops:Array Oper) (n:Nat) (chain:List Nat) (f:Nat) (V:Nat→DV) (H:Nat→Bool→aD) (t0:Fr) (L:Array Bool) (X:Ctx) (a:Act):Prop where
 size:L.size=ops.size
 closed:zBJ ops L
 hh:X.h=H (chain.filter fun e=>L.getD e false).length (L.getD f false)
 hi:HInv X
 hs:Step X0 X
 sz:a.tmps.size=n
 defs:a.defers=[]
 relA:∀ k j,L.getD k false=true→fQ ops k=some j→bB X (V k) (a.tmps.getD j undef)
 relB:∀ j,(∀ k,L.getD k false=true→fQ ops k≠some j)→bB X (look t0 j) (a.tmps.getD j undef)
section plan
variable {ops:Array Oper} {n:Nat} {chain order:List Nat}
end plan
end
end
end Go.Dm
