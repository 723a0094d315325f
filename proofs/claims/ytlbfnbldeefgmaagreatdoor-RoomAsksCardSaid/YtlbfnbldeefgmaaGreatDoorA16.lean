/- Part 17 of the proof of roomAsks_card, set without needless blanks. No condition. -/
import Derived.Test.YtlbfnbldeefgmaaGreatDoorA15
set_option linter.all false
section
section
namespace Go.Dm
open Go
def vO (n:Nat) (h:aC) (R:DV→aC→Prop):DV→Prop
 | .c (.own id off len)=>off=0∧n≤id∧(h.take n).all (bN n)=true∧∃ k es,h[id]? = some (.arr k es false)∧R (.c (.own n 0 len)) (h.take n++[.arr k es false])
 | _=>False
def TF (n:Nat) (t:Fr) (h:aC) (R:DV→aC→Prop):List ResultVar→Prop
 | [.tmp i]=>vO n h R (look t i)
 | _=>False
def XI (n:Nat) (rs:List ResultVar) (R:DV→aC→Prop):Exit→DS→Prop
 | .normal,s=>TF n s.t s.h R rs
 | .ret,s=>TF n s.t s.h R rs
 | _,_=>False
theorem zHU {n:Nat} {rs:List ResultVar} {R:DV→aC→Prop} {s:DS}:XI n rs R .normal s=TF n s.t s.h R rs:=nr rfl
theorem zHV {n:Nat} {rs:List ResultVar} {R:DV→aC→Prop} {s:DS}:XI n rs R .ret s=TF n s.t s.h R rs:=nr rfl
theorem zE0 {n:Nat} {t:Fr} {h:aC} {R:DV→aC→Prop} {i:Nat}:TF n t h R [.tmp i]=vO n h R (look t i):=nr rfl
attribute [go_sem] zHU zHV zE0
theorem zMd {n:Nat} {h:aC} {d:DV} {R:DV→aC→Prop} (hv:vO n h R d):Fin n h d R:=by
 unfold vO at hv;split at hv
 ·obtain ⟨rfl,h1,h2,k,es,h3,h4⟩:=hv;exact .inr (.inr ⟨_,_,k,es,rfl,h1,h3,h2,h4⟩)
 ·exact hv.elim
theorem zNG {P:Program} {T:Tab} (hT:bD P T) (hm:P.follows .mixedOrders=true) {f:FuncId} {fn:Func} {c:Code} {args:List DV} {h:aC} {R:DV→aC→Prop} (hf:P.funcs[f]? = some fn) (hb:fn.body=some c)
  (hc:(Nat.ble args.length fn.ntmps && !(fn.name == "runtime.NumGoroutine"))=true)
  (hs:∀ X0:Ctx,X0.h=h→vc P T X0 c ⟨fn.ntmps,iP 0 args,h⟩ (XI h.length fn.results.toList R)):aA P f args h R:=by
 simp only [Bool.and_eq_true,Bool.not_eq_true'] at hc;refine dW hT hf hb (Nat.le_of_ble_eq_true hc.1) hc.2 fun X0 hX=>?_;rw [eJ];refine eY (dG hT hm c (hs X0 hX)) fun e s hv=>?_;have key:TF h.length s.t s.h R fn.results.toList→dpost T h.length fn.results.toList R .normal s∧dpost T h.length fn.results.toList R .ret s:=by
  intro hr;generalize fn.results.toList=rs at hr;unfold TF at hr;split at hr
  ·rename_i i;have hf:=zMd hr;have:∃ x,look s.t i=.c x:=by
    unfold vO at hr;split at hr
    ·rename_i he;exact ⟨_,he⟩
    ·exact hr.elim
   obtain ⟨x,hx⟩:=this;rw [hx] at hf;simp only [dpost,lI,hx];exact ⟨hf,hf⟩
  ·exact hr.elim
 cases e <;> simp only [XI] at hv
 case normal=>exact (key hv).1
 case ret=>exact (key hv).2
theorem zER {P:Program} {f:FuncId} {args args':List DV} {h:aC} {K:DV→aC→Prop} {n k:Nat} {es:List (List PV)} (hc:aA P f args' [] fun d h'=>d=.c (.own 0 0 n)∧h'=[.arr k es false]) (hp:gK h args=some args')
  (hk:K (.c (.own h.length 0 n)) (tK h (kF args)++[.arr k es false])):aA P f args h K :=
 (aA.frame h hp hc).mono fun d h' ⟨d0,h0,⟨h1,h2⟩,h3,h4⟩=>by
  subst h1;subst h2;subst h3;subst h4;simpa [DV.sh,CV.sh,DB.sh] using hk
def vR (h:aC) (R:DV→aC→Prop):DV→Prop
 | .c x=>R (.c x) h
 | _=>False
def TG (t:Fr) (h:aC) (R:DV→aC→Prop):List ResultVar→Prop
 | [.tmp i]=>vR h R (look t i)
 | _=>False
def XJ (rs:List ResultVar) (R:DV→aC→Prop):Exit→DS→Prop
 | .normal,s=>TG s.t s.h R rs
 | .ret,s=>TG s.t s.h R rs
 | _,_=>False
theorem zHW {rs:List ResultVar} {R:DV→aC→Prop} {s:DS}:XJ rs R .normal s=TG s.t s.h R rs:=nr rfl
theorem zHX {rs:List ResultVar} {R:DV→aC→Prop} {s:DS}:XJ rs R .ret s=TG s.t s.h R rs:=nr rfl
theorem zE1 {t:Fr} {h:aC} {R:DV→aC→Prop} {i:Nat}:TG t h R [.tmp i]=vR h R (look t i):=nr rfl
theorem vR_c {h:aC} {R:DV→aC→Prop} {x:CV}:vR h R (.c x)=R (.c x) h:=nr rfl
attribute [go_sem] zHW zHX zE1 vR_c
theorem VO {P:Program} {T:Tab} (hT:bD P T) (hm:P.follows .mixedOrders=true) {f:FuncId} {fn:Func} {c:Code} {args:List DV} {h:aC} {R:DV→aC→Prop} (hf:P.funcs[f]? = some fn) (hb:fn.body=some c)
  (hc:(Nat.ble args.length fn.ntmps && !(fn.name == "runtime.NumGoroutine"))=true)
  (hs:∀ X0:Ctx,X0.h=h→vc P T X0 c ⟨fn.ntmps,iP 0 args,h⟩ (XJ fn.results.toList R)):aA P f args h R:=by
 simp only [Bool.and_eq_true,Bool.not_eq_true'] at hc;refine dW hT hf hb (Nat.le_of_ble_eq_true hc.1) hc.2 fun X0 hX=>?_;rw [eJ];refine eY (dG hT hm c (hs X0 hX)) fun e s hv=>?_;have key:TG s.t s.h R fn.results.toList→dpost T h.length fn.results.toList R .normal s∧dpost T h.length fn.results.toList R .ret s:=by
  intro hr;generalize fn.results.toList=rs at hr;unfold TG at hr;split at hr
  ·rename_i i;unfold vR at hr;split at hr
   ·rename_i x hx;simp only [dpost,lI,hx];exact ⟨.inl hr,.inl hr⟩
   ·exact hr.elim
  ·exact hr.elim
 cases e <;> simp only [XJ] at hv
 case normal=>exact (key hv).1
 case ret=>exact (key hv).2
def zH1:List PV→List PV→Prop
 | [],[]=>True
 | x::xs,y::ys=>wkP x y∧zH1 xs ys
 | _,_=>False
def jO:List (List PV)→List (List PV)→Prop
 | [],[]=>True
 | e::es,f::fs=>zH1 e f∧jO es fs
 | _,_=>False
theorem zH1.len:∀ {e f:List PV},zH1 e f→f.length=e.length
 | [],[],_=>rfl
 | _::_,_::_,h=>by simp [zH1.len h.2]
 | [],_::_,h=>h.elim
 | _::_,[],h=>h.elim
theorem jO.len:∀ {e f:List (List PV)},jO e f→f.length=e.length
 | [],[],_=>rfl
 | _::_,_::_,h=>by simp [jO.len h.2]
 | [],_::_,h=>h.elim
 | _::_,[],h=>h.elim
theorem wkP.relP {w:World} {S:Nat→Prop} {x y:PV} {v:Value} (h:wkP x y) (hr:cT w S x v):cT w S y v:=by
 rcases h with rfl|⟨rfl,k,rfl⟩
 ·exact hr
 ·exact cT.nilOf k hr
theorem zH1.relE {w:World} {S:Nat→Prop} {bl:Nat}:∀ {e f:List PV} {off:Nat},zH1 e f→fV w S bl off e→fV w S bl off f
 | [],[],_,_,_=>True.intro
 | _::_,_::_,_,h,⟨⟨v,h1,h2⟩,h3⟩=>⟨⟨v,h1,h.1.relP h2⟩,zH1.relE h.2 h3⟩
 | [],_::_,_,h,_=>h.elim
 | _::_,[],_,h,_=>h.elim
theorem jO.relL {w:World} {S:Nat→Prop} {k bl:Nat}:∀ {e f:List (List PV)} {off:Nat},jO e f→eP w S k bl off e→eP w S k bl off f
 | [],[],_,_,_=>True.intro
 | _::_,_::_,_,h,⟨⟨h1,h2⟩,h3⟩=>⟨⟨h.1.len.trans h1,h.1.relE h2⟩,jO.relL h.2 h3⟩
 | [],_::_,_,h,_=>h.elim
 | _::_,[],_,h,_=>h.elim
end Go.Dm
end
section
namespace Go.Dm
open Go
def EO:CV→Bool
 | .p _=>true
 | _=>false
def zMu:EV→Bool
 | .c x=>EO x
 | .agg xs=>xs.all EO
def zBu:DV→Bool
 | .jk=>true
 | .c x=>EO x
 | .agg xs=>xs.all EO
 | .tup xs=>xs.all zMu
theorem vV {X Y:Ctx} (hw:Y.w=X.w) (hS:Y.S=X.S) {x:CV} {v:Value} (hf:EO x=true) (h:bS X x v):bS Y x v:=by
 cases x <;> simp only [EO] at hf
 ·simp only [bS] at h ⊢;rw [hw,hS];exact h
 all_goals cases hf
theorem xG {X Y:Ctx} (hw:Y.w=X.w) (hS:Y.S=X.S):∀ {xs:List CV} {vs:List Value},xs.all EO=true→bB X xs vs→bB Y xs vs
 | [],[],_,_=>True.intro
 | _::_,_::_,hf,h=>by
  simp only [List.all_cons,Bool.and_eq_true] at hf;exact ⟨vV hw hS hf.1 h.1,xG hw hS hf.2 h.2⟩
 | [],_::_,_,h=>h.elim
 | _::_,[],_,h=>h.elim
theorem zFy {X Y:Ctx} (hw:Y.w=X.w) (hS:Y.S=X.S) {x:EV} {v:Value} (hf:zMu x=true) (h:dN X x v):dN Y x v:=by
 cases x <;> simp only [zMu] at hf <;> simp only [dN] at h ⊢
 ·exact vV hw hS hf h
 ·obtain ⟨vs,h1,h2⟩:=h;exact ⟨vs,h1,xG hw hS hf h2⟩
theorem JH {X Y:Ctx} (hw:Y.w=X.w) (hS:Y.S=X.S):∀ {xs:List EV} {vs:List Value},xs.all zMu=true→cG X xs vs→cG Y xs vs
 | [],[],_,_=>True.intro
 | _::_,_::_,hf,h=>by
  simp only [List.all_cons,Bool.and_eq_true] at hf;exact ⟨zFy hw hS hf.1 h.1,JH hw hS hf.2 h.2⟩
 | [],_::_,_,h=>h.elim
 | _::_,[],_,h=>h.elim
theorem vW {X Y:Ctx} (hw:Y.w=X.w) (hS:Y.S=X.S) {x:DV} {v:Value} (hf:zBu x=true) (h:bA X x v):bA Y x v:=by
 cases x <;> simp only [zBu] at hf <;> simp only [bA] at h ⊢
 ·exact vV hw hS hf h
 ·obtain ⟨vs,h1,h2⟩:=h;exact ⟨vs,h1,xG hw hS hf h2⟩
 ·obtain ⟨vs,h1,h2⟩:=h;exact ⟨vs,h1,JH hw hS hf h2⟩
theorem BL {X Y:Ctx} (hw:Y.w=X.w) (hS:Y.S=X.S) {bl:Nat}:∀ {off:Nat} {cs:List CV},cs.all EO=true→cP X bl off cs→cP Y bl off cs
 | _,[],_,_=>True.intro
 | _,_::_,hf,h=>by
  simp only [List.all_cons,Bool.and_eq_true] at hf;obtain ⟨⟨v,h1,h2⟩,h3⟩:=h;exact ⟨⟨v,by rw [hw];exact h1,vV hw hS hf.1 h2⟩,BL hw hS hf.2 h3⟩
theorem MM {X Y:Ctx} (hw:Y.w=X.w) (hS:Y.S=X.S):∀ {ps:List PV} {vs:List Value},dC X (ps.map fun x=>.c (.p x)) vs→dC Y (ps.map fun x=>.c (.p x)) vs
 | [],[],_=>True.intro
 | _::_,_::_,h=>⟨vW hw hS rfl h.1,MM hw hS h.2⟩
 | [],_::_,h=>h.elim
 | _::_,[],h=>h.elim
theorem qV {X:Ctx} {G:Nat→Option (Nat × Nat)} {h:aC} {bl off:Nat} {cs:List CV} (hf:cs.all EO=true) (hb:cP X bl off cs):cP ⟨X.w,X.S,G,h⟩ bl off cs:=BL (X:=X) (Y:=⟨X.w,X.S,G,h⟩) rfl rfl hf hb
theorem QE {X:Ctx} {G:Nat→Option (Nat × Nat)} {h:aC} {d:DV} {v:Value} (hf:zBu d=true) (hd:bA X d v):bA ⟨X.w,X.S,G,h⟩ d v:=vW (X:=X) (Y:=⟨X.w,X.S,G,h⟩) rfl rfl hf hd
theorem aA.box {P:Program} {f:FuncId} {h:aC} {i:Nat} {c0 c1:List CV} {ps:List PV} {r:DV} {K:DV→aC→Prop}
  (hc:aA P f (.c (.ptr 0 0)::ps.map fun x=>.c (.p x)) [.box c0] fun d h'=>d=r∧h'=[.box c1])
  (h0:h[i]? = some (.box c0)) (hd:(c0.all EO && (c1.all EO && zBu r))=true) (hk:K r (h.set i (.box c1))):
  aA P f (.c (.ptr i 0)::ps.map fun x=>.c (.p x)) h K:=by
 simp only [Bool.and_eq_true] at hd;obtain ⟨hd0,hd1,hdr⟩:=hd;intro X vals hh hi gd hr;subst hh;have hlt:=aM h0;obtain ⟨g,arr,el,fz,hg,hb1,hb2,hb3,hb4⟩:=hi.blk i _ h0
 let Y:Ctx:=⟨X.w,X.S,fun j=>if j=0 then some g else none,[.box c0]⟩
 have hiY:HInv Y:=by
  refine ⟨hi.slt,fun id db hdb=>?_,fun id db g' hdb hl hg'=>?_,fun id db id' db' g1 g2 hdb _ _ hdb' _ _ _ _=>?_⟩
  ·cases id with
   | zero =>
    simp only [Y,List.getElem?_cons_zero,Option.some.injEq] at hdb;subst hdb;exact ⟨g,arr,el,fz,rfl,hb1,hb2,hb3,qV hd0 hb4⟩
   | succ n=>simp [Y] at hdb
  ·cases id with
   | zero =>
    simp only [Y,List.getElem?_cons_zero,Option.some.injEq,if_true] at hdb hg';subst hdb;subst hg';exact hi.own i _ g h0 rfl hg
   | succ n=>simp [Y] at hdb
  ·have e1:=aM hdb;have e2:=aM hdb';simp only [Y,List.length_cons,List.length_nil] at e1 e2;omega
 cases vals with
 | nil=>exact hr.elim
 | cons v0 vs =>
  obtain ⟨⟨_,hv1,hv2⟩,hr2⟩:=hr;obtain ⟨g',hg',rfl⟩:=hv2 _ h0;rw [hg] at hg';cases hg';have hrY:dC Y (.c (.ptr 0 0)::ps.map fun x=>.c (.p x)) (.pointer (some ⟨g.1,g.2+0,none⟩)::vs) :=
   ⟨⟨Nat.zero_lt_one,rfl,fun cells hcells=>⟨g,rfl,rfl⟩⟩,MM (X:=X) (Y:=Y) rfl rfl hr2⟩
  have key:∀ v w',Ret Y (fun d h'=>d=r∧h'=[.box c1]) v w'→Ret X K v w':=by
   rintro v w' ⟨d,Z,h1,h2,h3,h4,rfl,h5⟩;have hZ0:Z.h[0]? = some (.box c1):=by rw [h5];rfl
   obtain ⟨db,e1,e2,e3,e4⟩:=h3.ids 0 _ (by simp [Y]) hZ0 rfl;have hGZ:Z.G 0=some g:=e3;have e4:=e4 g rfl;have hfr:∀ b,b<X.w.heap.size→b≠g.1→Z.w.heap[b]? = X.w.heap[b]? := fun b hb hne=>h3.frame b hb fun id db g' hdb hl hf hg'=>by
    have e1:=aM hdb;simp only [Y,List.length_cons,List.length_nil] at e1;have:id=0:=by omega
    subst this;simp only [Y,if_true,Option.some.injEq] at hg';subst hg';exact fun e=>hne e.symm
   have hst:Step X ⟨Z.w,Z.S,X.G,X.h.set i (.box c1)⟩:=by
    refine ⟨h3.size,h3.os,h3.tape,h3.output,h3.kept,by simp,fun id db' hl' hdb' hlv=>?_,fun b hb hno=>?_,fun id db g' hdb hl hf hg'=>?_,fun b hb=>?_⟩
    ·rcases cA hdb' with ⟨rfl,rfl,_⟩|⟨hne,h'⟩
     ·exact ⟨_,h0,True.intro,rfl,fun g' hg'=>by rw [hg] at hg';cases hg';exact e4⟩
     ·refine ⟨db',h',cD.refl hlv,rfl,fun g' hg'=>?_⟩;rw [show Z.w.heap[g'.1]? = X.w.heap[g'.1]? from hfr _ (hi.block_lt h' hlv hg') fun e=>hne (hi.inj i _ id db' g g' h0 rfl rfl h' hlv hg hg' e.symm).symm]
      exact (hi.blk id db' h').same hlv g' hg'
    ·exact hfr b hb fun e=>hno i _ g h0 rfl rfl hg e.symm
    ·rcases cA hdb with ⟨rfl,rfl,_⟩|⟨hne,h'⟩
     ·exact .inr ⟨id,_,g',h0,rfl,rfl,hg',rfl⟩
     ·exact .inr ⟨id,db,g',h',hl,hf,hg',rfl⟩
    ·rcases h3.upper b hb with h|h|⟨id,db,g',hdb,hl,hg',e⟩
     ·exact .inl h
     ·exact .inr (.inl h)
     ·have e1:=aM hdb;simp only [Y,List.length_cons,List.length_nil] at e1;have:id=0:=by omega
      subst this;simp only [Y,if_true,Option.some.injEq] at hg';subst hg';exact .inr (.inr ⟨i,_,g,h0,rfl,hg,e⟩)
   refine ⟨d,⟨Z.w,Z.S,X.G,X.h.set i (.box c1)⟩,h1,⟨h2.slt,fun id db hdb=>?_,fun id db g' hdb hl hg'=>?_,fun id db id' db' g1 g2 hdb hl hf hdb' hl' hg1 hg2 he=>?_⟩,hst,QE hdr h4,hk⟩
   ·rcases cA hdb with ⟨rfl,rfl,_⟩|⟨hne,h'⟩
    ·obtain ⟨g',arr',el',fz',k1,k2,k3,k4,k5⟩:=h2.blk 0 _ hZ0;rw [hGZ] at k1;cases k1;exact ⟨g,arr',el',fz',hg,k2,k3,k4,qV hd1 k5⟩
    ·by_cases hl:db.live=true
     ·exact (hi.blk id db h').move hst rfl fun g' hg'=>hfr _ (hi.block_lt h' hl hg') fun e=>hne (hi.inj i _ id db g g' h0 rfl rfl h' hl hg hg' e.symm).symm
     ·cases db <;> simp_all [DB.live,dU]
   ·rcases cA hdb with ⟨rfl,rfl,_⟩|⟨hne,h'⟩
    ·have hgg:g'=g:=by
      have:X.G id=some g':=hg';rw [hg] at this;cases this;rfl
     subst hgg;exact h2.own 0 _ g' hZ0 rfl hGZ
    ·have ho:=hi.own id db g' h' hl hg';refine ⟨fun hf hS=>?_,fun hf=>(h3.kept _ (ho.2 hf)).1⟩;rcases h3.upper _ hS with h|h|⟨j,d',g2,hdb2,hl2,hg2,e⟩
     ·exact ho.1 hf h
     ·have:=hi.block_lt h' hl hg';have hYw:Y.w.heap.size=X.w.heap.size:=rfl;omega
     ·have e1:=aM hdb2;simp only [Y,List.length_cons,List.length_nil] at e1;have:j=0:=by omega
      subst this;simp only [Y,if_true,Option.some.injEq] at hg2;subst hg2;exact hne (hi.inj i _ id db g g' h0 rfl rfl h' hl hg hg' e).symm
   ·rcases cA hdb with ⟨rfl,rfl,_⟩|⟨hne,h1'⟩ <;> rcases cA hdb' with ⟨rfl,rfl,_⟩|⟨hne',h2'⟩
    ·rfl
    ·exact hi.inj id _ id' db' g1 g2 h0 rfl rfl h2' hl' hg1 hg2 he
    ·exact hi.inj id db id' _ g1 g2 h1' hl hf h0 rfl hg1 hg2 he
    ·exact hi.inj id db id' db' g1 g2 h1' hl hf h2' hl' hg1 hg2 he
  have gdY:Gnd P Y:=gd;rcases hc Y _ rfl hiY gdY hrY with ⟨h1,h2⟩|⟨v,w',h1,h2⟩
  ·exact .inl ⟨h1,h2.mono fun e w' ⟨v,he,hv⟩=>⟨v,he,key v w' hv⟩⟩
  ·exact .inr ⟨v,w',h1,key v w' h2⟩
theorem zMa {P:Program} {f:FuncId} {h:aC} {i:Nat} {c0 c1:List CV} {x:PV} {r:DV} {K:DV→aC→Prop}
  (hc:aA P f [.c (.ptr 0 0),.c (.p x)] [.box c0] fun d h'=>d=r∧h'=[.box c1])
  (h0:h[i]? = some (.box c0)) (hd:(c0.all EO && (c1.all EO && zBu r))=true) (hk:K r (h.set i (.box c1))):
  aA P f [.c (.ptr i 0),.c (.p x)] h K:=aA.box (ps:=[x]) hc h0 hd hk
end Go.Dm
end
section
namespace Go.Dm
open Go
section
variable {P:Program} {T:Tab} {X0:Ctx} {Q:Exit→DS→Prop}
def WkS (P:Program) (X0:Ctx) (s s':DS):Prop:=∀ (c:Code) (Q:Exit→DS→Prop),SWP P X0 c s' Q→SWP P X0 c s Q
def zD6 {α:Type} (P:Program) (X0:Ctx) (I:α→DS) (J:α→Prop) (Q:Exit→DS→Prop):Exit→DS→Prop:=fun e s'=>match e with
 | .normal=>∃ y,J y∧WkS P X0 s' (I y)
 | e=>Q e s'
theorem HF (hT:bD P T) (hm:P.follows .mixedOrders=true) {α:Type} (I:α→DS) (J:α→Prop) {x y:Code} {s:DS} (h1:vc P T X0 x s (zD6 P X0 I J Q))
  (h2:∀ a,J a→SWP P X0 y (I a) Q):SWP P X0 (.seq x y) s Q :=
 zZ (eY (dG hT hm x h1) fun e s' hq=>by
  cases e <;> simp only [zD6] at hq ⊢
  case normal =>
   obtain ⟨a,ha,hw⟩:=hq;exact hw _ _ (h2 a ha)
  all_goals exact hq)
theorem qj_e {α:Type} {I:α→DS} {J:α→Prop} {id:Nat} {s:DS}:zD6 P X0 I J Q (.exit id) s=Q (.exit id) s:=nr rfl
theorem qj_r {α:Type} {I:α→DS} {J:α→Prop} {s:DS}:zD6 P X0 I J Q .ret s=Q .ret s:=nr rfl
theorem zMA {α:Type} {I:α→DS} {J:α→Prop} {s:DS} (y:α) (h1:J y) (h3:EC X0.h.length s (I y)):zD6 P X0 I J Q .normal s:=⟨y,h1,fun _ _ h=>zHH h3 h⟩
def SA (P:Program) (X0:Ctx) (y:Code) (Q:Exit→DS→Prop):Exit→DS→Prop:=fun e s'=>match e with
 | .normal=>SWP P X0 y s' Q
 | e=>Q e s'
theorem cL (hT:bD P T) (hm:P.follows .mixedOrders=true) {x y:Code} {s:DS} (h1:vc P T X0 x s (SA P X0 y Q)):SWP P X0 (.seq x y) s Q :=
 zZ (eY (dG hT hm x h1) fun e s' hq=>by
  cases e <;> simp only [SA] at hq ⊢ <;> exact hq)
theorem qf_n {y:Code} {s:DS}:SA P X0 y Q .normal s=SWP P X0 y s Q:=nr rfl
theorem qf_e {y:Code} {id:Nat} {s:DS}:SA P X0 y Q (.exit id) s=Q (.exit id) s:=nr rfl
theorem qf_r {y:Code} {s:DS}:SA P X0 y Q .ret s=Q .ret s:=nr rfl
attribute [go_sem] qj_e qj_r qf_n qf_e qf_r
theorem zMP {h:aC} {f:FuncId} {fn:Func} {c:Code} {args:List DV} {R:DV→aC→Prop} (hT:bD P T) (hf:P.funcs[f]? = some fn) (hb:fn.body=some c)
  (hc:(Nat.ble args.length fn.ntmps && !(fn.name == "runtime.NumGoroutine"))=true)
  (hs:∀ X0:Ctx,X0.h=h→SWP P X0 c ⟨fn.ntmps,iP 0 args,h⟩ (zAQ T h.length fn.results.toList R)):aA P f args h R:=by
 simp only [Bool.and_eq_true,Bool.not_eq_true'] at hc;refine dW hT hf hb (Nat.le_of_ble_eq_true hc.1) hc.2 fun X0 hX=>?_;rw [eJ];exact eY (hs X0 hX) fun e s=>AH
end
end Go.Dm
end
end
section
namespace Go.Dm
open Go
section
variable {P:Program} {T:Tab} {X0:Ctx} {Q:Exit→DS→Prop}
theorem zAE {id:Nat} {c:Code} {s:DS} (h:SWP P X0 c s (kZ id Q)):SWP P X0 (.block id c) s Q :=
 NT (eY h fun e s' hq=>by cases e <;> simp only [kZ] at hq ⊢ <;> exact hq)
theorem iE (hT:bD P T) (hm:P.follows .mixedOrders=true) {c:Code} {s:DS} (h:vc P T X0 c s Q):SWP P X0 c s Q:=dG hT hm c h
theorem sJ {id:Nat} {c y:Code} {s:DS} (h:SWP P X0 c s (kZ id (SA P X0 y Q))):SWP P X0 (.seq (.block id c) y) s Q :=
 zZ (eY (zAE h) fun e s' hq=>by cases e <;> simp only [SA] at hq ⊢ <;> exact hq)
theorem rL {α:Type} {c:Code} (I:α→DS) (J:α→Prop) (μ:α→Nat) (x0:α) {s:DS} (hJ:J x0) (hw:vH X0.h.length s (I x0))
  (h:∀ x,J x→SWP P X0 c (I x) (uY X0.h.length I J μ x Q)):SWP P X0 (.loop c) s Q:=by
 intro gd X a hh hi hs ht;obtain ⟨X',h1,h2,h3,h4,h5⟩:=hw.use rfl hh hi hs ht;rw [← h1];refine wp_loop_ghost (fun n a w=>∃ x X,μ x=n∧J x∧X.w=w∧X.h=(I x).h∧HInv X∧Step X0 X∧TInv X (I x) a) (μ x0) ⟨x0,X',rfl,hJ,rfl,h2,h3,h4,h5⟩ ?_;rintro n a' w' ⟨x,Y,rfl,k1,rfl,k2,k3,k4,k5⟩;refine wp_mono (h x k1 gd Y a' k2 k3 k4 k5) fun e a w hp=>?_;obtain ⟨s',Z,p1,rfl,p3,p4,p5,p6⟩:=hp;cases e <;> simp only [Exit.then,uY] at p1 ⊢
 case normal =>
  obtain ⟨y,q1,q2,q3⟩:=p1;obtain ⟨Z',r1,r2,r3,r4,r5⟩:=q3.use rfl p3 p4 p5 p6;exact ⟨μ y,q2,y,Z',rfl,q1,r1,r2,r3,r4,r5⟩
 all_goals exact ⟨s',Z,p1,rfl,p3,p4,p5,p6⟩
end
theorem wT:bytesOf []=some []:=rfl
attribute [go_sem] wT
end Go.Dm
end
section
namespace Go.Dm
open Go
def wkQ (x y:PV):Prop:=wkP x y∨∃ k es es',x=.sl k es∧y=.sl k es'∧jO es es'
def zII:List PV→List PV→Prop
 | [],[]=>True
 | x::xs,y::ys=>wkQ x y∧zII xs ys
 | _,_=>False
def qF:List (List PV)→List (List PV)→Prop
 | [],[]=>True
 | e::es,f::fs=>zII e f∧qF es fs
 | _,_=>False
theorem zII.len:∀ {e f:List PV},zII e f→f.length=e.length
 | [],[],_=>rfl
 | _::_,_::_,h=>by simp [zII.len h.2]
 | [],_::_,h=>h.elim
 | _::_,[],h=>h.elim
theorem qF.len:∀ {e f:List (List PV)},qF e f→f.length=e.length
 | [],[],_=>rfl
 | _::_,_::_,h=>by simp [qF.len h.2]
 | [],_::_,h=>h.elim
 | _::_,[],h=>h.elim
theorem SD {w:World} {S:Nat→Prop} {k:Nat} {es es':List (List PV)} (hw:jO es es') {v:Value} (hr:cT w S (.sl k es) v):cT w S (.sl k es') v:=by
 simp only [cT] at hr ⊢;obtain ⟨a,c,h1,h2,h3⟩:=hr;refine ⟨a,c,by rw [hw.len];exact h1,by rw [hw.len];exact h2,?_⟩
 rcases h3 with h3|⟨bl,off,h4,h5,h6⟩
 ·left;subst h3;exact List.eq_nil_of_length_eq_zero hw.len
 ·exact .inr ⟨bl,off,h4,h5,hw.relL h6⟩
theorem wkQ.relP {w:World} {S:Nat→Prop} {x y:PV} {v:Value} (h:wkQ x y) (hr:cT w S x v):cT w S y v:=by
 rcases h with h|⟨k,es,es',rfl,rfl,h⟩
 ·exact h.relP hr
 ·exact SD h hr
theorem zII.relE {w:World} {S:Nat→Prop} {bl:Nat}:∀ {e f:List PV} {off:Nat},zII e f→fV w S bl off e→fV w S bl off f
 | [],[],_,_,_=>True.intro
 | _::_,_::_,_,h,⟨⟨v,h1,h2⟩,h3⟩=>⟨⟨v,h1,h.1.relP h2⟩,zII.relE h.2 h3⟩
 | [],_::_,_,h,_=>h.elim
 | _::_,[],_,h,_=>h.elim
theorem qF.relL {w:World} {S:Nat→Prop} {k bl:Nat}:∀ {e f:List (List PV)} {off:Nat},qF e f→eP w S k bl off e→eP w S k bl off f
 | [],[],_,_,_=>True.intro
 | _::_,_::_,_,h,⟨⟨h1,h2⟩,h3⟩=>⟨⟨h.1.len.trans h1,h.1.relE h2⟩,qF.relL h.2 h3⟩
 | [],_::_,_,h,_=>h.elim
 | _::_,[],_,h,_=>h.elim
end Go.Dm
end
section
namespace Go.Dm
open Go
theorem OkE.nil:OkE []:=⟨fun x hx=>(by cases hx),List.Pairwise.nil,List.Pairwise.nil,fun x hx=>(by cases hx),by decide⟩
end Go.Dm
end
section
namespace Go.Dm
open Go
structure Nm where
 n:List UInt8
 l:Int
def bM (l:List Nm):List (List PV):=l.map fun x=>[.s x.n,.i .i64 x.l]
theorem fC (l:List Nm):(bM l).length=l.length:=by simp [bM]
theorem zCp:bM []=[]:=rfl
theorem oM {l:List Nm} {k:Nat} {x:Nm} (h:l[k]? = some x):(bM l).getD k []=[.s x.n,.i .i64 x.l]:=by
 simp only [bM,List.getD_eq_getElem?_getD,List.getElem?_map,h];rfl
theorem KC (l:List Nm):(∀ x∈bM l,x.length=2)=True:=eq_true fun x hx=>by
 obtain ⟨y,_,rfl⟩:=List.mem_map.1 hx;rfl
theorem YU (a:List Nm) (n:Nat):(bM a).take n=bM (a.take n):=by simp [bM]
theorem YS (a:List Nm) (n:Nat):(bM a).drop n=bM (a.drop n):=by simp [bM]
theorem zCo (a b:List Nm):bM a++bM b=bM (a++b):=by simp [bM]
theorem YT (t:List Nm) (n:List UInt8) (i:Int):bM t++[[.s n,.i .i64 i]]=bM (t++[⟨n,i⟩]):=by simp [bM]
theorem zCq (t:List Nm) (k:Nat) (n:List UInt8) (i:Int):(bM t).set k [.s n,.i .i64 i]=bM (t.set k ⟨n,i⟩):=by simp [bM,List.map_set]
theorem zLQ (x:Nm):Nm.mk x.n x.l=x:=rfl
def jP:List (Int × List En)→Int→List En
 | [],_=>[]
 | e::es,n=>if e.1=n then e.2 else jP es n
def pZ:List (Int × List En)→Int→List En→List (Int × List En)
 | [],n,x=>[(n,x)]
 | e::es,n,x=>if e.1=n then (n,x)::es else e::pZ es n x
def oL (l:List (Int × List En)):List (Int × PV):=l.map fun e=>(e.1,.sl 7 (fJ e.2))
theorem zF6:oL []=[]:=rfl
theorem KB:∀ (l:List (Int × List En)) (n:Int),mO (oL l) n (.sl 7 [])=.sl 7 (fJ (jP l n))
 | [],_=>rfl
 | e::es,n=>by
  simp only [oL,List.map_cons,mO,jP];split
  ·rfl
  ·exact KB es n
theorem VM:∀ (l:List (Int × List En)) (n:Int) (x:List En),AO (oL l) n (.sl 7 (fJ x))=oL (pZ l n x)
 | [],_,_=>rfl
 | e::es,n,x=>by
  simp only [oL,List.map_cons,AO,pZ];split
  ·rfl
  ·exact congrArg _ (VM es n x)
theorem rT:∀ (l:List (Int × List En)) (n:Int) (x:List En),jP (pZ l n x) n=x
 | [],n,x=>by simp [pZ,jP]
 | e::es,n,x=>by
  simp only [pZ];split
  ·simp [jP]
  ·rename_i h;simp only [jP];rw [if_neg h];exact rT es n x
theorem oT:∀ (l:List (Int × List En)) {n m:Int} (x:List En),m≠n→jP (pZ l n x) m=jP l m
 | [],n,m,x,h=>by simp [pZ,jP,Ne.symm h]
 | e::es,n,m,x,h=>by
  simp only [pZ];split
  ·rename_i h1;simp only [jP];rw [if_neg (Ne.symm h),if_neg (by rw [h1];exact Ne.symm h)]
  ·simp only [jP];rw [oT es x h]
structure Rm where
 N:List Nm
 L:List Ly
 E:List (Int × List En)
 x:Int
def lR (r:Rm) (id:Int):List (List En):=(bQ r.L id).map (jP r.E)
def FB (r:Rm) (id:Int):List It × Bool:=nD [] (lR r id)
def treeR (r:Rm) (id:Int):List It:=(FB r id).1
theorem YX {r:Rm} (hg:OkG r.L) (T:Int→List It) (h0:T 0=[]) (hok:∀ x∈r.L,OkT (T x.i)) (hE:∀ x∈r.L,jP r.E x.i=fX (T x.p) (T x.i)):∀ (k:Nat) {x:Ly},r.L[k]? = some x→FB r x.i=(T x.i,true):=by
 intro k
 induction k using Nat.strongRecOn with
 | ind k ih =>
  intro x hx;have hm:=List.mem_of_getElem? hx;have key:nD [] ((bQ r.L x.p).map (jP r.E))=(T x.p,true)∧OkT (T x.p):=by
   rcases hg.par k x hx with hp|⟨j,y,h1,h2,h3,_⟩
   ·rw [hp,oI hg.lo1,h0];exact ⟨rfl,OkT.nil⟩
   ·rw [← h3];exact ⟨ih j h1 h2,hok y (List.mem_of_getElem? h2)⟩
  unfold FB lR;rw [hg.step hm,List.map_append,List.map_cons,List.map_nil,BT,key.1,if_pos rfl,hE x hm,zDT key.2 (hok x hm),if_pos rfl]
attribute [go_sem] fC zCp KC YU YS zCo YT zCq zLQ zF6 KB VM
end Go.Dm
end
section
namespace Go.Dm
open Go
section
variable {P:Program} {T:Tab} {X0:Ctx}
structure RInvF (P:Program) (X0:Ctx) (ops:Array Oper) (n:Nat) (chain:List Nat) (f:Nat) (V:Nat→DV) (H:Nat→Bool→aC) (t0:Fr) (L:Array Bool) (X:Ctx) (a:Act):Prop where
 size:L.size=ops.size
 closed:zAX ops L
 hh:X.h=H (chain.filter fun e=>L.getD e false).length (L.getD f false)
 hi:HInv X
 hs:Step X0 X
 sz:a.tmps.size=n
 defs:a.defers=[]
 relA:∀ k j,L.getD k false=true→dD ops k=some j→bA X (V k) (a.tmps.getD j undef)
 relB:∀ j,(∀ k,L.getD k false=true→dD ops k≠some j)→bA X (look t0 j) (a.tmps.getD j undef)
section plan
variable {ops:Array Oper} {n:Nat} {chain order:List Nat}
end plan
end
end Go.Dm
end
