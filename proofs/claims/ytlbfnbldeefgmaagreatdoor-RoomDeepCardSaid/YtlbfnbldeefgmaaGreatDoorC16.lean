/- Part 17 of the proof of roomDeep_card, set without needless blanks. No condition. -/
import Derived.Test.YtlbfnbldeefgmaaGreatDoorC15
set_option linter.all false
section
namespace Go.Dm
open Go
def v2 (h:aB) (R:DV→aB→Prop):DV→DV→Prop
 | .c x,.c y=>R (.tup [.c x,.c y]) h
 | _,_=>False
def zCj (t:Fr) (h:aB) (R:DV→aB→Prop):List ResultVar→Prop
 | [.tmp i,.tmp j]=>v2 h R (look t i) (look t j)
 | _=>False
def zFT (rs:List ResultVar) (R:DV→aB→Prop):Exit→DS→Prop
 | .normal,s=>zCj s.t s.h R rs
 | .ret,s=>zCj s.t s.h R rs
 | _,_=>False
theorem zE4 {rs:List ResultVar} {R:DV→aB→Prop} {s:DS}:zFT rs R .normal s=zCj s.t s.h R rs:=nr rfl
theorem zE5 {rs:List ResultVar} {R:DV→aB→Prop} {s:DS}:zFT rs R .ret s=zCj s.t s.h R rs:=nr rfl
theorem zCk {t:Fr} {h:aB} {R:DV→aB→Prop} {i j:Nat}:zCj t h R [.tmp i,.tmp j]=v2 h R (look t i) (look t j):=nr rfl
theorem v2_c {h:aB} {R:DV→aB→Prop} {x y:CV}:v2 h R (.c x) (.c y)=R (.tup [.c x,.c y]) h:=nr rfl
attribute [go_sem] zE4 zE5 zCk v2_c
def zAW (i n:Nat):Option PV→DV
 | some x=>.c (.p x)
 | none=>.c (.own i 0 n)
theorem CE {X Y:Ctx} {i n:Nat} (hw:Y.w=X.w) (hS:Y.S=X.S) (ho:∀ v,aX X (.c (.own i 0 n)) v→aX Y (.c (.own 0 0 n)) v):∀ {L:List (Option PV)} {vs:List Value},cZ X (L.map (zAW i n)) vs→cZ Y (L.map (zAW 0 n)) vs
 | [],[],_=>True.intro
 | none::_,_::_,h=>⟨ho _ h.1,CE hw hS ho h.2⟩
 | some _::_,_::_,h=>⟨tG (X:=X) (Y:=Y) hw hS rfl h.1,CE hw hS ho h.2⟩
 | [],_::_,h=>h.elim
 | none::_,[],h=>h.elim
 | some _::_,[],h=>h.elim
theorem aA.lent {P:Program} {f:FuncId} {h:aB} {i k n:Nat} {es:List (List PV)} (L:List (Option PV)) {r:DV} {K:DV→aB→Prop}
  (hc:aA P f (L.map (zAW 0 n)) [.arr k es false] fun d h'=>d=r∧h'=[.arr k es false])
  (h0:h[i]? = some (.arr k es false)) (hdr:XJ r=true) (hk:K r h):
  aA P f (L.map (zAW i n)) h K:=by
 intro X vals hh hi gd hr;subst hh;have hlt:=aI h0;have hb0:=hi.blk i _ h0
 let Y:Ctx:=⟨X.w,X.S,fun j=>if j=0 then X.G i else none,[.arr k es false]⟩
 have at0:∀ {id:Nat} {db:DB},Y.h[id]? = some db→id=0∧db=.arr k es false:=fun {id db} h=>by
  cases id with
  | zero=>simp only [Y,List.getElem?_cons_zero,Option.some.injEq] at h;exact ⟨rfl,h.symm⟩
  | succ n=>simp [Y] at h
 have hiY:HInv Y:=by
  refine ⟨hi.slt,fun id db hdb=>?_,fun id db g' hdb hl hg'=>?_,fun id db id' db' g1 g2 hdb _ _ hdb' _ _ _ _=>?_⟩
  ·obtain ⟨rfl,rfl⟩:=at0 hdb;simpa only [dU,Y,if_true] using hb0
  ·obtain ⟨rfl,rfl⟩:=at0 hdb;have hg2:X.G i=some g':=by simpa [Y] using hg'
   exact hi.own i _ g' h0 rfl hg2
  ·obtain ⟨rfl,_⟩:=at0 hdb;obtain ⟨rfl,_⟩:=at0 hdb';rfl
 have hrY:cZ Y (L.map (zAW 0 n)) vals:=CE (X:=X) (Y:=Y) rfl rfl (fun v hv=>by
  simp only [aX,bP] at hv ⊢;obtain ⟨_,hv1,hv2⟩:=hv;refine ⟨by simp [Y],hv1,fun k' es' ro' he=>?_⟩
  obtain ⟨_,e⟩:=at0 he;cases e;have:=hv2 _ _ _ h0;simpa only [Y,if_true] using this) hr
 have key:∀ v w',Ret Y (fun d h'=>d=r∧h'=[.arr k es false]) v w'→Ret X K v w':=by
  rintro v w' ⟨d,Z,h1,h2,h3,h4,rfl,h5⟩;have hZ0:Z.h[0]? = some (.arr k es false):=by rw [h5];rfl
  obtain ⟨db,e1,e2,e3,e4⟩:=h3.ids 0 _ (by simp [Y]) hZ0 rfl;have hGZ:Z.G 0=X.G i:=by simpa [Y] using e3
  have e4:∀ g,X.G i=some g→qR (X.w.heap[g.1]?) (Z.w.heap[g.1]?):=fun g hg=>e4 g (by simpa [Y] using hg);have hfr:∀ b,b<X.w.heap.size→(∀ g,X.G i=some g→b≠g.1)→Z.w.heap[b]? = X.w.heap[b]? := fun b hb hne=>h3.frame b hb fun id db g' hdb hl hf hg'=>by
   obtain ⟨rfl,_⟩:=at0 hdb;have hg2:X.G i=some g':=by simpa [Y] using hg'
   exact fun e=>hne g' hg2 e.symm
  have apart:∀ {id:Nat} {db:DB} {g':Nat × Nat},id≠i→X.h[id]? = some db→db.live=true→X.G id=some g'→∀ g,X.G i=some g→g'.1≠g.1:=fun {id db g'} hne h' hl hg' g hg e=>hne (hi.inj i _ id db g g' h0 rfl rfl h' hl hg hg' e.symm).symm;have hst:Step X ⟨Z.w,Z.S,X.G,X.h⟩:=by
   refine ⟨h3.size,h3.os,h3.tape,h3.output,h3.kept,Nat.le_refl _,fun id db' hl' hdb' hlv=>⟨db',hdb',bX.refl hlv,rfl,fun g' hg'=>?_⟩,fun b hb hno=>hfr b hb fun g hg e=>hno i _ g h0 rfl rfl hg e.symm,fun id db g' hdb hl hf hg'=>.inr ⟨id,db,g',hdb,hl,hf,hg',rfl⟩,fun b hb=>?_⟩
   ·by_cases hne:id=i
    ·subst hne;exact e4 g' hg'
    ·rw [show Z.w.heap[g'.1]? = X.w.heap[g'.1]? from hfr _ (hi.block_lt hdb' hlv hg') (apart hne hdb' hlv hg')]
     exact (hi.blk id db' hdb').same hlv g' hg'
   ·rcases h3.upper b hb with h|h|⟨id,db,g',hdb,hl,hg',e⟩
    ·exact .inl h
    ·exact .inr (.inl h)
    ·obtain ⟨rfl,_⟩:=at0 hdb;have hg2:X.G i=some g':=by simpa [Y] using hg'
     exact .inr (.inr ⟨i,_,g',h0,rfl,hg2,e⟩)
  refine ⟨d,⟨Z.w,Z.S,X.G,X.h⟩,h1,⟨h2.slt,fun id db hdb=>?_,fun id db g' hdb hl hg'=>?_,fun id db id' db' g1 g2 hdb hl hf hdb' hl' hg1 hg2 he=>hi.inj id db id' db' g1 g2 hdb hl hf hdb' hl' hg1 hg2 he⟩,hst,KN hdr h4,hk⟩
  ·by_cases hne:id=i
   ·subst hne;have hdb2:X.h[id]? = some db:=hdb;rw [h0] at hdb2;cases hdb2;have:=h2.blk 0 _ hZ0;simp only [dU,hGZ] at this ⊢;exact this
   ·by_cases hl:db.live=true
    ·exact (hi.blk id db hdb).move hst rfl fun g' hg'=>hfr _ (hi.block_lt hdb hl hg') (apart hne hdb hl hg')
    ·cases db with
     | dead=>simp only [dU]
     | box _=>exact absurd rfl hl
     | arr _ _ _=>exact absurd rfl hl
     | mp _=>exact absurd rfl hl
  ·by_cases hne:id=i
   ·subst hne;have hdb2:X.h[id]? = some db:=hdb;rw [h0] at hdb2;cases hdb2;exact h2.own 0 _ g' hZ0 rfl (by rw [hGZ];exact hg')
   ·have ho:=hi.own id db g' hdb hl hg';refine ⟨fun hf hS=>?_,fun hf=>(h3.kept _ (ho.2 hf)).1⟩;rcases h3.upper _ hS with h|h|⟨j,d',g2,hdb2,hl2,hg2,e⟩
    ·exact ho.1 hf h
    ·have:=hi.block_lt hdb hl hg';have hYw:Y.w.heap.size=X.w.heap.size:=rfl;omega
    ·obtain ⟨rfl,_⟩:=at0 hdb2;have hg3:X.G i=some g2:=by simpa [Y] using hg2
     exact apart hne hdb hl hg' g2 hg3 e.symm
 have gdY:Gnd P Y:=gd;rcases hc Y _ rfl hiY gdY hrY with ⟨h1,h2⟩|⟨v,w',h1,h2⟩
 ·exact .inl ⟨h1,h2.mono fun e w' ⟨v,he,hv⟩=>⟨v,he,key v w' hv⟩⟩
 ·exact .inr ⟨v,w',h1,key v w' h2⟩
theorem aA.wkA {P:Program} {f:FuncId} {args args':List DV} {h:aB} {R:DV→aB→Prop} (hw:zCB args args') (hc:aA P f args' h R):aA P f args h R :=
 fun X vals hh hi gd hr=>hc X vals hh hi gd (zCB.rel hw hr)
end Go.Dm
end
section
set_option maxRecDepth 100000
namespace Go.Dm
open Go
def qH:PV→Bool
 | .sl _ _=>false
 | _=>true
def VF:CV→Bool
 | .p x=>qH x
 | _=>false
def zHf:EV→Bool
 | .c x=>VF x
 | .agg xs=>xs.all VF
def zBP:DV→Bool
 | .c x=>VF x
 | .tup xs=>xs.all zHf
 | _=>false
theorem wY {w w':World} {S S':Nat→Prop} {x:PV} {v:Value} (hs:qH x=true) (h:cN w S x v):cN w' S' x v:=by
 cases x <;> simp only [qH,Bool.false_eq_true] at hs <;> exact h
theorem wW {X Y:Ctx} {x:CV} {v:Value} (hs:VF x=true) (h:bP X x v):bP Y x v:=by
 cases x <;> simp only [VF,Bool.false_eq_true] at hs;exact wY hs h
theorem zX {X Y:Ctx}:∀ {xs:List CV} {vs:List Value},xs.all VF=true→aY X xs vs→aY Y xs vs
 | [],[],_,_=>True.intro
 | x::xs,v::vs,hs,h=>by
  simp only [List.all_cons,Bool.and_eq_true] at hs;exact ⟨wW hs.1 h.1,zX hs.2 h.2⟩
 | [],_::_,_,h=>h.elim
 | _::_,[],_,h=>h.elim
theorem zBR {X Y:Ctx} {x:EV} {v:Value} (hs:zHf x=true) (h:dL X x v):dL Y x v:=by
 cases x with
 | c x=>exact wW hs h
 | agg xs=>obtain ⟨vs,h1,h2⟩:=h;exact ⟨vs,h1,zX hs h2⟩
theorem zY {X Y:Ctx}:∀ {xs:List EV} {vs:List Value},xs.all zHf=true→cA X xs vs→cA Y xs vs
 | [],[],_,_=>True.intro
 | x::xs,v::vs,hs,h=>by
  simp only [List.all_cons,Bool.and_eq_true] at hs;exact ⟨zBR hs.1 h.1,zY hs.2 h.2⟩
 | [],_::_,_,h=>h.elim
 | _::_,[],_,h=>h.elim
theorem zBQ {X Y:Ctx} {x:DV} {v:Value} (hs:zBP x=true) (h:aX X x v):aX Y x v:=by
 cases x with
 | jk=>cases hs
 | c x=>exact wW hs h
 | agg xs=>cases hs
 | tup xs=>obtain ⟨vs,h1,h2⟩:=h;exact ⟨vs,h1,zY hs h2⟩
def zAU:CV→Bool
 | .p _=>true
 | .clo _ []=>true
 | _=>false
def GP:DV→Bool
 | .c x=>zAU x
 | .agg xs=>xs.all zAU
 | _=>false
theorem GO {X Y:Ctx} (hk:Kept X.w Y.w X.S Y.S) {x:CV} {v:Value} (hs:zAU x=true) (h:bP X x v):bP Y x v:=by
 cases x <;> simp only [zAU,Bool.false_eq_true] at hs
 case p=>exact cN.kept hk h
 case clo f cap =>
  cases cap with
  | nil =>
   obtain ⟨vs,h1,h2⟩:=h;cases vs with
   | nil=>exact ⟨[],h1,True.intro⟩
   | cons _ _=>exact h2.elim
  | cons _ _=>cases hs
theorem yX {X Y:Ctx} (hk:Kept X.w Y.w X.S Y.S):∀ {xs:List CV} {vs:List Value},xs.all zAU=true→aY X xs vs→aY Y xs vs
 | [],[],_,_=>True.intro
 | x::xs,v::vs,hs,h=>by
  simp only [List.all_cons,Bool.and_eq_true] at hs;exact ⟨GO hk hs.1 h.1,yX hk hs.2 h.2⟩
 | [],_::_,_,h=>h.elim
 | _::_,[],_,h=>h.elim
theorem zAV {X Y:Ctx} (hk:Kept X.w Y.w X.S Y.S) {x:DV} {v:Value} (hs:GP x=true) (h:aX X x v):aX Y x v:=by
 cases x with
 | jk=>cases hs
 | c x=>exact GO hk hs h
 | agg xs=>obtain ⟨vs,h1,h2⟩:=h;exact ⟨vs,h1,yX hk hs h2⟩
 | tup xs=>cases hs
def zJ3 (i n:Nat):Option DV→DV
 | some d=>d
 | none=>.c (.own i 0 n)
def zI0 (k:Nat) (es:List (List PV)):Option DV→DV
 | some d=>d
 | none=>.c (.p (.sl k es))
theorem tM {X Y:Ctx} (hk:Kept X.w Y.w X.S Y.S) {i n k:Nat} {es:List (List PV)} (ho:∀ v,aX X (.c (.own i 0 n)) v→aX Y (.c (.p (.sl k es))) v):
  ∀ {L:List (Option DV)} {vs:List Value},(∀ d,some d∈L→GP d=true)→cZ X (L.map (zJ3 i n)) vs→cZ Y (L.map (zI0 k es)) vs
 | [],[],_,_=>True.intro
 | none::_,_::_,hL,h=>⟨ho _ h.1,tM hk ho (fun d hd=>hL d (List.mem_cons_of_mem _ hd)) h.2⟩
 | some _::_,_::_,hL,h=>⟨zAV hk (hL _ List.mem_cons_self) h.1,tM hk ho (fun d hd=>hL d (List.mem_cons_of_mem _ hd)) h.2⟩
 | [],_::_,_,h=>h.elim
 | none::_,[],_,h=>h.elim
 | some _::_,[],_,h=>h.elim
theorem aA.lend {P:Program} {f:FuncId} {h:aB} {i k n:Nat} {es:List (List PV)} (L:List (Option DV)) {R:DV→Prop} {K:DV→aB→Prop} (hL:∀ d,some d∈L→GP d=true)
  (hc:aA P f (L.map (zI0 k (es.take n))) [] fun d h'=>R d∧h'=[]) (h0:h[i]? = some (.arr k es false)) (hk:∀ d,R d→zBP d=true∧K d h):
  aA P f (L.map (zJ3 i n)) h K:=by
 intro X vals hh hi gd hr;subst hh;have hb0:=hi.blk i _ h0
 let Y:Ctx:=⟨X.w,fun b=>X.S b∨∃ g,X.G i=some g∧b=g.1,fun _=>none,[]⟩
 have hiY:HInv Y:=⟨fun b hb=>by
  rcases hb with hb|⟨g,hg,rfl⟩
  ·exact hi.slt b hb
  ·exact hi.block_lt h0 rfl hg,fun id db hdb=>by simp [Y] at hdb,fun id db g hdb=>by simp [Y] at hdb,fun id db id' db' g1 g2 hdb=>by simp [Y] at hdb⟩
 have hkp:Kept X.w Y.w X.S Y.S:=fun b hb=>⟨.inl hb,rfl⟩;have gdY:Gnd P Y:=by
  obtain ⟨W0,g1,g2⟩:=gd;exact ⟨W0,g1,fun b hb=>⟨.inl (g2 b hb).1,(g2 b hb).2⟩⟩
 have hrY:cZ Y (L.map (zI0 k (es.take n))) vals:=tM hkp (fun v hv=>by
  obtain ⟨_,_,hv⟩:=hv;obtain ⟨hv1,hv2⟩:=hv _ _ _ h0;have hln:(es.take n).length=n:=by rw [List.length_take];omega
  simp only [aX,bP,cN];cases hg:X.G i with
  | none =>
   rw [hg] at hv2;rcases hb0 with ⟨_,rfl⟩|⟨g',_,_,_,hq,_⟩
   ·simp only [List.take_nil] at hln ⊢;exact ⟨none,0,hv2,Nat.le_refl _,.inl trivial⟩
   ·rw [hg] at hq;cases hq
  | some g =>
   rw [hg] at hv2;obtain ⟨cap,o,arr,el,fz,q1,q2,q3,q4,q5,q6⟩:=hv2;refine ⟨some ⟨g.1,o,none⟩,cap,by rw [hln];exact q2,by omega,?_⟩
   by_cases hn:n=0
   ·subst hn;exact .inl List.take_zero
   ·right;have ho:o=g.2:=by rcases q3 with q3|q3 <;> omega
    subst ho;refine ⟨g.1,g.2,rfl,.inr ⟨g,hg,rfl⟩,?_⟩;rcases hb0 with ⟨hq,_⟩|⟨g',arr',el',fz',p1,p2,p3,p4,p5⟩
    ·rw [hg] at hq;cases hq
    ·rw [hg] at p1;cases p1;exact (p5.take n).move hkp rfl) hL hr
 have key:∀ v w',Ret Y (fun d h'=>R d∧h'=[]) v w'→Ret X K v w':=by
  rintro v w' ⟨d,Z,h1,h2,h3,h4,h5,h6⟩;obtain ⟨hs,hK⟩:=hk d h5;have hfr:∀ b,b<X.w.heap.size→Z.w.heap[b]? = X.w.heap[b]? := fun b hb=>h3.frame b hb fun id db g hdb=>by simp [Y] at hdb
  have hno:∀ g,X.G i=some g→¬ X.S g.1:=fun g hg=>(hi.own i _ g h0 rfl hg).1 rfl
  let Z':Ctx:=⟨Z.w,fun b=>Z.S b∧∀ g,X.G i=some g→b≠g.1,X.G,X.h⟩
  have hst:Step X Z':=by
   refine ⟨h3.size,h3.os,h3.tape,h3.output,fun b hb=>⟨⟨(h3.kept b (.inl hb)).1,fun g hg e=>hno g hg (e▸hb)⟩,(h3.kept b (.inl hb)).2⟩,Nat.le_refl _,fun id db' hl' hdb' hlv=>⟨db',hdb',bX.refl hlv,rfl,fun g' hg'=>?_⟩,fun b hb _=>hfr b hb,fun id db g' hdb hl hf hg'=>.inr ⟨id,db,g',hdb,hl,hf,hg',rfl⟩,fun b hb=>?_⟩
   ·rw [show Z'.w.heap[g'.1]? = X.w.heap[g'.1]? from hfr _ (hi.block_lt hdb' hlv hg')]
    exact (hi.blk id db' hdb').same hlv g' hg'
   ·obtain ⟨hb1,hb2⟩:=hb;rcases h3.upper b hb1 with h|h|⟨id,db,g',hdb,_⟩
    ·rcases h with h|⟨g,hg,e⟩
     ·exact .inl h
     ·exact absurd e (hb2 g hg)
    ·exact .inr (.inl h)
    ·simp [Y] at hdb
  have hi':HInv Z':=by
   refine ⟨fun b hb=>h2.slt b hb.1,fun id db hdb=>?_,fun id db g' hdb hl hg'=>?_,fun id db id' db' g1 g2 hdb hl hf hdb' hl' hg1 hg2 he=>hi.inj id db id' db' g1 g2 hdb hl hf hdb' hl' hg1 hg2 he⟩
   ·by_cases hl:db.live=true
    ·exact (hi.blk id db hdb).move hst rfl fun g' hg'=>hfr _ (hi.block_lt hdb hl hg')
    ·cases db with
     | dead=>simp only [dU]
     | box _=>exact absurd rfl hl
     | arr _ _ _=>exact absurd rfl hl
     | mp _=>exact absurd rfl hl
   ·have ho:=hi.own id db g' hdb hl hg';refine ⟨fun hf hS=>?_,fun hf=>⟨(h3.kept _ (.inl (ho.2 hf))).1,fun g hg e=>hno g hg (e▸ho.2 hf)⟩⟩;rcases h3.upper _ hS.1 with h|h|⟨j,d',g2,hdb2,_⟩
    ·rcases h with h|⟨g,hg,e⟩
     ·exact ho.1 hf h
     ·exact hS.2 g hg e
    ·have:=hi.block_lt hdb hl hg';have hYw:Y.w.heap.size=X.w.heap.size:=rfl;omega
    ·simp [Y] at hdb2
  exact ⟨d,Z',h1,hi',hst,zBQ hs h4,hK⟩
 rcases hc Y _ rfl hiY gdY hrY with ⟨h1,h2⟩|⟨v,w',h1,h2⟩
 ·exact .inl ⟨h1,h2.mono fun e w' ⟨v,he,hv⟩=>⟨v,he,key v w' hv⟩⟩
 ·exact .inr ⟨v,w',h1,key v w' h2⟩
theorem zKm {P:Program} {f:FuncId} {h:aB} {i k n:Nat} {es es0:List (List PV)} {R:DV→Prop} {K:DV→aB→Prop} (hes:es.take n=es0)
  (hc:aA P f [.c (.p (.sl k es0))] [] fun d h'=>R d∧h'=[]) (h0:h[i]? = some (.arr k es false)) (hk:∀ d,R d→zBP d=true∧K d h):aA P f [.c (.own i 0 n)] h K:=by
 subst hes;exact aA.lend [none] (by simp) hc h0 hk
theorem VS {P:Program} {f:FuncId} {h:aB} {i k n:Nat} {es es0:List (List PV)} {x:DV} {R:DV→Prop} {K:DV→aB→Prop} (hx:GP x=true) (hes:es.take n=es0)
  (hc:aA P f [.c (.p (.sl k es0)),x] [] fun d h'=>R d∧h'=[]) (h0:h[i]? = some (.arr k es false)) (hk:∀ d,R d→zBP d=true∧K d h):aA P f [.c (.own i 0 n),x] h K:=by
 subst hes;exact aA.lend [none,some x] (by simpa using hx) hc h0 hk
theorem zJa {P:Program} {f:FuncId} {h:aB} {i k n:Nat} {es es0:List (List PV)} {x y:DV} {R:DV→Prop} {K:DV→aB→Prop} (hx:GP x=true) (hy:GP y=true) (hes:es.take n=es0)
  (hc:aA P f [.c (.p (.sl k es0)),x,y] [] fun d h'=>R d∧h'=[]) (h0:h[i]? = some (.arr k es false)) (hk:∀ d,R d→zBP d=true∧K d h):aA P f [.c (.own i 0 n),x,y] h K:=by
 subst hes;exact aA.lend [none,some x,some y] (by
  intro d hd;simp only [List.mem_cons,Option.some.injEq,List.not_mem_nil,or_false,reduceCtorEq,false_or] at hd;rcases hd with rfl|rfl
  ·exact hx
  ·exact hy) hc h0 hk
end Go.Dm
end
