/- Part 18 of the proof of roomAsks_card, set without needless blanks. No condition. -/
import Derived.Test.YtlbfnbldeefgmaaGreatDoorA16
set_option linter.all false
section
namespace Go.Dm
open Go
def v2 (h:aC) (R:DV→aC→Prop):DV→DV→Prop
 | .c x,.c y=>R (.tup [.c x,.c y]) h
 | _,_=>False
def zEY (t:Fr) (h:aC) (R:DV→aC→Prop):List ResultVar→Prop
 | [.tmp i,.tmp j]=>v2 h R (look t i) (look t j)
 | _=>False
def zIG (rs:List ResultVar) (R:DV→aC→Prop):Exit→DS→Prop
 | .normal,s=>zEY s.t s.h R rs
 | .ret,s=>zEY s.t s.h R rs
 | _,_=>False
theorem zHQ {rs:List ResultVar} {R:DV→aC→Prop} {s:DS}:zIG rs R .normal s=zEY s.t s.h R rs:=nr rfl
theorem zHR {rs:List ResultVar} {R:DV→aC→Prop} {s:DS}:zIG rs R .ret s=zEY s.t s.h R rs:=nr rfl
theorem zEZ {t:Fr} {h:aC} {R:DV→aC→Prop} {i j:Nat}:zEY t h R [.tmp i,.tmp j]=v2 h R (look t i) (look t j):=nr rfl
theorem v2_c {h:aC} {R:DV→aC→Prop} {x y:CV}:v2 h R (.c x) (.c y)=R (.tup [.c x,.c y]) h:=nr rfl
attribute [go_sem] zHQ zHR zEZ v2_c
def zDs (i n:Nat):Option PV→DV
 | some x=>.c (.p x)
 | none=>.c (.own i 0 n)
theorem FT {X Y:Ctx} {i n:Nat} (hw:Y.w=X.w) (hS:Y.S=X.S) (ho:∀ v,bA X (.c (.own i 0 n)) v→bA Y (.c (.own 0 0 n)) v):∀ {L:List (Option PV)} {vs:List Value},dC X (L.map (zDs i n)) vs→dC Y (L.map (zDs 0 n)) vs
 | [],[],_=>True.intro
 | none::_,_::_,h=>⟨ho _ h.1,FT hw hS ho h.2⟩
 | some _::_,_::_,h=>⟨vW (X:=X) (Y:=Y) hw hS rfl h.1,FT hw hS ho h.2⟩
 | [],_::_,h=>h.elim
 | none::_,[],h=>h.elim
 | some _::_,[],h=>h.elim
theorem aA.lent {P:Program} {f:FuncId} {h:aC} {i k n:Nat} {es:List (List PV)} (L:List (Option PV)) {r:DV} {K:DV→aC→Prop}
  (hc:aA P f (L.map (zDs 0 n)) [.arr k es false] fun d h'=>d=r∧h'=[.arr k es false])
  (h0:h[i]? = some (.arr k es false)) (hdr:zBu r=true) (hk:K r h):
  aA P f (L.map (zDs i n)) h K:=by
 intro X vals hh hi gd hr;subst hh;have hlt:=aM h0;have hb0:=hi.blk i _ h0
 let Y:Ctx:=⟨X.w,X.S,fun j=>if j=0 then X.G i else none,[.arr k es false]⟩
 have at0:∀ {id:Nat} {db:DB},Y.h[id]? = some db→id=0∧db=.arr k es false:=fun {id db} h=>by
  cases id with
  | zero=>simp only [Y,List.getElem?_cons_zero,Option.some.injEq] at h;exact ⟨rfl,h.symm⟩
  | succ n=>simp [Y] at h
 have hiY:HInv Y:=by
  refine ⟨hi.slt,fun id db hdb=>?_,fun id db g' hdb hl hg'=>?_,fun id db id' db' g1 g2 hdb _ _ hdb' _ _ _ _=>?_⟩
  ·obtain ⟨rfl,rfl⟩:=at0 hdb;simpa only [dU,Y,if_true] using hb0
  ·obtain ⟨rfl,rfl⟩:=at0 hdb;have hg2:X.G i=some g':=by simpa [Y] using hg'
   exact hi.own i _ g' h0 rfl hg2
  ·obtain ⟨rfl,_⟩:=at0 hdb;obtain ⟨rfl,_⟩:=at0 hdb';rfl
 have hrY:dC Y (L.map (zDs 0 n)) vals:=FT (X:=X) (Y:=Y) rfl rfl (fun v hv=>by
  simp only [bA,bS] at hv ⊢;obtain ⟨_,hv1,hv2⟩:=hv;refine ⟨by simp [Y],hv1,fun k' es' ro' he=>?_⟩
  obtain ⟨_,e⟩:=at0 he;cases e;have:=hv2 _ _ _ h0;simpa only [Y,if_true] using this) hr
 have key:∀ v w',Ret Y (fun d h'=>d=r∧h'=[.arr k es false]) v w'→Ret X K v w':=by
  rintro v w' ⟨d,Z,h1,h2,h3,h4,rfl,h5⟩;have hZ0:Z.h[0]? = some (.arr k es false):=by rw [h5];rfl
  obtain ⟨db,e1,e2,e3,e4⟩:=h3.ids 0 _ (by simp [Y]) hZ0 rfl;have hGZ:Z.G 0=X.G i:=by simpa [Y] using e3
  have e4:∀ g,X.G i=some g→sR (X.w.heap[g.1]?) (Z.w.heap[g.1]?):=fun g hg=>e4 g (by simpa [Y] using hg);have hfr:∀ b,b<X.w.heap.size→(∀ g,X.G i=some g→b≠g.1)→Z.w.heap[b]? = X.w.heap[b]? := fun b hb hne=>h3.frame b hb fun id db g' hdb hl hf hg'=>by
   obtain ⟨rfl,_⟩:=at0 hdb;have hg2:X.G i=some g':=by simpa [Y] using hg'
   exact fun e=>hne g' hg2 e.symm
  have apart:∀ {id:Nat} {db:DB} {g':Nat × Nat},id≠i→X.h[id]? = some db→db.live=true→X.G id=some g'→∀ g,X.G i=some g→g'.1≠g.1:=fun {id db g'} hne h' hl hg' g hg e=>hne (hi.inj i _ id db g g' h0 rfl rfl h' hl hg hg' e.symm).symm;have hst:Step X ⟨Z.w,Z.S,X.G,X.h⟩:=by
   refine ⟨h3.size,h3.os,h3.tape,h3.output,h3.kept,Nat.le_refl _,fun id db' hl' hdb' hlv=>⟨db',hdb',cD.refl hlv,rfl,fun g' hg'=>?_⟩,fun b hb hno=>hfr b hb fun g hg e=>hno i _ g h0 rfl rfl hg e.symm,fun id db g' hdb hl hf hg'=>.inr ⟨id,db,g',hdb,hl,hf,hg',rfl⟩,fun b hb=>?_⟩
   ·by_cases hne:id=i
    ·subst hne;exact e4 g' hg'
    ·rw [show Z.w.heap[g'.1]? = X.w.heap[g'.1]? from hfr _ (hi.block_lt hdb' hlv hg') (apart hne hdb' hlv hg')]
     exact (hi.blk id db' hdb').same hlv g' hg'
   ·rcases h3.upper b hb with h|h|⟨id,db,g',hdb,hl,hg',e⟩
    ·exact .inl h
    ·exact .inr (.inl h)
    ·obtain ⟨rfl,_⟩:=at0 hdb;have hg2:X.G i=some g':=by simpa [Y] using hg'
     exact .inr (.inr ⟨i,_,g',h0,rfl,hg2,e⟩)
  refine ⟨d,⟨Z.w,Z.S,X.G,X.h⟩,h1,⟨h2.slt,fun id db hdb=>?_,fun id db g' hdb hl hg'=>?_,fun id db id' db' g1 g2 hdb hl hf hdb' hl' hg1 hg2 he=>hi.inj id db id' db' g1 g2 hdb hl hf hdb' hl' hg1 hg2 he⟩,hst,QE hdr h4,hk⟩
  ·by_cases hne:id=i
   ·subst hne;have hdb2:X.h[id]? = some db:=hdb;rw [h0] at hdb2;cases hdb2;have:=h2.blk 0 _ hZ0;simp only [dU,hGZ] at this ⊢;exact this
   ·by_cases hl:db.live=true
    ·exact (hi.blk id db hdb).move hst rfl fun g' hg'=>hfr _ (hi.block_lt hdb hl hg') (apart hne hdb hl hg')
    ·cases db with
     | dead=>simp only [dU]
     | box _=>exact absurd rfl hl
     | arr _ _ _=>exact absurd rfl hl
     | mp _=>exact absurd rfl hl
  ·by_cases hne:id=i
   ·subst hne;have hdb2:X.h[id]? = some db:=hdb;rw [h0] at hdb2;cases hdb2;exact h2.own 0 _ g' hZ0 rfl (by rw [hGZ];exact hg')
   ·have ho:=hi.own id db g' hdb hl hg';refine ⟨fun hf hS=>?_,fun hf=>(h3.kept _ (ho.2 hf)).1⟩;rcases h3.upper _ hS with h|h|⟨j,d',g2,hdb2,hl2,hg2,e⟩
    ·exact ho.1 hf h
    ·have:=hi.block_lt hdb hl hg';have hYw:Y.w.heap.size=X.w.heap.size:=rfl;omega
    ·obtain ⟨rfl,_⟩:=at0 hdb2;have hg3:X.G i=some g2:=by simpa [Y] using hg2
     exact apart hne hdb hl hg' g2 hg3 e.symm
 have gdY:Gnd P Y:=gd;rcases hc Y _ rfl hiY gdY hrY with ⟨h1,h2⟩|⟨v,w',h1,h2⟩
 ·exact .inl ⟨h1,h2.mono fun e w' ⟨v,he,hv⟩=>⟨v,he,key v w' hv⟩⟩
 ·exact .inr ⟨v,w',h1,key v w' h2⟩
theorem aA.wkA {P:Program} {f:FuncId} {args args':List DV} {h:aC} {R:DV→aC→Prop} (hw:zE8 args args') (hc:aA P f args' h R):aA P f args h R :=
 fun X vals hh hi gd hr=>hc X vals hh hi gd (zE8.rel hw hr)
end Go.Dm
end
section
set_option maxRecDepth 100000
namespace Go.Dm
open Go
def sF:PV→Bool
 | .sl _ _=>false
 | _=>true
def zAA:CV→Bool
 | .p x=>sF x
 | _=>false
def zJ5:EV→Bool
 | .c x=>zAA x
 | .agg xs=>xs.all zAA
def zEr:DV→Bool
 | .c x=>zAA x
 | .tup xs=>xs.all zJ5
 | _=>false
theorem zU {w w':World} {S S':Nat→Prop} {x:PV} {v:Value} (hs:sF x=true) (h:cT w S x v):cT w' S' x v:=by
 cases x <;> simp only [sF,Bool.false_eq_true] at hs <;> exact h
theorem zS {X Y:Ctx} {x:CV} {v:Value} (hs:zAA x=true) (h:bS X x v):bS Y x v:=by
 cases x <;> simp only [zAA,Bool.false_eq_true] at hs;exact zU hs h
theorem DE {X Y:Ctx}:∀ {xs:List CV} {vs:List Value},xs.all zAA=true→bB X xs vs→bB Y xs vs
 | [],[],_,_=>True.intro
 | x::xs,v::vs,hs,h=>by
  simp only [List.all_cons,Bool.and_eq_true] at hs;exact ⟨zS hs.1 h.1,DE hs.2 h.2⟩
 | [],_::_,_,h=>h.elim
 | _::_,[],_,h=>h.elim
theorem zEt {X Y:Ctx} {x:EV} {v:Value} (hs:zJ5 x=true) (h:dN X x v):dN Y x v:=by
 cases x with
 | c x=>exact zS hs h
 | agg xs=>obtain ⟨vs,h1,h2⟩:=h;exact ⟨vs,h1,DE hs h2⟩
theorem DF {X Y:Ctx}:∀ {xs:List EV} {vs:List Value},xs.all zJ5=true→cG X xs vs→cG Y xs vs
 | [],[],_,_=>True.intro
 | x::xs,v::vs,hs,h=>by
  simp only [List.all_cons,Bool.and_eq_true] at hs;exact ⟨zEt hs.1 h.1,DF hs.2 h.2⟩
 | [],_::_,_,h=>h.elim
 | _::_,[],_,h=>h.elim
theorem zEs {X Y:Ctx} {x:DV} {v:Value} (hs:zEr x=true) (h:bA X x v):bA Y x v:=by
 cases x with
 | jk=>cases hs
 | c x=>exact zS hs h
 | agg xs=>cases hs
 | tup xs=>obtain ⟨vs,h1,h2⟩:=h;exact ⟨vs,h1,DF hs h2⟩
def zDq:CV→Bool
 | .p _=>true
 | .clo _ []=>true
 | _=>false
def LH:DV→Bool
 | .c x=>zDq x
 | .agg xs=>xs.all zDq
 | _=>false
theorem LG {X Y:Ctx} (hk:Kept X.w Y.w X.S Y.S) {x:CV} {v:Value} (hs:zDq x=true) (h:bS X x v):bS Y x v:=by
 cases x <;> simp only [zDq,Bool.false_eq_true] at hs
 case p=>exact cT.kept hk h
 case clo f cap =>
  cases cap with
  | nil =>
   obtain ⟨vs,h1,h2⟩:=h;cases vs with
   | nil=>exact ⟨[],h1,True.intro⟩
   | cons _ _=>exact h2.elim
  | cons _ _=>cases hs
theorem CE {X Y:Ctx} (hk:Kept X.w Y.w X.S Y.S):∀ {xs:List CV} {vs:List Value},xs.all zDq=true→bB X xs vs→bB Y xs vs
 | [],[],_,_=>True.intro
 | x::xs,v::vs,hs,h=>by
  simp only [List.all_cons,Bool.and_eq_true] at hs;exact ⟨LG hk hs.1 h.1,CE hk hs.2 h.2⟩
 | [],_::_,_,h=>h.elim
 | _::_,[],_,h=>h.elim
theorem zDr {X Y:Ctx} (hk:Kept X.w Y.w X.S Y.S) {x:DV} {v:Value} (hs:LH x=true) (h:bA X x v):bA Y x v:=by
 cases x with
 | jk=>cases hs
 | c x=>exact LG hk hs h
 | agg xs=>obtain ⟨vs,h1,h2⟩:=h;exact ⟨vs,h1,CE hk hs h2⟩
 | tup xs=>cases hs
def zM7 (i n:Nat):Option DV→DV
 | some d=>d
 | none=>.c (.own i 0 n)
def zL2 (k:Nat) (es:List (List PV)):Option DV→DV
 | some d=>d
 | none=>.c (.p (.sl k es))
theorem wE {X Y:Ctx} (hk:Kept X.w Y.w X.S Y.S) {i n k:Nat} {es:List (List PV)} (ho:∀ v,bA X (.c (.own i 0 n)) v→bA Y (.c (.p (.sl k es))) v):
  ∀ {L:List (Option DV)} {vs:List Value},(∀ d,some d∈L→LH d=true)→dC X (L.map (zM7 i n)) vs→dC Y (L.map (zL2 k es)) vs
 | [],[],_,_=>True.intro
 | none::_,_::_,hL,h=>⟨ho _ h.1,wE hk ho (fun d hd=>hL d (List.mem_cons_of_mem _ hd)) h.2⟩
 | some _::_,_::_,hL,h=>⟨zDr hk (hL _ List.mem_cons_self) h.1,wE hk ho (fun d hd=>hL d (List.mem_cons_of_mem _ hd)) h.2⟩
 | [],_::_,_,h=>h.elim
 | none::_,[],_,h=>h.elim
 | some _::_,[],_,h=>h.elim
theorem aA.lend {P:Program} {f:FuncId} {h:aC} {i k n:Nat} {es:List (List PV)} (L:List (Option DV)) {R:DV→Prop} {K:DV→aC→Prop} (hL:∀ d,some d∈L→LH d=true)
  (hc:aA P f (L.map (zL2 k (es.take n))) [] fun d h'=>R d∧h'=[]) (h0:h[i]? = some (.arr k es false)) (hk:∀ d,R d→zEr d=true∧K d h):
  aA P f (L.map (zM7 i n)) h K:=by
 intro X vals hh hi gd hr;subst hh;have hb0:=hi.blk i _ h0
 let Y:Ctx:=⟨X.w,fun b=>X.S b∨∃ g,X.G i=some g∧b=g.1,fun _=>none,[]⟩
 have hiY:HInv Y:=⟨fun b hb=>by
  rcases hb with hb|⟨g,hg,rfl⟩
  ·exact hi.slt b hb
  ·exact hi.block_lt h0 rfl hg,fun id db hdb=>by simp [Y] at hdb,fun id db g hdb=>by simp [Y] at hdb,fun id db id' db' g1 g2 hdb=>by simp [Y] at hdb⟩
 have hkp:Kept X.w Y.w X.S Y.S:=fun b hb=>⟨.inl hb,rfl⟩;have gdY:Gnd P Y:=by
  obtain ⟨W0,g1,g2⟩:=gd;exact ⟨W0,g1,fun b hb=>⟨.inl (g2 b hb).1,(g2 b hb).2⟩⟩
 have hrY:dC Y (L.map (zL2 k (es.take n))) vals:=wE hkp (fun v hv=>by
  obtain ⟨_,_,hv⟩:=hv;obtain ⟨hv1,hv2⟩:=hv _ _ _ h0;have hln:(es.take n).length=n:=by rw [List.length_take];omega
  simp only [bA,bS,cT];cases hg:X.G i with
  | none =>
   rw [hg] at hv2;rcases hb0 with ⟨_,rfl⟩|⟨g',_,_,_,hq,_⟩
   ·simp only [List.take_nil] at hln ⊢;exact ⟨none,0,hv2,Nat.le_refl _,.inl trivial⟩
   ·rw [hg] at hq;cases hq
  | some g =>
   rw [hg] at hv2;obtain ⟨cap,o,arr,el,fz,q1,q2,q3,q4,q5,q6⟩:=hv2;refine ⟨some ⟨g.1,o,none⟩,cap,by rw [hln];exact q2,by omega,?_⟩
   by_cases hn:n=0
   ·subst hn;exact .inl List.take_zero
   ·right;have ho:o=g.2:=by rcases q3 with q3|q3 <;> omega
    subst ho;refine ⟨g.1,g.2,rfl,.inr ⟨g,hg,rfl⟩,?_⟩;rcases hb0 with ⟨hq,_⟩|⟨g',arr',el',fz',p1,p2,p3,p4,p5⟩
    ·rw [hg] at hq;cases hq
    ·rw [hg] at p1;cases p1;exact (p5.take n).move hkp rfl) hL hr
 have key:∀ v w',Ret Y (fun d h'=>R d∧h'=[]) v w'→Ret X K v w':=by
  rintro v w' ⟨d,Z,h1,h2,h3,h4,h5,h6⟩;obtain ⟨hs,hK⟩:=hk d h5;have hfr:∀ b,b<X.w.heap.size→Z.w.heap[b]? = X.w.heap[b]? := fun b hb=>h3.frame b hb fun id db g hdb=>by simp [Y] at hdb
  have hno:∀ g,X.G i=some g→¬ X.S g.1:=fun g hg=>(hi.own i _ g h0 rfl hg).1 rfl
  let Z':Ctx:=⟨Z.w,fun b=>Z.S b∧∀ g,X.G i=some g→b≠g.1,X.G,X.h⟩
  have hst:Step X Z':=by
   refine ⟨h3.size,h3.os,h3.tape,h3.output,fun b hb=>⟨⟨(h3.kept b (.inl hb)).1,fun g hg e=>hno g hg (e▸hb)⟩,(h3.kept b (.inl hb)).2⟩,Nat.le_refl _,fun id db' hl' hdb' hlv=>⟨db',hdb',cD.refl hlv,rfl,fun g' hg'=>?_⟩,fun b hb _=>hfr b hb,fun id db g' hdb hl hf hg'=>.inr ⟨id,db,g',hdb,hl,hf,hg',rfl⟩,fun b hb=>?_⟩
   ·rw [show Z'.w.heap[g'.1]? = X.w.heap[g'.1]? from hfr _ (hi.block_lt hdb' hlv hg')]
    exact (hi.blk id db' hdb').same hlv g' hg'
   ·obtain ⟨hb1,hb2⟩:=hb;rcases h3.upper b hb1 with h|h|⟨id,db,g',hdb,_⟩
    ·rcases h with h|⟨g,hg,e⟩
     ·exact .inl h
     ·exact absurd e (hb2 g hg)
    ·exact .inr (.inl h)
    ·simp [Y] at hdb
  have hi':HInv Z':=by
   refine ⟨fun b hb=>h2.slt b hb.1,fun id db hdb=>?_,fun id db g' hdb hl hg'=>?_,fun id db id' db' g1 g2 hdb hl hf hdb' hl' hg1 hg2 he=>hi.inj id db id' db' g1 g2 hdb hl hf hdb' hl' hg1 hg2 he⟩
   ·by_cases hl:db.live=true
    ·exact (hi.blk id db hdb).move hst rfl fun g' hg'=>hfr _ (hi.block_lt hdb hl hg')
    ·cases db with
     | dead=>simp only [dU]
     | box _=>exact absurd rfl hl
     | arr _ _ _=>exact absurd rfl hl
     | mp _=>exact absurd rfl hl
   ·have ho:=hi.own id db g' hdb hl hg';refine ⟨fun hf hS=>?_,fun hf=>⟨(h3.kept _ (.inl (ho.2 hf))).1,fun g hg e=>hno g hg (e▸ho.2 hf)⟩⟩;rcases h3.upper _ hS.1 with h|h|⟨j,d',g2,hdb2,_⟩
    ·rcases h with h|⟨g,hg,e⟩
     ·exact ho.1 hf h
     ·exact hS.2 g hg e
    ·have:=hi.block_lt hdb hl hg';have hYw:Y.w.heap.size=X.w.heap.size:=rfl;omega
    ·simp [Y] at hdb2
  exact ⟨d,Z',h1,hi',hst,zEs hs h4,hK⟩
 rcases hc Y _ rfl hiY gdY hrY with ⟨h1,h2⟩|⟨v,w',h1,h2⟩
 ·exact .inl ⟨h1,h2.mono fun e w' ⟨v,he,hv⟩=>⟨v,he,key v w' hv⟩⟩
 ·exact .inr ⟨v,w',h1,key v w' h2⟩
theorem zNr {P:Program} {f:FuncId} {h:aC} {i k n:Nat} {es es0:List (List PV)} {R:DV→Prop} {K:DV→aC→Prop} (hes:es.take n=es0)
  (hc:aA P f [.c (.p (.sl k es0))] [] fun d h'=>R d∧h'=[]) (h0:h[i]? = some (.arr k es false)) (hk:∀ d,R d→zEr d=true∧K d h):aA P f [.c (.own i 0 n)] h K:=by
 subst hes;exact aA.lend [none] (by simp) hc h0 hk
theorem zAO {P:Program} {f:FuncId} {h:aC} {i k n:Nat} {es es0:List (List PV)} {x:DV} {R:DV→Prop} {K:DV→aC→Prop} (hx:LH x=true) (hes:es.take n=es0)
  (hc:aA P f [.c (.p (.sl k es0)),x] [] fun d h'=>R d∧h'=[]) (h0:h[i]? = some (.arr k es false)) (hk:∀ d,R d→zEr d=true∧K d h):aA P f [.c (.own i 0 n),x] h K:=by
 subst hes;exact aA.lend [none,some x] (by simpa using hx) hc h0 hk
theorem zMc {P:Program} {f:FuncId} {h:aC} {i k n:Nat} {es es0:List (List PV)} {x y:DV} {R:DV→Prop} {K:DV→aC→Prop} (hx:LH x=true) (hy:LH y=true) (hes:es.take n=es0)
  (hc:aA P f [.c (.p (.sl k es0)),x,y] [] fun d h'=>R d∧h'=[]) (h0:h[i]? = some (.arr k es false)) (hk:∀ d,R d→zEr d=true∧K d h):aA P f [.c (.own i 0 n),x,y] h K:=by
 subst hes;exact aA.lend [none,some x,some y] (by
  intro d hd;simp only [List.mem_cons,Option.some.injEq,List.not_mem_nil,or_false,reduceCtorEq,false_or] at hd;rcases hd with rfl|rfl
  ·exact hx
  ·exact hy) hc h0 hk
end Go.Dm
end
section
set_option maxRecDepth 100000
namespace Go.Dm
open Go
def iZ:DB→Bool
 | .dead=>true
 | .arr _ es ro=>!ro && es.all (fun e=>e.all sF)
 | _=>false
def nV:CV→Bool
 | .p x=>sF x
 | .own _ _ _=>true
 | _=>false
def zD2:EV→Bool
 | .c x=>nV x
 | .agg xs=>xs.all nV
def uX:DV→Bool
 | .c x=>nV x
 | .agg xs=>xs.all nV
 | .tup xs=>xs.all zD2
 | _=>false
theorem zT {w w':World} {S S':Nat→Prop} {bl:Nat} (hw:w'.heap[bl]? = w.heap[bl]?):∀ {cs:List PV} {off:Nat},cs.all sF=true→fV w S bl off cs→fV w' S' bl off cs
 | [],_,_,_=>by simp only [fV]
 | c::cs,off,hs,h=>by
  simp only [List.all_cons,Bool.and_eq_true] at hs;simp only [fV] at h ⊢;obtain ⟨⟨v,h1,h2⟩,h3⟩:=h;exact ⟨⟨v,by rw [World.cell?_of_block (a:=⟨bl,off,none⟩) hw];exact h1,zU hs.1 h2⟩,zT hw hs.2 h3⟩
theorem DG {w w':World} {S S':Nat→Prop} {k bl:Nat} (hw:w'.heap[bl]? = w.heap[bl]?):∀ {es:List (List PV)} {off:Nat},es.all (fun e=>e.all sF)=true→eP w S k bl off es→eP w' S' k bl off es
 | [],_,_,_=>by simp only [eP]
 | e::es,off,hs,h=>by
  simp only [List.all_cons,Bool.and_eq_true] at hs;simp only [eP] at h ⊢;exact ⟨⟨h.1.1,zT hw hs.1 h.1.2⟩,DG hw hs.2 h.2⟩
theorem tV {X Y:Ctx} {n:Nat} (ho:∀ id off len v,bS X (.own id off len) v→bS Y (.own (id+n) off len) v) {x:CV} {v:Value} (hs:nV x=true) (h:bS X x v):bS Y (x.sh n) v:=by
 cases x <;> simp only [nV,Bool.false_eq_true] at hs
 case p=>exact zU hs h
 case own=>exact ho _ _ _ _ h
theorem pY {X Y:Ctx} {n:Nat} (ho:∀ id off len v,bS X (.own id off len) v→bS Y (.own (id+n) off len) v):∀ {xs:List CV} {vs:List Value},xs.all nV=true→bB X xs vs→bB Y (xs.map (CV.sh n)) vs
 | [],[],_,_=>True.intro
 | x::xs,v::vs,hs,h=>by
  simp only [List.all_cons,Bool.and_eq_true] at hs;exact ⟨tV ho hs.1 h.1,pY ho hs.2 h.2⟩
 | [],_::_,_,h=>h.elim
 | _::_,[],_,h=>h.elim
theorem yZ {X Y:Ctx} {n:Nat} (ho:∀ id off len v,bS X (.own id off len) v→bS Y (.own (id+n) off len) v):∀ {xs:List EV} {vs:List Value},xs.all zD2=true→cG X xs vs→cG Y (xs.map (EV.sh n)) vs
 | [],[],_,_=>True.intro
 | x::xs,v::vs,hs,h=>by
  simp only [List.all_cons,Bool.and_eq_true] at hs;refine ⟨?_,yZ ho hs.2 h.2⟩;have h1:=h.1;cases x with
  | c x=>exact tV ho hs.1 h1
  | agg ys=>obtain ⟨us,k1,k2⟩:=h1;exact ⟨us,k1,pY ho hs.1 k2⟩
 | [],_::_,_,h=>h.elim
 | _::_,[],_,h=>h.elim
theorem zAc {X Y:Ctx} {n:Nat} (ho:∀ id off len v,bS X (.own id off len) v→bS Y (.own (id+n) off len) v) {x:DV} {v:Value} (hs:uX x=true) (h:bA X x v):bA Y (x.sh n) v:=by
 cases x with
 | jk=>cases hs
 | c x=>exact tV ho hs h
 | agg xs=>obtain ⟨vs,h1,h2⟩:=h;exact ⟨vs,h1,pY ho hs h2⟩
 | tup xs=>obtain ⟨vs,h1,h2⟩:=h;exact ⟨vs,h1,yZ ho hs h2⟩
theorem aA.lendH {P:Program} {f:FuncId} {h:aC} {i k n:Nat} {es:List (List PV)} (L:List (Option DV)) {R K:DV→aC→Prop} (hL:∀ d,some d∈L→LH d=true)
  (hc:aA P f (L.map (zL2 k (es.take n))) [] R) (h0:h[i]? = some (.arr k es false)) (hk:∀ d h',R d h'→(uX d && h'.all iZ)=true∧K (d.sh h.length) (h++h'.map (DB.sh h.length))):
  aA P f (L.map (zM7 i n)) h K:=by
 intro X vals hh hi gd hr;subst hh;have hb0:=hi.blk i _ h0
 let Y:Ctx:=⟨X.w,fun b=>X.S b∨∃ g,X.G i=some g∧b=g.1,fun _=>none,[]⟩
 have hiY:HInv Y:=⟨fun b hb=>by
  rcases hb with hb|⟨g,hg,rfl⟩
  ·exact hi.slt b hb
  ·exact hi.block_lt h0 rfl hg,fun id db hdb=>by simp [Y] at hdb,fun id db g hdb=>by simp [Y] at hdb,fun id db id' db' g1 g2 hdb=>by simp [Y] at hdb⟩
 have hkp:Kept X.w Y.w X.S Y.S:=fun b hb=>⟨.inl hb,rfl⟩;have gdY:Gnd P Y:=by
  obtain ⟨W0,g1,g2⟩:=gd;exact ⟨W0,g1,fun b hb=>⟨.inl (g2 b hb).1,(g2 b hb).2⟩⟩
 have hrY:dC Y (L.map (zL2 k (es.take n))) vals:=wE hkp (fun v hv=>by
  obtain ⟨_,_,hv⟩:=hv;obtain ⟨hv1,hv2⟩:=hv _ _ _ h0;have hln:(es.take n).length=n:=by rw [List.length_take];omega
  simp only [bA,bS,cT];cases hg:X.G i with
  | none =>
   rw [hg] at hv2;rcases hb0 with ⟨_,rfl⟩|⟨g',_,_,_,hq,_⟩
   ·simp only [List.take_nil] at hln ⊢;exact ⟨none,0,hv2,Nat.le_refl _,.inl trivial⟩
   ·rw [hg] at hq;cases hq
  | some g =>
   rw [hg] at hv2;obtain ⟨cap,o,arr,el,fz,q1,q2,q3,q4,q5,q6⟩:=hv2;refine ⟨some ⟨g.1,o,none⟩,cap,by rw [hln];exact q2,by omega,?_⟩
   by_cases hn:n=0
   ·subst hn;exact .inl List.take_zero
   ·right;have ho:o=g.2:=by rcases q3 with q3|q3 <;> omega
    subst ho;refine ⟨g.1,g.2,rfl,.inr ⟨g,hg,rfl⟩,?_⟩;rcases hb0 with ⟨hq,_⟩|⟨g',arr',el',fz',p1,p2,p3,p4,p5⟩
    ·rw [hg] at hq;cases hq
    ·rw [hg] at p1;cases p1;exact (p5.take n).move hkp rfl) hL hr
 have key:∀ v w',Ret Y R v w'→Ret X K v w':=by
  rintro v w' ⟨d,Z,h1,h2,h3,h4,h5⟩;obtain ⟨hs,hK⟩:=hk d Z.h h5;rw [Bool.and_eq_true] at hs;obtain ⟨hs1,hs2⟩:=hs;have hfr:∀ b,b<X.w.heap.size→Z.w.heap[b]? = X.w.heap[b]? := fun b hb=>h3.frame b hb fun id db g hdb=>by simp [Y] at hdb
  have hno:∀ g,X.G i=some g→¬ X.S g.1:=fun g hg=>(hi.own i _ g h0 rfl hg).1 rfl;have hmine:∀ j db g,Z.h[j]? = some db→db.live=true→Z.G j=some g→X.w.heap.size≤g.1:=fun j db g q1 q2 q4=>by
   have hf:db.fix=false:=by
    have:=List.all_eq_true.1 hs2 db (List.mem_of_getElem? q1);cases db with
    | arr _ _ ro=>simp only [iZ,Bool.and_eq_true,Bool.not_eq_true'] at this;exact this.1
    | _=>rfl
   rcases h3.mine j db g q1 q2 hf q4 with h|⟨_,_,_,h,_⟩
   ·exact h
   ·simp [Y] at h
  let Z':Ctx:=⟨Z.w,fun b=>Z.S b∧∀ g,X.G i=some g→b≠g.1,fun j=>if j<X.h.length then X.G j else Z.G (j-X.h.length),X.h++Z.h.map (DB.sh X.h.length)⟩
  have zlt:∀ {j:Nat},j<X.h.length→Z'.h[j]? = X.h[j]?∧Z'.G j=X.G j:=fun {j} hj=>⟨by show (X.h++_)[j]? = _;rw [List.getElem?_append_left hj],by show (if j<X.h.length then X.G j else _)=_;rw [if_pos hj]⟩
  have zge:∀ (j:Nat),Z'.h[j+X.h.length]? = (Z.h[j]?).map (DB.sh X.h.length)∧Z'.G (j+X.h.length)=Z.G j:=fun j=>⟨by show (X.h++_)[_]? = _;rw [List.getElem?_append_right (by omega),List.getElem?_map];congr 2;omega,by show (if _ then _ else Z.G _)=_;rw [if_neg (by omega)];congr 1;omega⟩
  have zin:∀ {j:Nat} {db:DB},Z'.h[j]? = some db→(j<X.h.length∧X.h[j]? = some db)∨∃ q db0,j=q+X.h.length∧Z.h[q]? = some db0∧db=db0.sh X.h.length:=fun {j db} hd=>by
   rcases Nat.lt_or_ge j X.h.length with hlt|hge
   ·exact .inl ⟨hlt,by rw [← (zlt hlt).1];exact hd⟩
   ·obtain ⟨q,rfl⟩:∃ q,j=q+X.h.length:=⟨j-X.h.length,by omega⟩
    rw [(zge q).1] at hd;obtain ⟨db0,e1,e2⟩:=Option.map_eq_some_iff.1 hd;exact .inr ⟨q,db0,rfl,e1,e2.symm⟩
  have hst:Step X Z':=by
   refine ⟨h3.size,h3.os,h3.tape,h3.output,fun b hb=>⟨⟨(h3.kept b (.inl hb)).1,fun g hg e=>hno g hg (e▸hb)⟩,(h3.kept b (.inl hb)).2⟩,by show _≤(X.h++_).length;rw [List.length_append];omega,fun id db' hl' hdb' hlv=>?_,fun b hb _=>hfr b hb,fun id db g' hdb hl hf hg'=>?_,fun b hb=>?_⟩
   ·rw [(zlt hl').1] at hdb';refine ⟨db',hdb',cD.refl hlv,(zlt hl').2,fun g' hg'=>?_⟩;rw [show Z'.w.heap[g'.1]? = X.w.heap[g'.1]? from hfr _ (hi.block_lt hdb' hlv hg')]
    exact (hi.blk id db' hdb').same hlv g' hg'
   ·rcases zin hdb with ⟨q1,q2⟩|⟨q,db0,rfl,q2,rfl⟩
    ·rw [(zlt q1).2] at hg';exact .inr ⟨id,db,g',q2,hl,hf,hg',rfl⟩
    ·rw [(zge q).2] at hg';rw [DB.sh_live] at hl;exact .inl (hmine q db0 g' q2 hl hg')
   ·obtain ⟨hb1,hb2⟩:=hb;rcases h3.upper b hb1 with h|h|⟨id,db,g',hdb,_⟩
    ·rcases h with h|⟨g,hg,e⟩
     ·exact .inl h
     ·exact absurd e (hb2 g hg)
    ·exact .inr (.inl h)
    ·simp [Y] at hdb
  have hi':HInv Z':=by
   refine ⟨fun b hb=>h2.slt b hb.1,fun id db hdb=>?_,fun id db g' hdb hl hg'=>?_,fun id db id' db' g1 g2 hdb hl hf hdb' hl' hg1 hg2 he=>?_⟩
   ·rcases zin hdb with ⟨q1,q2⟩|⟨q,db0,rfl,q2,rfl⟩
    ·by_cases hl:db.live=true
     ·exact (hi.blk id db q2).move hst (zlt q1).2 fun g' hg'=>hfr _ (hi.block_lt q2 hl hg')
     ·cases db <;> simp_all [DB.live,dU]
    ·have hp:=List.all_eq_true.1 hs2 db0 (List.mem_of_getElem? q2);have hb:=h2.blk q db0 q2;cases db0 with
     | dead=>simp only [DB.sh,dU]
     | box _=>cases hp
     | mp _=>cases hp
     | arr k' es' ro =>
      simp only [iZ,Bool.and_eq_true] at hp;simp only [dU,DB.sh,(zge q).2] at hb ⊢;rcases hb with hb|⟨g,arr,el,fz,b1,b2,b3,b4,b5⟩
      ·exact .inl hb
      ·exact .inr ⟨g,arr,el,fz,b1,b2,b3,b4,DG rfl hp.2 b5⟩
   ·rcases zin hdb with ⟨q1,q2⟩|⟨q,db0,rfl,q2,rfl⟩
    ·rw [(zlt q1).2] at hg';have ho:=hi.own id db g' q2 hl hg';refine ⟨fun hf hS=>?_,fun hf=>⟨(h3.kept _ (.inl (ho.2 hf))).1,fun g hg e=>hno g hg (e▸ho.2 hf)⟩⟩;rcases h3.upper _ hS.1 with h|h|⟨j,d',g2,hdb2,_⟩
     ·rcases h with h|⟨g,hg,e⟩
      ·exact ho.1 hf h
      ·exact hS.2 g hg e
     ·have:=hi.block_lt q2 hl hg';have hYw:Y.w.heap.size=X.w.heap.size:=rfl;omega
     ·simp [Y] at hdb2
    ·rw [(zge q).2] at hg';rw [DB.sh_live] at hl;rw [DB.sh_fix];have ho:=h2.own q db0 g' q2 hl hg';refine ⟨fun hf hS=>ho.1 hf hS.1,fun hf=>⟨ho.2 hf,fun g hg e=>?_⟩⟩;have e1:=hmine q db0 g' q2 hl hg';have e2:=hi.block_lt h0 rfl hg;omega
   ·rcases zin hdb with ⟨q1,q2⟩|⟨q,db0,rfl,q2,rfl⟩ <;> rcases zin hdb' with ⟨q1',q2'⟩|⟨q',db0',rfl,q2',rfl⟩
    ·rw [(zlt q1).2] at hg1;rw [(zlt q1').2] at hg2;exact hi.inj id db id' db' g1 g2 q2 hl hf q2' hl' hg1 hg2 he
    ·rw [(zlt q1).2] at hg1;rw [(zge q').2] at hg2;rw [DB.sh_live] at hl';have e1:=hmine q' db0' g2 q2' hl' hg2;have e2:=hi.block_lt q2 hl hg1;omega
    ·rw [(zge q).2] at hg1;rw [(zlt q1').2] at hg2;rw [DB.sh_live] at hl;have e1:=hmine q db0 g1 q2 hl hg1;have e2:=hi.block_lt q2' hl' hg2;omega
    ·rw [(zge q).2] at hg1;rw [(zge q').2] at hg2;rw [DB.sh_live] at hl hl';rw [DB.sh_fix] at hf;rw [h2.inj q db0 q' db0' g1 g2 q2 hl hf q2' hl' hg1 hg2 he]
  refine ⟨d.sh X.h.length,Z',h1,hi',hst,zAc (fun id off len v hv=>?_) hs1 h4,hK⟩;simp only [bS] at hv ⊢;obtain ⟨r1,r2,r3⟩:=hv;refine ⟨by show _<(X.h++_).length;rw [List.length_append,List.length_map];omega,r2,fun k' es' ro hd=>?_⟩
  rw [(zge id).1] at hd;obtain ⟨db0,e1,e2⟩:=Option.map_eq_some_iff.1 hd;cases db0 <;> simp only [DB.sh,reduceCtorEq] at e2;cases e2;rw [(zge id).2];exact r3 _ _ _ e1
 rcases hc Y _ rfl hiY gdY hrY with ⟨h1,h2⟩|⟨v,w',h1,h2⟩
 ·exact .inl ⟨h1,h2.mono fun e w' ⟨v,he,hv⟩=>⟨v,he,key v w' hv⟩⟩
 ·exact .inr ⟨v,w',h1,key v w' h2⟩
theorem zID {P:Program} {f:FuncId} {h h1:aC} {i k n:Nat} {es es0:List (List PV)} {d:DV} {K:DV→aC→Prop} (hes:es.take n=es0)
  (hc:aA P f [.c (.p (.sl k es0))] [] fun r h'=>r=d∧h'=h1) (h0:h[i]? = some (.arr k es false)) (hp:(uX d && h1.all iZ)=true) (hk:K (d.sh h.length) (h++h1.map (DB.sh h.length))):aA P f [.c (.own i 0 n)] h K:=by
 subst hes;exact aA.lendH [none] (by simp) hc h0 fun r h' ⟨e1,e2⟩=>by subst e1;subst e2;exact ⟨hp,hk⟩
theorem zIE {P:Program} {f:FuncId} {h h1:aC} {i k n:Nat} {es es0:List (List PV)} {x d:DV} {K:DV→aC→Prop} (hx:LH x=true) (hes:es.take n=es0)
  (hc:aA P f [.c (.p (.sl k es0)),x] [] fun r h'=>r=d∧h'=h1) (h0:h[i]? = some (.arr k es false)) (hp:(uX d && h1.all iZ)=true) (hk:K (d.sh h.length) (h++h1.map (DB.sh h.length))):aA P f [.c (.own i 0 n),x] h K:=by
 subst hes;exact aA.lendH [none,some x] (by simpa using hx) hc h0 fun r h' ⟨e1,e2⟩=>by subst e1;subst e2;exact ⟨hp,hk⟩
end Go.Dm
end
