/- Part 21 of the proof of roomAsks_card, set without needless blanks. No condition. -/
import Derived.Test.YtlbfnbldeefgmaaGreatDoorA04
import Derived.Test.YtlbfnbldeefgmaaGreatDoorA19
set_option linter.all false
section
namespace Go.Proofs.YtlbfnbldeefgmaaGreatDoor
open Go Go.Dm Go.Proofs
set_option maxRecDepth 100000
set_option maxHeartbeats 8000000
theorem uP {a i p s:Int} {f:Bool}:aA Tryz.prog 170 [.agg [.p (.i .i64 i),.p (.i .i64 p),.p (.i .i64 s),.p (.b f)],.c (.ptr 0 0)] [.box [.p (.i .i64 a)]] fun r h=>r=.c (.p (.b (i == a)))∧h=[.box [.p (.i .i64 a)]]:=by
 refine ent aB aK Tryz.func170 rfl rfl fun X0 hX=>?_;simp only [Tryz.f170,go_sem]
 repeat' (simp only [*,go_sem,Nat.reduceLT,Nat.reduceEqDiff,↓reduceIte,])
theorem zGI {l:List Ly} {a:Int} (hl:l.length≤1000000):aA Tryz.prog 118 [.c (.p (.sl 4 (cZ l))),.c (.clo 170 [.ptr 0 0])] [.box [.p (.i .i64 a)]]
  fun r h=>r=.c (.p (.i .i64 (zC0 l a)))∧h=[.box [.p (.i .i64 a)]]:=by
 refine ent aB aK Tryz.func118 rfl rfl fun X0 hX=>?_;simp only [Tryz.f118,go_sem]
 repeat' (simp only [*,go_sem,Nat.reduceLT,Nat.reduceEqDiff,↓reduceIte,Int.reduceNeg,])
 refine aY aB aK (α:=Nat) (fun k=>⟨19,[(0,.c (.p (.sl 4 (cZ l)))),(1,.c (.clo 170 [.ptr 0 0])),(7,.c (.p (.i .i64 l.length))),(8,.c (.p (.i .i64 k)))],[.box [.p (.i .i64 a)]]⟩)
  (fun k=>k≤l.length∧∀ (j:Nat) (y:Ly),j<k→l[j]? = some y→(y.i == a)=false) (fun k=>l.length-k) 0 ⟨Nat.zero_le _,fun j y h=>by omega⟩ (.inl (aI (by rw [hX];rfl) rfl rfl (by simp [aH,aL,aD,aJ,aF,cH]))) ?_
 rintro k ⟨hk,hs⟩;by_cases hlt:k<l.length
 ·have hx:l[k]? = some l[k]:=List.getElem?_eq_getElem hlt;have hg:=lK hx;have h1:decide ((k:Int)<(l.length:Int))=true:=decide_eq_true (by omega);have w1:IntKind.i64.wrap ((k:Int)+1)=k+1:=wrap_i64 (by omega) (by omega);generalize l[k]=x at hx hg;cases hb:(x.i == a)
  ·have hJ:PLift (k+1≤l.length∧∀ (j:Nat) (y:Ly),j<k+1→l[j]? = some y→(y.i == a)=false):=⟨by omega,fun j y hj hy=>by
    rcases Nat.lt_or_ge j k with h|h
    ·exact hs j y h hy
    ·have:j=k:=by omega
     subst this;rw [hx] at hy;cases hy;exact hb⟩
   clear hs hx
   repeat' (first|simp only [*,go_sem,Nat.reduceLT,Nat.reduceLeDiff,Nat.reduceEqDiff,↓reduceIte,Nat.reduceAdd,Int.reduceNeg,]|refine zMb uP rfl rfl rfl ?_|((with_reducible refine And.intro ?_ ?_);omega))
   exact fD (k+1) hJ.down (by omega) (aI rfl rfl rfl (by simp [aH,aL,aD,aJ,aF,cH]))
  ·have hJ:=PLift.up (zC1 hs hx hb).1;clear hs hx
   repeat' (first|simp only [*,go_sem,Nat.reduceLT,Nat.reduceLeDiff,Nat.reduceEqDiff,↓reduceIte,Nat.reduceAdd,Int.reduceNeg,]|refine zMb uP rfl rfl rfl ?_|((with_reducible refine And.intro ?_ ?_);omega))
   all_goals rw [hJ.down]
 ·have h1:decide ((k:Int)<(l.length:Int))=false:=decide_eq_false (by omega);have hJ:=PLift.up (KX (l:=l) (a:=a) fun j y hj=>hs j y (by have:=(List.getElem?_eq_some_iff.1 hj).1;omega) hj);clear hs
  repeat' (simp only [*,go_sem,Nat.reduceLT,Nat.reduceEqDiff,↓reduceIte,Int.reduceNeg,])
  all_goals rw [hJ.down]
theorem EY {l:List Ly} {a:Int} (hl:l.length≤1000000):aA Tryz.prog 97 [.c (.p (.sl 4 (cZ l))),.c (.p (.i .i64 a))] []
  fun r h=>r=.tup [.agg ((eF l a).getD ly0).cv,.c (.p (.b (eF l a).isSome))]∧h=[]:=by
 have hc:=zGI (a:=a) hl;rcases zGu l a with ⟨h1,h2⟩|⟨k,x,h1,h2,h3⟩
 ·rw [h2] at hc;rw [h1];clear h1 h2;refine ent aB aK Tryz.func97 rfl rfl fun X0 hX=>?_;simp only [Tryz.f97,go_sem]
  repeat' (first|simp only [*,go_sem,Nat.reduceLT,Nat.reduceLeDiff,Nat.reduceEqDiff,↓reduceIte,Nat.reduceAdd,Int.reduceLT,Int.reduceNeg,]|((with_reducible refine bW [0] (hc) ?_ ?_ ?_ ?_);exact rfl;exact rfl;(focus ((simp only [go_sem];done)))))
  all_goals simp [ly0]
 ·rw [h2] at hc;rw [h1];have hlt:=(List.getElem?_eq_some_iff.1 h3).1;have hg:=lK h3;have k1:decide ((k:Int)<0)=false:=decide_eq_false (by omega);have k2:(0:Int)≤(k:Int):=by omega
  have k3:(k:Int)<(l.length:Int):=by omega
  clear h1 h2 h3;refine ent aB aK Tryz.func97 rfl rfl fun X0 hX=>?_;simp only [Tryz.f97,go_sem]
  repeat' (first|simp only [*,go_sem,Nat.reduceLT,Nat.reduceLeDiff,Nat.reduceEqDiff,↓reduceIte,Nat.reduceAdd,]|((with_reducible refine bW [0] (hc) ?_ ?_ ?_ ?_);exact rfl;exact rfl;(focus ((simp only [go_sem];done)))))
  all_goals simp [Ly.cv]
end Go.Proofs.YtlbfnbldeefgmaaGreatDoor
end
section
namespace Go.Dm
open Go
def QY:List Int→Int→Int
 | [],_=>-1
 | x::l,a=>if a == x then 0 else if QY l a == -1 then -1 else QY l a+1
theorem zC3:∀ (l:List Int) (a:Int),-1≤QY l a
 | [],_=>Int.le_refl _
 | x::l,a=>by
  simp only [QY];have:=zC3 l a;split
  ·omega
  ·split
   ·omega
   ·omega
theorem KY {a:Int}:∀ {l:List Int},(∀ (k:Nat) (x:Int),l[k]? = some x→(a == x)=false)→QY l a = -1
 | [],_=>rfl
 | x::l,h=>by
  simp only [QY];rw [h 0 x rfl,KY (l:=l) fun k y hy=>h (k+1) y (by simpa using hy)];rfl
theorem zC2 {a:Int}:∀ {l:List Int} {i:Nat} {x:Int},(∀ (k:Nat) (y:Int),k<i→l[k]? = some y→(a == y)=false)→l[i]? = some x→(a == x)=true→QY l a=i
 | [],_,_,_,h,_=>by simp at h
 | y::l,0,x,_,h,hx=>by
  simp only [List.getElem?_cons_zero,Option.some.injEq] at h;subst h;simp only [QY];rw [hx];rfl
 | y::l,i+1,x,hn,h,hx=>by
  simp only [List.getElem?_cons_succ] at h;have h1:=zC2 (l:=l) (i:=i) (fun k z hk hz=>hn (k+1) z (by omega) (by simpa using hz)) h hx;simp only [QY];rw [hn 0 y (by omega) rfl,h1];simp only [Bool.false_eq_true,if_false];rw [if_neg (by first|(simp;done)|(simp;omega))];omega
theorem zGH (l:List Int) (a:Int):0≤QY l a↔a∈l:=by
 induction l with
 | nil=>simp [QY]
 | cons x l ih =>
  have h0:=zC3 l a;simp only [QY,List.mem_cons];by_cases hx:a=x
  ·simp [hx]
  ·rw [if_neg (by simpa using hx)];split
   ·rename_i h;have:=eq_of_beq h;constructor
    ·intro h;omega
    ·rintro (h|h)
     ·exact absurd h hx
     ·have:=ih.2 h;omega
   ·rename_i h;have:QY l a≠-1:=by simpa using h
    constructor
    ·intro _;exact .inr (ih.1 (by omega))
    ·intro _;omega
theorem zGG (l:List Int) (a:Int):decide (0≤QY l a)=l.contains a:=by
 rw [Bool.eq_iff_iff,decide_eq_true_eq,zGH,List.contains_iff_mem]
def swI (l:List Int) (i:Nat):List Int:=(List.range l.length).map fun k=>if k<i∨l.length≤k+i then l.getD (l.length-1-k) 0 else l.getD k 0
theorem uH (l:List Int) (i:Nat):(swI l i).length=l.length:=by simp [swI]
theorem DO (l:List Int) (i k:Nat) (h:k<l.length):(swI l i)[k]? = some (if k<i∨l.length≤k+i then l.getD (l.length-1-k) 0 else l.getD k 0):=by
 unfold swI;rw [List.getElem?_map,List.getElem?_range h];rfl
theorem zHz (l:List Int):swI l 0=l:=by
 apply List.ext_getElem?;intro k;by_cases h:k<l.length
 ·rw [DO l 0 k h,if_neg (by omega),List.getD_eq_getElem?_getD,List.getElem?_eq_getElem h];rfl
 ·rw [List.getElem?_eq_none (by rw [uH];omega),List.getElem?_eq_none (by omega)]
theorem zKl {l:List Int} {i:Nat} (h:l.length≤2*i+1):swI l i=l.reverse:=by
 apply List.ext_getElem?;intro k;by_cases hk:k<l.length
 ·rw [DO l i k hk,List.getElem?_reverse hk];by_cases hc:k<i∨l.length≤k+i
  ·rw [if_pos hc,List.getD_eq_getElem?_getD,List.getElem?_eq_getElem (by omega)];rfl
  ·rw [if_neg hc,List.getD_eq_getElem?_getD];have:l.length-1-k=k:=by omega
   rw [this,List.getElem?_eq_getElem hk];rfl
 ·rw [List.getElem?_eq_none (by rw [uH];omega),List.getElem?_eq_none (by rw [List.length_reverse];omega)]
theorem zL4 {l:List Int} {i:Nat} (h:2*i+1<l.length):(swI l i)[i]? = some (l.getD i 0):=by
 rw [DO l i i (by omega),if_neg (by omega)]
theorem zIB {l:List Int} {i:Nat} (h:2*i+1<l.length):(swI l i)[l.length-1-i]? = some (l.getD (l.length-1-i) 0):=by
 rw [DO l i _ (by omega),if_neg (by omega)]
theorem zHy {l:List Int} {i:Nat} (h:2*i+1<l.length):((swI l i).set i (l.getD (l.length-1-i) 0)).set (l.length-1-i) (l.getD i 0)=swI l (i+1):=by
 apply List.ext_getElem?;intro k;by_cases hk:k<l.length
 ·rw [DO l (i+1) k hk,List.getElem?_set,List.getElem?_set,DO l i k hk];simp only [List.length_set,uH];by_cases h1:l.length-1-i=k
  ·rw [if_pos h1,if_pos (by omega),if_pos (by omega)]
   congr 2;omega
  ·rw [if_neg h1];by_cases h2:i=k
   ·rw [if_pos h2,if_pos (by omega),if_pos (by omega)]
    congr 2;omega
   ·rw [if_neg h2]
    congr 1
    by_cases hc:k<i∨l.length≤k+i
    ·rw [if_pos hc,if_pos (by omega)]
    ·rw [if_neg hc,if_neg (by omega)]
 ·rw [List.getElem?_eq_none (by simp [uH];omega),List.getElem?_eq_none (by rw [uH];omega)]
theorem zGa (l:List Int) (k:Nat) (x:Int):(cW l).set k [.i .i64 x]=cW (l.set k x):=by simp [cW,List.map_set]
attribute [go_sem] zGa
end Go.Dm
end
section
set_option maxRecDepth 100000
namespace Go.Dm
open Go
def HJ (n0:Nat) (s s':DS):Prop:=∀ (X0 X:Ctx) (a:Act),X0.h.length=n0→X.h=s.h→HInv X→Step X0 X→TInv X s a→∃ X',X'.w=X.w∧X'.h=s'.h∧HInv X'∧Step X0 X'∧TInv X' s' a
theorem HJ.trans {n0:Nat} {s t u:DS} (h:HJ n0 s t) (k:HJ n0 t u):HJ n0 s u:=fun X0 X a hn hh hi hs ht=>by
 obtain ⟨Y,h1,h2,h3,h4,h5⟩:=h X0 X a hn hh hi hs ht;obtain ⟨Z,k1,k2,k3,k4,k5⟩:=k X0 Y a hn h2 h3 h4 h5;exact ⟨Z,k1.trans h1,k2,k3,k4,k5⟩
theorem cJ {n0:Nat} {s s':DS} (h:EC n0 s s'):HJ n0 s s':=fun _ _ _ hn hh hi hs ht=>h.use hn hh hi hs ht
theorem fP {n0:Nat} {s s':DS} (h:zA0 n0 s s'):HJ n0 s s':=fun _ _ _ hn hh hi hs ht=>h.use hn hh hi hs ht
theorem zDp {n0:Nat} {s:DS} (i id off len:Nat) {x:PV} (hl:look s.t i=.c (.own id off len)) (hp:zAW s.h (.own id off len)=some x):HJ n0 s ⟨s.n,(i,.c (.p x))::s.t,tK s.h [id]⟩:=by
 intro X0 X a hn hh hi hs ht;obtain ⟨X',h1,h2,h3,h4,h5,h6⟩:=iR [id] hi;refine ⟨X',h1,by rw [h2,hh],h5,hs.trans hi h4,ht.size,fun j=>?_,ht.defs⟩
 simp only [look];split
 ·rename_i hij;subst hij;have:=ht.rel j;rw [hl] at this;simp only [bA] at this;simp only [bA,bS];exact rV hi h4 h1 this (by rw [hh];exact hp) h6
 ·exact (ht.rel j).step h4
theorem rK {n0:Nat} {s:DS} (i k:Nat) (hl:look s.t i=.c (.p .nil)):HJ n0 s ⟨s.n,(i,.c (.own s.h.length 0 0))::s.t,s.h++[.arr k [] false]⟩:=by
 intro X0 X a hn hh hi hs ht;obtain ⟨h1,h2⟩:=virt hi k;refine ⟨X.virt k,rfl,by simp [Ctx.virt,hh],h2,hs.trans hi h1,ht.size,fun j=>?_,ht.defs⟩
 simp only [look];split
 ·rename_i hij;subst hij;have:=ht.rel j;rw [hl] at this;rw [← hh];exact qC (gS (X:=X) (k:=k) this)
 ·exact (ht.rel j).step h1
theorem yL {n0:Nat} {s:DS} (i id off len:Nat) {k:Nat} {es:List (List PV)} (hl:look s.t i=.c (.own id off len)) (hd:s.h[id]? = some (.arr k es false)):
  HJ n0 s ⟨s.n,(i,.c (.own s.h.length 0 len))::s.t,s.h.set id .dead++[.arr k ((es.drop off).take len) false]⟩:=by
 intro X0 X a hn hh hi hs ht;rw [← hh] at hd;have hsl:=ht.rel i;rw [hl] at hsl;simp only [bA,bS] at hsl;obtain ⟨q1,q2,q3⟩:=hsl;obtain ⟨q4,q5⟩:=q3 _ _ _ hd;have hb:=hi.blk id _ hd;cases hG:X.G id with
 | none =>
  rw [hG] at q5;simp only [dU] at hb;rcases hb with ⟨_,rfl⟩|⟨g,_,_,_,hg,_⟩
  ·simp only [List.length_nil] at q4;have hlen:len=0:=by omega
   subst hlen;obtain ⟨v1,v2⟩:=virt hi k;have hk:=Step.kill v2 id;refine ⟨(X.virt k).kill id,rfl,?_,v2.kill id,hs.trans hi (v1.trans v2 hk),ht.size,fun j=>?_,ht.defs⟩
   ·show (X.h++[_]).set id .dead=_
    rw [List.set_append_left _ _ q1,hh];simp
   ·simp only [look];split
    ·rename_i hij;subst hij;rw [← hh];refine bA.step hk (qC (x:=.own X.h.length 0 0) ?_);exact gS (X:=X) (k:=k) (v:=a.tmps.getD j undef) (by simp only [bS,cT];exact q5)
    ·exact ((ht.rel j).step v1).step hk
  ·rw [hG] at hg;cases hg
 | some g =>
  rw [hG] at q5;obtain ⟨cap,o,arr,el,fz,r1,r2,r3,r4,r5,r6⟩:=q5;obtain ⟨k1,k2⟩:=SB (off:=off) (len:=len) hi hd hG q4;refine ⟨X.rebase id (g.1,g.2+off*k) k ((es.drop off).take len),rfl,by simp only [Ctx.rebase,hh],k2,hs.trans hi k1,ht.size,fun j=>?_,ht.defs⟩
  simp only [look];split
  ·rename_i hij;subst hij;rw [← hh];refine qC (x:=.own X.h.length 0 len) ⟨by simp [Ctx.rebase],q2,fun k' es' ro' he=>?_⟩
   simp only [Ctx.rebase] at he ⊢;rw [List.getElem?_append_right (by simp)] at he;simp only [List.length_set,Nat.sub_self,List.getElem?_cons_zero,Option.some.injEq,DB.arr.injEq] at he;obtain ⟨rfl,rfl,rfl⟩:=he;refine ⟨by simp;omega,?_⟩
   rw [if_pos trivial];refine ⟨cap,o,arr,el,fz,r1,r2,r3.imp (fun h=>h) fun h=>by rw [h];simp,r4,r5,?_⟩
   have:(off+cap)*k=off*k+cap*k:=Nat.add_mul _ _ _;simp only [Nat.zero_add];omega
  ·exact (ht.rel j).step k1
section
variable {P:Program} {T:Tab} {X0:Ctx} {s:DS} {Q:Exit→DS→Prop}
theorem zHD {c:Code} {s':DS} (hw:HJ X0.h.length s s') (h:SWP P X0 c s' Q):SWP P X0 c s Q:=by
 intro gd X a hh hi hs ht;obtain ⟨X',h1,h2,h3,h4,h5⟩:=hw X0 X a rfl hh hi hs ht;rw [← h1];exact h gd X' a h2 h3 h4 h5
def CP {α:Type} (n0:Nat) (I:α→DS) (J:α→Prop) (μ:α→Nat) (x:α) (Q:Exit→DS→Prop):Exit→DS→Prop:=fun e s'=>match e with
 | .normal=>∃ y,J y∧μ y < μ x∧HJ n0 s' (I y)
 | e=>Q e s'
theorem zDt {α:Type} {c:Code} (I:α→DS) (J:α→Prop) (μ:α→Nat) (x0:α) (hJ:J x0) (hw:HJ X0.h.length s (I x0))
  (h:∀ x,J x→SWP P X0 c (I x) (CP X0.h.length I J μ x Q)):SWP P X0 (.loop c) s Q:=by
 intro gd X a hh hi hs ht;obtain ⟨X',h1,h2,h3,h4,h5⟩:=hw X0 X a rfl hh hi hs ht;rw [← h1];refine wp_loop_ghost (fun n a w=>∃ x X,μ x=n∧J x∧X.w=w∧X.h=(I x).h∧HInv X∧Step X0 X∧TInv X (I x) a) (μ x0) ⟨x0,X',rfl,hJ,rfl,h2,h3,h4,h5⟩ ?_;rintro n a' w' ⟨x,Y,rfl,k1,rfl,k2,k3,k4,k5⟩;refine wp_mono (h x k1 gd Y a' k2 k3 k4 k5) fun e a w hp=>?_;obtain ⟨s',Z,p1,rfl,p3,p4,p5,p6⟩:=hp;cases e <;> simp only [Exit.then,CP] at p1 ⊢
 case normal =>
  obtain ⟨y,q1,q2,q3⟩:=p1;obtain ⟨Z',r1,r2,r3,r4,r5⟩:=q3 X0 Z a rfl p3 p4 p5 p6;exact ⟨μ y,q2,y,Z',rfl,q1,r1,r2,r3,r4,r5⟩
 all_goals exact ⟨s',Z,p1,rfl,p3,p4,p5,p6⟩
theorem dS (hT:bD P T) (hm:P.follows .mixedOrders=true) {α:Type} {c:Code} (I:α→DS) (J:α→Prop) (μ:α→Nat) (x0:α) (hJ:J x0) (hw:HJ X0.h.length s (I x0))
  (h:∀ x,J x→vc P T X0 c (I x) (CP X0.h.length I J μ x Q)):SWP P X0 (.loop c) s Q :=
 zDt I J μ x0 hJ hw fun x hx=>dG hT hm c (h x hx)
theorem zNf {α:Type} {n0:Nat} {I:α→DS} {J:α→Prop} {μ:α→Nat} {x:α} {id:Nat} {s:DS}:CP n0 I J μ x Q (.exit id) s=Q (.exit id) s:=nr rfl
theorem zNg {α:Type} {n0:Nat} {I:α→DS} {J:α→Prop} {μ:α→Nat} {x:α} {s:DS}:CP n0 I J μ x Q .ret s=Q .ret s:=nr rfl
theorem qB {α:Type} {n0:Nat} {I:α→DS} {J:α→Prop} {μ:α→Nat} {x:α} {s:DS} (y:α) (h1:J y) (h2:μ y < μ x) (h3:HJ n0 s (I y)):CP n0 I J μ x Q .normal s:=⟨y,h1,h2,h3⟩
end
attribute [go_sem] zNf zNg
end Go.Dm
end
section
set_option maxRecDepth 100000
namespace Go.Dm
open Go
theorem aA.rowR {P:Program} {f:FuncId} {args:List DV} {k:Nat} {es:List (List PV)} (hc:aA P f args [] fun d h'=>(d=.c (.p .nil)∧es=[])∨∃ j,d=.c (.own j 0 es.length)∧h'[j]? = some (.arr k es false)):
  aA P f args [] fun d h'=>d=.c (.own 0 0 es.length)∧h'=[.arr k es false]:=by
 intro X vals hh hi gd hr;have key:∀ v w',Ret X (fun d h'=>(d=.c (.p .nil)∧es=[])∨∃ j,d=.c (.own j 0 es.length)∧h'[j]? = some (.arr k es false)) v w'→Ret X (fun d h'=>d=.c (.own 0 0 es.length)∧h'=[.arr k es false]) v w':=by
  rintro v w' ⟨d,Z,k1,k2,k3,k4,k5⟩;rcases k5 with ⟨rfl,rfl⟩|⟨j,rfl,hj⟩
  ·have hc1:HInv (Z.cut 0):=k2.cut (by simp);have hc2:Step X (Z.cut 0):=k3.cut (by rw [hh];exact Nat.zero_le _);obtain ⟨v1,v2⟩:=virt hc1 k;have hz:(Z.cut 0).h=[]:=by simp [Ctx.cut]
   refine ⟨.c (.own 0 0 0),(Z.cut 0).virt k,k1,v2,hc2.trans hc1 v1,?_,rfl,by simp [Ctx.virt,hz]⟩
   have hn:bS (Z.cut 0) (.p .nil) v:=k4;have:=gS (X:=Z.cut 0) (k:=k) hn;rw [hz] at this;exact this
  ·have h4:BZ [j] 0 Z.h 0 [.arr k es false]:=⟨⟨by simp [rn,DB.rn,hj],rfl⟩,True.intro⟩
   obtain ⟨g1,g2,g3⟩:=GJ (X0:=X) (h:=[.arr k es false]) (tb:=[j]) (by rw [hh];rfl) k2 k3 (Nat.zero_le _) rfl rfl h4 rfl;refine ⟨.c (.own 0 0 es.length),Dm.perm Z [j] [.arr k es false],k1,g1,g2,?_,rfl,rfl⟩;exact bA.pull g3 (c:=.c (.own 0 0 es.length)) rfl (by simpa [DV.rn,CV.rn,rn] using k4)
 rcases hc X vals hh hi gd hr with ⟨h1,h2⟩|⟨v,w',h1,h2⟩
 ·exact .inl ⟨h1,h2.mono fun e w' ⟨v,he,hv⟩=>⟨v,he,key v w' hv⟩⟩
 ·exact .inr ⟨v,w',h1,key v w' h2⟩
end Go.Dm
end
section
namespace Go.Proofs.YtlbfnbldeefgmaaGreatDoor
open Go Go.Dm Go.Proofs
set_option maxRecDepth 100000
set_option maxHeartbeats 8000000
theorem zGK {l:List Int} {a:Int} (hl:l.length≤1000000):aA Tryz.prog 261 [.c (.p (.sl 1 (cW l))),.c (.p (.i .i64 a))] []
  fun r h=>r=.c (.p (.i .i64 (QY l a)))∧h=[]:=by
 refine ent aB aK Tryz.func261 rfl rfl fun X0 hX=>?_;simp only [Tryz.f261,go_sem]
 repeat' (first|exact ⟨⟩|refine sp ?_)
 refine aY aB aK (α:=Nat) (fun k=>⟨19,[(0,.c (.p (.sl 1 (cW l)))),(1,.c (.p (.i .i64 a))),(7,.c (.p (.i .i64 l.length))),(8,.c (.p (.i .i64 k)))],[]⟩)
  (fun k=>k≤l.length∧∀ (j:Nat) (y:Int),j<k→l[j]? = some y→(a == y)=false) (fun k=>l.length-k) 0 ⟨Nat.zero_le _,fun j y h=>by omega⟩ (.inl (aI (by rw [hX];rfl) rfl rfl (by simp [aH,aL,aD,aJ,aF,]))) ?_
 rintro k ⟨hk,hs⟩;by_cases hlt:k<l.length
 ·have hx:l[k]? = some l[k]:=List.getElem?_eq_getElem hlt;have hg:=tH hx;have h1:decide ((k:Int)<(l.length:Int))=true:=decide_eq_true (by omega);have w1:IntKind.i64.wrap ((k:Int)+1)=k+1:=wrap_i64 (by omega) (by omega);generalize l[k]=x at hx hg;cases hb:(a == x)
  ·have hJ:PLift (k+1≤l.length∧∀ (j:Nat) (y:Int),j<k+1→l[j]? = some y→(a == y)=false):=⟨by omega,fun j y hj hy=>by
    rcases Nat.lt_or_ge j k with h|h
    ·exact hs j y h hy
    ·have:j=k:=by omega
     subst this;rw [hx] at hy;cases hy;exact hb⟩
   clear hs hx
   repeat' (first|exact ⟨⟩|refine sp ?_|((with_reducible refine And.intro ?_ ?_);omega))
   exact fD (k+1) hJ.down (by omega) (aI rfl rfl rfl (by simp [aH,aL,aD,aJ,aF,]))
  ·have hJ:=PLift.up (zC2 hs hx hb);clear hs hx
   repeat' (first|exact ⟨⟩|refine sp ?_|((with_reducible refine And.intro ?_ ?_);omega))
   all_goals rw [hJ.down]
 ·have h1:decide ((k:Int)<(l.length:Int))=false:=decide_eq_false (by omega);have hJ:=PLift.up (KY (l:=l) (a:=a) fun j y hj=>hs j y (by have:=(List.getElem?_eq_some_iff.1 hj).1;omega) hj);clear hs
  repeat' (first|exact ⟨⟩|refine sp ?_)
  all_goals rw [hJ.down]
theorem QB {l:List Int} {a:Int} (hl:l.length≤1000000):aA Tryz.prog 216 [.c (.p (.sl 1 (cW l))),.c (.p (.i .i64 a))] []
  fun r h=>r=.c (.p (.b (l.contains a)))∧h=[]:=by
 rw [← zGG];refine ent aB aK Tryz.func216 rfl rfl fun X0 hX=>?_;simp only [Tryz.f216,go_sem]
 repeat' (first|exact ⟨⟩|refine sp ?_|refine uF (zGK hl) ?_)
theorem TY {l:List Ly} (hl:l.length≤1000000):aA Tryz.prog 52 [.c (.p (.sl 4 (cZ l)))] [] fun r h=>r=.c (.own 0 0 (cZ l).length)∧h=[.arr 4 (cZ l) false]:=by
 refine aA.rowR ?_;have h0:=fZ l;cases l with
 | nil =>
  refine VO aB aK Tryz.func52 rfl rfl fun X0 hX=>?_;simp only [Tryz.f52,go_sem]
  repeat' (first|exact ⟨⟩|refine sp ?_)
  all_goals first|exact .inl ⟨rfl,rfl⟩|exact .inr ⟨_,rfl,rfl⟩|exact ⟨.inl trivial,rfl,.inr ⟨1,rfl,rfl⟩⟩
 | cons x l =>
  have e:cZ (x::l)=x.cs::cZ l:=rfl;have h2:=VJ (x::l);have h1:(cZ (x::l)).length≤1000000:=by rw [h0];exact hl
  clear h0;rw [e] at h1 h2 ⊢;have h3:x.cs.length=4:=rfl;refine VO aB aK Tryz.func52 rfl rfl fun X0 hX=>?_;simp only [Tryz.f52,go_sem]
  repeat' (first|exact ⟨⟩|refine sp ?_|((with_reducible refine And.intro ?_ ?_);decide))
  all_goals first|omega|exact .inr ⟨_,rfl,rfl⟩|(simp_all;done)|(simp_all;omega)
theorem zBo {l:List Nm} (hl:l.length≤1000000):aA Tryz.prog 51 [.c (.p (.sl 2 (bM l)))] [] fun r h=>r=.c (.own 0 0 (bM l).length)∧h=[.arr 2 (bM l) false]:=by
 refine aA.rowR ?_;have h0:=fC l;cases l with
 | nil =>
  refine VO aB aK Tryz.func51 rfl rfl fun X0 hX=>?_;simp only [Tryz.f51,go_sem]
  repeat' (first|exact ⟨⟩|refine sp ?_)
  all_goals first|exact .inl ⟨rfl,rfl⟩|exact .inr ⟨_,rfl,rfl⟩|exact ⟨.inl trivial,rfl,.inr ⟨1,rfl,rfl⟩⟩
 | cons x l =>
  have e:bM (x::l)=[.s x.n,.i .i64 x.l]::bM l:=rfl;have h2:=KC (x::l);have h1:(bM (x::l)).length≤1000000:=by rw [h0];exact hl
  clear h0;rw [e] at h1 h2 ⊢;refine VO aB aK Tryz.func51 rfl rfl fun X0 hX=>?_;simp only [Tryz.f51,go_sem]
  repeat' (first|exact ⟨⟩|refine sp ?_|((with_reducible refine And.intro ?_ ?_);decide))
  all_goals first|omega|exact .inr ⟨_,rfl,rfl⟩|(simp_all;done)|(simp_all;omega)
theorem CW {l:List Int} (hl:l.length≤1000000):aA Tryz.prog 197 [.c (.own 0 0 l.length)] [.arr 1 (cW l) false] fun r h=>r=.tup []∧h=[.arr 1 (cW l.reverse) false]:=by
 have w0:IntKind.i64.wrap ((l.length:Int)-1)=l.length-1:=wrap_i64 (by omega) (by omega);refine ent aB aK Tryz.func197 rfl rfl fun X0 hX=>?_;simp only [Tryz.f197,go_sem]
 repeat' (first|exact ⟨⟩|refine sp ?_)
 refine aY aB aK (α:=Nat) (fun k=>⟨28,[(0,.c (.own 0 0 l.length)),(2,.c (.p (.i .i64 k))),(3,.c (.p (.i .i64 ((l.length:Int)-1-k))))],[.arr 1 (cW (swI l k)) false]⟩)
  (fun k=>2*k≤l.length+1) (fun k=>l.length+1-2*k) 0 (by omega) (.inl (aI (by rw [hX];rfl) (by rw [zHz];rfl) rfl (by simp [aH,aL,aD,aJ,aF]))) ?_
 intro k hk;have hsl:=uH l k;by_cases hlt:2*k+1<l.length
 ·have h1:decide ((k:Int)<(l.length:Int)-1-k)=true:=decide_eq_true (by omega);obtain ⟨j,hj⟩:∃ j:Nat,(l.length:Int)-1-k=j∧j=l.length-1-k:=⟨l.length-1-k,by omega,rfl⟩
  have g1:=tH (zL4 (l:=l) (i:=k) hlt);have g2:=tH (zIB (l:=l) (i:=k) hlt);have hst:=zHy hlt;rw [← hj.2] at g2 hst;have w1:IntKind.i64.wrap ((k:Int)+1)=k+1:=wrap_i64 (by omega) (by omega);have w2:IntKind.i64.wrap ((j:Int)-1)=j-1:=wrap_i64 (by omega) (by omega);have b1:k<(cW (swI l k)).length:=by rw [eS,hsl];omega
  have b2:j<(cW (swI l k)).length:=by rw [eS,hsl];omega
  have b3:(k:Int)<(l.length:Int):=by omega
  have b4:(j:Int)<(l.length:Int):=by omega
  have b5:(0:Int)≤(k:Int):=by omega
  have b6:(0:Int)≤(j:Int):=by omega
  have b7:k<l.length:=by omega
  have b8:j<l.length:=by omega
  rw [hj.1] at h1 ⊢;have hJ:=PLift.up hj;clear hj;generalize l.getD k 0=u at g1 hst;have g3:(cW ((swI l k).set k (l.getD j 0))).getD j []=[.i .i64 (l.getD j 0)]:=by
   refine tH ?_;have hkj:k≠j:=by have:=hJ.down;omega
   rw [List.getElem?_set_ne hkj,hJ.down.2];exact zIB (l:=l) (i:=k) hlt
  have b9:j<((swI l k).set k (l.getD j 0)).length:=by rw [List.length_set,hsl];exact b8
  generalize l.getD j 0=v at g2 g3 b9 hst
  repeat' (first|exact ⟨⟩|refine sp ?_|((refine aN (id:=3) aB aK [13,15] [0,1,4,5,6,7,8,9,10,11,12,13,2,3,14,15] (by decide +kernel) ?_);(repeat' (first|(refine aT ?_)|((refine cV ?_ ?_ rfl rfl rfl ?_ ?_);(rotate_left 2);(focus ((repeat' (first|exact ⟨⟩|refine sp ?_));((refine And.intro ?_ ?_ <;> exact rfl))));(simp only [bI]))|((refine cU ?_ rfl rfl rfl ?_ ?_);(rotate_left 1);(focus ((repeat' (first|exact bG|refine aZ ?_ ?_));(all_goals ((repeat' (first|exact ⟨⟩|refine sp ?_));(try (exact rfl))))));(simp only [aG]))))))
  exact fD (k+1) (by omega) (by omega) (aI rfl rfl rfl (by have:=hJ.down;simp [aH,aL,aD,aJ,aF];omega))
 ·have h1:decide ((k:Int)<(l.length:Int)-1-k)=false:=decide_eq_false (by omega);have he:=PLift.up (zKl (l:=l) (i:=k) (by omega))
  repeat' (first|exact ⟨⟩|refine sp ?_)
  all_goals rw [he.down]
end Go.Proofs.YtlbfnbldeefgmaaGreatDoor
end
