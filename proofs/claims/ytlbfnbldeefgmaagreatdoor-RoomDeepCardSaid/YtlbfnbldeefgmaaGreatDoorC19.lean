/- Part 20 of the proof of roomDeep_card, set without needless blanks. No condition. -/
import Derived.Test.YtlbfnbldeefgmaaGreatDoorC18
set_option linter.all false
section
namespace Go.Dm
open Go
section
variable {P:Program} {T:Tab} {X0:Ctx} {c:Code} {Q:Exit→DS→Prop}
def zF1 (n0:Nat) (s s':DS):Prop:=DY n0 s s'∨∃ i id off len x,look s.t i=.c (.own id off len)∧WB s.h (.own id off len)=some x∧DX n0 ⟨s.n,(i,.c (.p x))::s.t,sC s.h [id]⟩ s'
theorem zF1.use {n0:Nat} {s s':DS} (h:zF1 n0 s s') {X0 X:Ctx} {a:Act} (hn:X0.h.length=n0) (hh:X.h=s.h) (hi:HInv X) (hs:Step X0 X) (ht:TInv X s a):∃ X',X'.w=X.w∧X'.h=s'.h∧HInv X'∧Step X0 X'∧TInv X' s' a:=by
 rcases h with h|⟨i,id,off,len,x,hl,hp,hw⟩
 ·exact h.use hn hh hi hs ht
 ·obtain ⟨X',h1,h2,h3,h4,h5,h6⟩:=iD [id] hi;obtain ⟨X2,e1,e2,e3,e4,e5⟩:=hw.use (X:=X') hn (by rw [h2,hh]) h5 (hs.trans hi h4) ⟨ht.size,fun j=>by
   simp only [look];split
   ·rename_i hij;subst hij;have:=ht.rel j;rw [hl] at this;simp only [aX] at this;simp only [aX,bP];exact qA hi h4 h1 this (by rw [hh];exact hp) h6
   ·exact (ht.rel j).step h4,ht.defs⟩
  exact ⟨X2,e1.trans h1,e2,e3,e4,e5⟩
def zFD {α:Type} (n0:Nat) (I:α→DS) (J:α→Prop) (μ:α→Nat) (x:α) (Q:Exit→DS→Prop):Exit→DS→Prop:=fun e s'=>match e with
 | .normal=>∃ y,J y∧μ y < μ x∧zF1 n0 s' (I y)
 | e=>Q e s'
theorem qd_e {α:Type} {n0:Nat} {I:α→DS} {J:α→Prop} {μ:α→Nat} {x:α} {id:Nat} {s:DS}:zFD n0 I J μ x Q (.exit id) s=Q (.exit id) s:=nr rfl
theorem qd_r {α:Type} {n0:Nat} {I:α→DS} {J:α→Prop} {μ:α→Nat} {x:α} {s:DS}:zFD n0 I J μ x Q .ret s=Q .ret s:=nr rfl
attribute [go_sem] qd_e qd_r
end
end Go.Dm
end
section
namespace Go.Proofs.YtlbfnbldeefgmaaGreatDoor
open Go Go.Dm Go.Proofs
set_option maxRecDepth 100000
set_option maxHeartbeats 8000000
theorem sD {a i p s:Int} {f:Bool}:aA Tryz.prog 170 [.agg [.p (.i .i64 i),.p (.i .i64 p),.p (.i .i64 s),.p (.b f)],.c (.ptr 0 0)] [.box [.p (.i .i64 a)]] fun r h=>r=.c (.p (.b (i == a)))∧h=[.box [.p (.i .i64 a)]]:=by
 refine ent aC aK Tryz.func170 rfl rfl fun X0 hX=>?_;simp only [Tryz.f170,go_sem]
 repeat' (simp only [*,go_sem,Nat.reduceLT,Nat.reduceEqDiff,↓reduceIte,])
theorem zD2 {l:List Ly} {a:Int} (hl:l.length≤1000000):aA Tryz.prog 118 [.c (.p (.sl 4 (cY l))),.c (.clo 170 [.ptr 0 0])] [.box [.p (.i .i64 a)]]
  fun r h=>r=.c (.p (.i .i64 (zAx l a)))∧h=[.box [.p (.i .i64 a)]]:=by
 refine ent aC aK Tryz.func118 rfl rfl fun X0 hX=>?_;simp only [Tryz.f118,go_sem]
 repeat' (simp only [*,go_sem,Nat.reduceLT,Nat.reduceEqDiff,↓reduceIte,Int.reduceNeg,])
 refine bQ aC aK (α:=Nat) (fun k=>⟨19,[(0,.c (.p (.sl 4 (cY l)))),(1,.c (.clo 170 [.ptr 0 0])),(7,.c (.p (.i .i64 l.length))),(8,.c (.p (.i .i64 k)))],[.box [.p (.i .i64 a)]]⟩)
  (fun k=>k≤l.length∧∀ (j:Nat) (y:Ly),j<k→l[j]? = some y→(y.i == a)=false) (fun k=>l.length-k) 0 ⟨Nat.zero_le _,fun j y h=>by omega⟩ (.inl (aJ (by rw [hX];rfl) rfl rfl (by simp [aH,aN,aD,aL,aG,cC]))) ?_
 rintro k ⟨hk,hs⟩;by_cases hlt:k<l.length
 ·have hx:l[k]? = some l[k]:=List.getElem?_eq_getElem hlt;have hg:=kJ hx;have h1:decide ((k:Int)<(l.length:Int))=true:=decide_eq_true (by omega);have w1:IntKind.i64.wrap ((k:Int)+1)=k+1:=wrap_i64 (by omega) (by omega);generalize l[k]=x at hx hg;cases hb:(x.i == a)
  ·have hJ:PLift (k+1≤l.length∧∀ (j:Nat) (y:Ly),j<k+1→l[j]? = some y→(y.i == a)=false):=⟨by omega,fun j y hj hy=>by
    rcases Nat.lt_or_ge j k with h|h
    ·exact hs j y h hy
    ·have:j=k:=by omega
     subst this;rw [hx] at hy;cases hy;exact hb⟩
   clear hs hx
   repeat' (first|simp only [*,go_sem,Nat.reduceLT,Nat.reduceLeDiff,Nat.reduceEqDiff,↓reduceIte,Nat.reduceAdd,Int.reduceNeg,]|refine zI9 sD rfl rfl rfl ?_|((with_reducible refine And.intro ?_ ?_);omega))
   exact jC (k+1) hJ.down (by omega) (aJ rfl rfl rfl (by simp [aH,aN,aD,aL,aG,cC]))
  ·have hJ:=PLift.up (zAy hs hx hb).1;clear hs hx
   repeat' (first|simp only [*,go_sem,Nat.reduceLT,Nat.reduceLeDiff,Nat.reduceEqDiff,↓reduceIte,Nat.reduceAdd,Int.reduceNeg,]|refine zI9 sD rfl rfl rfl ?_|((with_reducible refine And.intro ?_ ?_);omega))
   all_goals rw [hJ.down]
 ·have h1:decide ((k:Int)<(l.length:Int))=false:=decide_eq_false (by omega);have hJ:=PLift.up (GG (l:=l) (a:=a) fun j y hj=>hs j y (by have:=(List.getElem?_eq_some_iff.1 hj).1;omega) hj);clear hs
  repeat' (simp only [*,go_sem,Nat.reduceLT,Nat.reduceEqDiff,↓reduceIte,Int.reduceNeg,])
  all_goals rw [hJ.down]
theorem BK {l:List Ly} {a:Int} (hl:l.length≤1000000):aA Tryz.prog 97 [.c (.p (.sl 4 (cY l))),.c (.p (.i .i64 a))] []
  fun r h=>r=.tup [.agg ((eA l a).getD ly0).cv,.c (.p (.b (eA l a).isSome))]∧h=[]:=by
 have hc:=zD2 (a:=a) hl;rcases zDO l a with ⟨h1,h2⟩|⟨k,x,h1,h2,h3⟩
 ·rw [h2] at hc;rw [h1];clear h1 h2;refine ent aC aK Tryz.func97 rfl rfl fun X0 hX=>?_;simp only [Tryz.f97,go_sem]
  repeat' (first|simp only [*,go_sem,Nat.reduceLT,Nat.reduceLeDiff,Nat.reduceEqDiff,↓reduceIte,Nat.reduceAdd,Int.reduceLT,Int.reduceNeg,]|((with_reducible refine aS [0] (hc) ?_ ?_ ?_ ?_);exact rfl;exact rfl;(focus ((simp only [go_sem];done)))))
  all_goals simp [ly0]
 ·rw [h2] at hc;rw [h1];have hlt:=(List.getElem?_eq_some_iff.1 h3).1;have hg:=kJ h3;have k1:decide ((k:Int)<0)=false:=decide_eq_false (by omega);have k2:(0:Int)≤(k:Int):=by omega
  have k3:(k:Int)<(l.length:Int):=by omega
  clear h1 h2 h3;refine ent aC aK Tryz.func97 rfl rfl fun X0 hX=>?_;simp only [Tryz.f97,go_sem]
  repeat' (first|simp only [*,go_sem,Nat.reduceLT,Nat.reduceLeDiff,Nat.reduceEqDiff,↓reduceIte,Nat.reduceAdd,]|((with_reducible refine aS [0] (hc) ?_ ?_ ?_ ?_);exact rfl;exact rfl;(focus ((simp only [go_sem];done)))))
  all_goals simp [Ly.cv]
end Go.Proofs.YtlbfnbldeefgmaaGreatDoor
end
section
namespace Go.Dm
open Go
def LH:List Int→Int→Int
 | [],_=>-1
 | x::l,a=>if a == x then 0 else if LH l a == -1 then -1 else LH l a+1
theorem zAA:∀ (l:List Int) (a:Int),-1≤LH l a
 | [],_=>Int.le_refl _
 | x::l,a=>by
  simp only [LH];have:=zAA l a;split
  ·omega
  ·split
   ·omega
   ·omega
theorem GH {a:Int}:∀ {l:List Int},(∀ (k:Nat) (x:Int),l[k]? = some x→(a == x)=false)→LH l a = -1
 | [],_=>rfl
 | x::l,h=>by
  simp only [LH];rw [h 0 x rfl,GH (l:=l) fun k y hy=>h (k+1) y (by simpa using hy)];rfl
theorem zAz {a:Int}:∀ {l:List Int} {i:Nat} {x:Int},(∀ (k:Nat) (y:Int),k<i→l[k]? = some y→(a == y)=false)→l[i]? = some x→(a == x)=true→LH l a=i
 | [],_,_,_,h,_=>by simp at h
 | y::l,0,x,_,h,hx=>by
  simp only [List.getElem?_cons_zero,Option.some.injEq] at h;subst h;simp only [LH];rw [hx];rfl
 | y::l,i+1,x,hn,h,hx=>by
  simp only [List.getElem?_cons_succ] at h;have h1:=zAz (l:=l) (i:=i) (fun k z hk hz=>hn (k+1) z (by omega) (by simpa using hz)) h hx;simp only [LH];rw [hn 0 y (by omega) rfl,h1];simp only [Bool.false_eq_true,if_false];rw [if_neg (by first|(simp;done)|(simp;omega))];omega
theorem zD1 (l:List Int) (a:Int):0≤LH l a↔a∈l:=by
 induction l with
 | nil=>simp [LH]
 | cons x l ih =>
  have h0:=zAA l a;simp only [LH,List.mem_cons];by_cases hx:a=x
  ·simp [hx]
  ·rw [if_neg (by simpa using hx)];split
   ·rename_i h;have:=eq_of_beq h;constructor
    ·intro h;omega
    ·rintro (h|h)
     ·exact absurd h hx
     ·have:=ih.2 h;omega
   ·rename_i h;have:LH l a≠-1:=by simpa using h
    constructor
    ·intro _;exact .inr (ih.1 (by omega))
    ·intro _;omega
theorem zD0 (l:List Int) (a:Int):decide (0≤LH l a)=l.contains a:=by
 rw [Bool.eq_iff_iff,decide_eq_true_eq,zD1,List.contains_iff_mem]
def swI (l:List Int) (i:Nat):List Int:=(List.range l.length).map fun k=>if k<i∨l.length≤k+i then l.getD (l.length-1-k) 0 else l.getD k 0
theorem rU (l:List Int) (i:Nat):(swI l i).length=l.length:=by simp [swI]
theorem AK (l:List Int) (i k:Nat) (h:k<l.length):(swI l i)[k]? = some (if k<i∨l.length≤k+i then l.getD (l.length-1-k) 0 else l.getD k 0):=by
 unfold swI;rw [List.getElem?_map,List.getElem?_range h];rfl
theorem zEQ (l:List Int):swI l 0=l:=by
 apply List.ext_getElem?;intro k;by_cases h:k<l.length
 ·rw [AK l 0 k h,if_neg (by omega),List.getD_eq_getElem?_getD,List.getElem?_eq_getElem h];rfl
 ·rw [List.getElem?_eq_none (by rw [rU];omega),List.getElem?_eq_none (by omega)]
theorem zHt {l:List Int} {i:Nat} (h:l.length≤2*i+1):swI l i=l.reverse:=by
 apply List.ext_getElem?;intro k;by_cases hk:k<l.length
 ·rw [AK l i k hk,List.getElem?_reverse hk];by_cases hc:k<i∨l.length≤k+i
  ·rw [if_pos hc,List.getD_eq_getElem?_getD,List.getElem?_eq_getElem (by omega)];rfl
  ·rw [if_neg hc,List.getD_eq_getElem?_getD];have:l.length-1-k=k:=by omega
   rw [this,List.getElem?_eq_getElem hk];rfl
 ·rw [List.getElem?_eq_none (by rw [rU];omega),List.getElem?_eq_none (by rw [List.length_reverse];omega)]
theorem zI2 {l:List Int} {i:Nat} (h:2*i+1<l.length):(swI l i)[i]? = some (l.getD i 0):=by
 rw [AK l i i (by omega),if_neg (by omega)]
theorem zFM {l:List Int} {i:Nat} (h:2*i+1<l.length):(swI l i)[l.length-1-i]? = some (l.getD (l.length-1-i) 0):=by
 rw [AK l i _ (by omega),if_neg (by omega)]
theorem zEP {l:List Int} {i:Nat} (h:2*i+1<l.length):((swI l i).set i (l.getD (l.length-1-i) 0)).set (l.length-1-i) (l.getD i 0)=swI l (i+1):=by
 apply List.ext_getElem?;intro k;by_cases hk:k<l.length
 ·rw [AK l (i+1) k hk,List.getElem?_set,List.getElem?_set,AK l i k hk];simp only [List.length_set,rU];by_cases h1:l.length-1-i=k
  ·rw [if_pos h1,if_pos (by omega),if_pos (by omega)]
   congr 2;omega
  ·rw [if_neg h1];by_cases h2:i=k
   ·rw [if_pos h2,if_pos (by omega),if_pos (by omega)]
    congr 2;omega
   ·rw [if_neg h2]
    congr 1
    by_cases hc:k<i∨l.length≤k+i
    ·rw [if_pos hc,if_pos (by omega)]
    ·rw [if_neg hc,if_neg (by omega)]
 ·rw [List.getElem?_eq_none (by simp [rU];omega),List.getElem?_eq_none (by rw [rU];omega)]
theorem zDv (l:List Int) (k:Nat) (x:Int):(cQ l).set k [.i .i64 x]=cQ (l.set k x):=by simp [cQ,List.map_set]
attribute [go_sem] zDv
end Go.Dm
end
section
set_option maxRecDepth 100000
namespace Go.Dm
open Go
def DM (n0:Nat) (s s':DS):Prop:=∀ (X0 X:Ctx) (a:Act),X0.h.length=n0→X.h=s.h→HInv X→Step X0 X→TInv X s a→∃ X',X'.w=X.w∧X'.h=s'.h∧HInv X'∧Step X0 X'∧TInv X' s' a
theorem DM.trans {n0:Nat} {s t u:DS} (h:DM n0 s t) (k:DM n0 t u):DM n0 s u:=fun X0 X a hn hh hi hs ht=>by
 obtain ⟨Y,h1,h2,h3,h4,h5⟩:=h X0 X a hn hh hi hs ht;obtain ⟨Z,k1,k2,k3,k4,k5⟩:=k X0 Y a hn h2 h3 h4 h5;exact ⟨Z,k1.trans h1,k2,k3,k4,k5⟩
theorem cM {n0:Nat} {s s':DS} (h:DX n0 s s'):DM n0 s s':=fun _ _ _ hn hh hi hs ht=>h.use hn hh hi hs ht
theorem dO {n0:Nat} {s s':DS} (h:WG n0 s s'):DM n0 s s':=fun _ _ _ hn hh hi hs ht=>h.use hn hh hi hs ht
theorem zAT {n0:Nat} {s:DS} (i id off len:Nat) {x:PV} (hl:look s.t i=.c (.own id off len)) (hp:WB s.h (.own id off len)=some x):DM n0 s ⟨s.n,(i,.c (.p x))::s.t,sC s.h [id]⟩:=by
 intro X0 X a hn hh hi hs ht;obtain ⟨X',h1,h2,h3,h4,h5,h6⟩:=iD [id] hi;refine ⟨X',h1,by rw [h2,hh],h5,hs.trans hi h4,ht.size,fun j=>?_,ht.defs⟩
 simp only [look];split
 ·rename_i hij;subst hij;have:=ht.rel j;rw [hl] at this;simp only [aX] at this;simp only [aX,bP];exact qA hi h4 h1 this (by rw [hh];exact hp) h6
 ·exact (ht.rel j).step h4
theorem pQ {n0:Nat} {s:DS} (i k:Nat) (hl:look s.t i=.c (.p .nil)):DM n0 s ⟨s.n,(i,.c (.own s.h.length 0 0))::s.t,s.h++[.arr k [] false]⟩:=by
 intro X0 X a hn hh hi hs ht;obtain ⟨h1,h2⟩:=virt hi k;refine ⟨X.virt k,rfl,by simp [Ctx.virt,hh],h2,hs.trans hi h1,ht.size,fun j=>?_,ht.defs⟩
 simp only [look];split
 ·rename_i hij;subst hij;have:=ht.rel j;rw [hl] at this;rw [← hh];exact oS (hQ (X:=X) (k:=k) this)
 ·exact (ht.rel j).step h1
theorem vP {n0:Nat} {s:DS} (i id off len:Nat) {k:Nat} {es:List (List PV)} (hl:look s.t i=.c (.own id off len)) (hd:s.h[id]? = some (.arr k es false)):
  DM n0 s ⟨s.n,(i,.c (.own s.h.length 0 len))::s.t,s.h.set id .dead++[.arr k ((es.drop off).take len) false]⟩:=by
 intro X0 X a hn hh hi hs ht;rw [← hh] at hd;have hsl:=ht.rel i;rw [hl] at hsl;simp only [aX,bP] at hsl;obtain ⟨q1,q2,q3⟩:=hsl;obtain ⟨q4,q5⟩:=q3 _ _ _ hd;have hb:=hi.blk id _ hd;cases hG:X.G id with
 | none =>
  rw [hG] at q5;simp only [dU] at hb;rcases hb with ⟨_,rfl⟩|⟨g,_,_,_,hg,_⟩
  ·simp only [List.length_nil] at q4;have hlen:len=0:=by omega
   subst hlen;obtain ⟨v1,v2⟩:=virt hi k;have hk:=Step.kill v2 id;refine ⟨(X.virt k).kill id,rfl,?_,v2.kill id,hs.trans hi (v1.trans v2 hk),ht.size,fun j=>?_,ht.defs⟩
   ·show (X.h++[_]).set id .dead=_
    rw [List.set_append_left _ _ q1,hh];simp
   ·simp only [look];split
    ·rename_i hij;subst hij;rw [← hh];refine aX.step hk (oS (x:=.own X.h.length 0 0) ?_);exact hQ (X:=X) (k:=k) (v:=a.tmps.getD j undef) (by simp only [bP,cN];exact q5)
    ·exact ((ht.rel j).step v1).step hk
  ·rw [hG] at hg;cases hg
 | some g =>
  rw [hG] at q5;obtain ⟨cap,o,arr,el,fz,r1,r2,r3,r4,r5,r6⟩:=q5;obtain ⟨k1,k2⟩:=MF (off:=off) (len:=len) hi hd hG q4;refine ⟨X.rebase id (g.1,g.2+off*k) k ((es.drop off).take len),rfl,by simp only [Ctx.rebase,hh],k2,hs.trans hi k1,ht.size,fun j=>?_,ht.defs⟩
  simp only [look];split
  ·rename_i hij;subst hij;rw [← hh];refine oS (x:=.own X.h.length 0 len) ⟨by simp [Ctx.rebase],q2,fun k' es' ro' he=>?_⟩
   simp only [Ctx.rebase] at he ⊢;rw [List.getElem?_append_right (by simp)] at he;simp only [List.length_set,Nat.sub_self,List.getElem?_cons_zero,Option.some.injEq,DB.arr.injEq] at he;obtain ⟨rfl,rfl,rfl⟩:=he;refine ⟨by simp;omega,?_⟩
   rw [if_pos trivial];refine ⟨cap,o,arr,el,fz,r1,r2,r3.imp (fun h=>h) fun h=>by rw [h];simp,r4,r5,?_⟩
   have:(off+cap)*k=off*k+cap*k:=Nat.add_mul _ _ _;simp only [Nat.zero_add];omega
  ·exact (ht.rel j).step k1
section
variable {P:Program} {T:Tab} {X0:Ctx} {s:DS} {Q:Exit→DS→Prop}
theorem zEU {c:Code} {s':DS} (hw:DM X0.h.length s s') (h:SWP P X0 c s' Q):SWP P X0 c s Q:=by
 intro gd X a hh hi hs ht;obtain ⟨X',h1,h2,h3,h4,h5⟩:=hw X0 X a rfl hh hi hs ht;rw [← h1];exact h gd X' a h2 h3 h4 h5
def zJ {α:Type} (n0:Nat) (I:α→DS) (J:α→Prop) (μ:α→Nat) (x:α) (Q:Exit→DS→Prop):Exit→DS→Prop:=fun e s'=>match e with
 | .normal=>∃ y,J y∧μ y < μ x∧DM n0 s' (I y)
 | e=>Q e s'
theorem zAZ {α:Type} {c:Code} (I:α→DS) (J:α→Prop) (μ:α→Nat) (x0:α) (hJ:J x0) (hw:DM X0.h.length s (I x0))
  (h:∀ x,J x→SWP P X0 c (I x) (zJ X0.h.length I J μ x Q)):SWP P X0 (.loop c) s Q:=by
 intro gd X a hh hi hs ht;obtain ⟨X',h1,h2,h3,h4,h5⟩:=hw X0 X a rfl hh hi hs ht;rw [← h1];refine wp_loop_ghost (fun n a w=>∃ x X,μ x=n∧J x∧X.w=w∧X.h=(I x).h∧HInv X∧Step X0 X∧TInv X (I x) a) (μ x0) ⟨x0,X',rfl,hJ,rfl,h2,h3,h4,h5⟩ ?_;rintro n a' w' ⟨x,Y,rfl,k1,rfl,k2,k3,k4,k5⟩;refine wp_mono (h x k1 gd Y a' k2 k3 k4 k5) fun e a w hp=>?_;obtain ⟨s',Z,p1,rfl,p3,p4,p5,p6⟩:=hp;cases e <;> simp only [Exit.then,zJ] at p1 ⊢
 case normal =>
  obtain ⟨y,q1,q2,q3⟩:=p1;obtain ⟨Z',r1,r2,r3,r4,r5⟩:=q3 X0 Z a rfl p3 p4 p5 p6;exact ⟨μ y,q2,y,Z',rfl,q1,r1,r2,r3,r4,r5⟩
 all_goals exact ⟨s',Z,p1,rfl,p3,p4,p5,p6⟩
theorem dS (hT:bG P T) (hm:P.follows .mixedOrders=true) {α:Type} {c:Code} (I:α→DS) (J:α→Prop) (μ:α→Nat) (x0:α) (hJ:J x0) (hw:DM X0.h.length s (I x0))
  (h:∀ x,J x→vc P T X0 c (I x) (zJ X0.h.length I J μ x Q)):SWP P X0 (.loop c) s Q :=
 zAZ I J μ x0 hJ hw fun x hx=>dK hT hm c (h x hx)
theorem zJ9 {α:Type} {n0:Nat} {I:α→DS} {J:α→Prop} {μ:α→Nat} {x:α} {id:Nat} {s:DS}:zJ n0 I J μ x Q (.exit id) s=Q (.exit id) s:=nr rfl
theorem zKa {α:Type} {n0:Nat} {I:α→DS} {J:α→Prop} {μ:α→Nat} {x:α} {s:DS}:zJ n0 I J μ x Q .ret s=Q .ret s:=nr rfl
theorem mM {α:Type} {n0:Nat} {I:α→DS} {J:α→Prop} {μ:α→Nat} {x:α} {s:DS} (y:α) (h1:J y) (h2:μ y < μ x) (h3:DM n0 s (I y)):zJ n0 I J μ x Q .normal s:=⟨y,h1,h2,h3⟩
end
attribute [go_sem] zJ9 zKa
end Go.Dm
end
section
set_option maxRecDepth 100000
namespace Go.Dm
open Go
theorem aA.rowR {P:Program} {f:FuncId} {args:List DV} {k:Nat} {es:List (List PV)} (hc:aA P f args [] fun d h'=>(d=.c (.p .nil)∧es=[])∨∃ j,d=.c (.own j 0 es.length)∧h'[j]? = some (.arr k es false)):
  aA P f args [] fun d h'=>d=.c (.own 0 0 es.length)∧h'=[.arr k es false]:=by
 intro X vals hh hi gd hr;have key:∀ v w',Ret X (fun d h'=>(d=.c (.p .nil)∧es=[])∨∃ j,d=.c (.own j 0 es.length)∧h'[j]? = some (.arr k es false)) v w'→Ret X (fun d h'=>d=.c (.own 0 0 es.length)∧h'=[.arr k es false]) v w':=by
  rintro v w' ⟨d,Z,k1,k2,k3,k4,k5⟩;rcases k5 with ⟨rfl,rfl⟩|⟨j,rfl,hj⟩
  ·have hc1:HInv (Z.cut 0):=k2.cut (by simp);have hc2:Step X (Z.cut 0):=k3.cut (by rw [hh];exact Nat.zero_le _);obtain ⟨v1,v2⟩:=virt hc1 k;have hz:(Z.cut 0).h=[]:=by simp [Ctx.cut]
   refine ⟨.c (.own 0 0 0),(Z.cut 0).virt k,k1,v2,hc2.trans hc1 v1,?_,rfl,by simp [Ctx.virt,hz]⟩
   have hn:bP (Z.cut 0) (.p .nil) v:=k4;have:=hQ (X:=Z.cut 0) (k:=k) hn;rw [hz] at this;exact this
  ·have h4:yU [j] 0 Z.h 0 [.arr k es false]:=⟨⟨by simp [rn,DB.rn,hj],rfl⟩,True.intro⟩
   obtain ⟨g1,g2,g3⟩:=CO (X0:=X) (h:=[.arr k es false]) (tb:=[j]) (by rw [hh];rfl) k2 k3 (Nat.zero_le _) rfl rfl h4 rfl;refine ⟨.c (.own 0 0 es.length),Dm.perm Z [j] [.arr k es false],k1,g1,g2,?_,rfl,rfl⟩;exact aX.pull g3 (c:=.c (.own 0 0 es.length)) rfl (by simpa [DV.rn,CV.rn,rn] using k4)
 rcases hc X vals hh hi gd hr with ⟨h1,h2⟩|⟨v,w',h1,h2⟩
 ·exact .inl ⟨h1,h2.mono fun e w' ⟨v,he,hv⟩=>⟨v,he,key v w' hv⟩⟩
 ·exact .inr ⟨v,w',h1,key v w' h2⟩
end Go.Dm
end
section
namespace Go.Proofs.YtlbfnbldeefgmaaGreatDoor
open Go Go.Dm Go.Proofs
set_option maxRecDepth 100000
set_option maxHeartbeats 8000000
theorem zD4 {l:List Int} {a:Int} (hl:l.length≤1000000):aA Tryz.prog 261 [.c (.p (.sl 1 (cQ l))),.c (.p (.i .i64 a))] []
  fun r h=>r=.c (.p (.i .i64 (LH l a)))∧h=[]:=by
 refine ent aC aK Tryz.func261 rfl rfl fun X0 hX=>?_;simp only [Tryz.f261,go_sem]
 repeat' (simp only [*,go_sem,Nat.reduceLT,Nat.reduceEqDiff,↓reduceIte,Int.reduceNeg,])
 refine bQ aC aK (α:=Nat) (fun k=>⟨19,[(0,.c (.p (.sl 1 (cQ l)))),(1,.c (.p (.i .i64 a))),(7,.c (.p (.i .i64 l.length))),(8,.c (.p (.i .i64 k)))],[]⟩)
  (fun k=>k≤l.length∧∀ (j:Nat) (y:Int),j<k→l[j]? = some y→(a == y)=false) (fun k=>l.length-k) 0 ⟨Nat.zero_le _,fun j y h=>by omega⟩ (.inl (aJ (by rw [hX];rfl) rfl rfl (by simp [aH,aN,aD,aL,aG,]))) ?_
 rintro k ⟨hk,hs⟩;by_cases hlt:k<l.length
 ·have hx:l[k]? = some l[k]:=List.getElem?_eq_getElem hlt;have hg:=rD hx;have h1:decide ((k:Int)<(l.length:Int))=true:=decide_eq_true (by omega);have w1:IntKind.i64.wrap ((k:Int)+1)=k+1:=wrap_i64 (by omega) (by omega);generalize l[k]=x at hx hg;cases hb:(a == x)
  ·have hJ:PLift (k+1≤l.length∧∀ (j:Nat) (y:Int),j<k+1→l[j]? = some y→(a == y)=false):=⟨by omega,fun j y hj hy=>by
    rcases Nat.lt_or_ge j k with h|h
    ·exact hs j y h hy
    ·have:j=k:=by omega
     subst this;rw [hx] at hy;cases hy;exact hb⟩
   clear hs hx
   repeat' (first|simp only [*,go_sem,Nat.reduceLT,Nat.reduceEqDiff,↓reduceIte,Int.reduceNeg,]|((with_reducible refine And.intro ?_ ?_);omega))
   exact jC (k+1) hJ.down (by omega) (aJ rfl rfl rfl (by simp [aH,aN,aD,aL,aG,]))
  ·have hJ:=PLift.up (zAz hs hx hb);clear hs hx
   repeat' (first|simp only [*,go_sem,Nat.reduceLT,Nat.reduceEqDiff,↓reduceIte,Int.reduceNeg,]|((with_reducible refine And.intro ?_ ?_);omega))
   all_goals rw [hJ.down]
 ·have h1:decide ((k:Int)<(l.length:Int))=false:=decide_eq_false (by omega);have hJ:=PLift.up (GH (l:=l) (a:=a) fun j y hj=>hs j y (by have:=(List.getElem?_eq_some_iff.1 hj).1;omega) hj);clear hs
  repeat' (simp only [*,go_sem,Nat.reduceLT,Nat.reduceEqDiff,↓reduceIte,Int.reduceNeg,])
  all_goals rw [hJ.down]
theorem KK {l:List Int} {a:Int} (hl:l.length≤1000000):aA Tryz.prog 216 [.c (.p (.sl 1 (cQ l))),.c (.p (.i .i64 a))] []
  fun r h=>r=.c (.p (.b (l.contains a)))∧h=[]:=by
 rw [← zD0];refine ent aC aK Tryz.func216 rfl rfl fun X0 hX=>?_;simp only [Tryz.f216,go_sem]
 repeat' (first|simp only [*,go_sem,Nat.reduceLT,Nat.reduceEqDiff,↓reduceIte,]|((with_reducible refine aQ (zD4 hl) ?_ ?_ ?_);exact rfl;exact rfl))
theorem NO {l:List Ly} (hl:l.length≤1000000):aA Tryz.prog 52 [.c (.p (.sl 4 (cY l)))] [] fun r h=>r=.c (.own 0 0 (cY l).length)∧h=[.arr 4 (cY l) false]:=by
 refine aA.rowR ?_;have h0:=fN l;cases l with
 | nil =>
  refine PC aC aK Tryz.func52 rfl rfl fun X0 hX=>?_;simp only [Tryz.f52,go_sem]
  repeat' (simp only [*,go_sem,Nat.reduceLT,Nat.reduceLeDiff,Nat.reduceEqDiff,↓reduceIte,Nat.reduceAdd,Nat.reduceMul,])
  all_goals first|exact .inl ⟨rfl,rfl⟩|exact .inr ⟨_,rfl,rfl⟩|exact ⟨.inl trivial,rfl,.inr ⟨1,rfl,rfl⟩⟩
 | cons x l =>
  have e:cY (x::l)=x.cs::cY l:=rfl;have h2:=NX (x::l);have h1:(cY (x::l)).length≤1000000:=by rw [h0];exact hl
  clear h0;rw [e] at h1 h2 ⊢;have h3:x.cs.length=4:=rfl;refine PC aC aK Tryz.func52 rfl rfl fun X0 hX=>?_;simp only [Tryz.f52,go_sem]
  repeat' (first|simp only [*,go_sem,Nat.reduceLT,Nat.reduceLeDiff,Nat.reduceEqDiff,↓reduceIte,Nat.reduceAdd,Nat.reduceMul,]|((with_reducible refine And.intro ?_ ?_);decide))
  all_goals first|omega|exact .inr ⟨_,rfl,rfl⟩|(simp_all;done)|(simp_all;omega)
theorem XD {l:List Nm} (hl:l.length≤1000000):aA Tryz.prog 51 [.c (.p (.sl 2 (bJ l)))] [] fun r h=>r=.c (.own 0 0 (bJ l).length)∧h=[.arr 2 (bJ l) false]:=by
 refine aA.rowR ?_;have h0:=eV l;cases l with
 | nil =>
  refine PC aC aK Tryz.func51 rfl rfl fun X0 hX=>?_;simp only [Tryz.f51,go_sem]
  repeat' (simp only [*,go_sem,Nat.reduceLT,Nat.reduceLeDiff,Nat.reduceEqDiff,↓reduceIte,Nat.reduceAdd,Nat.reduceMul,])
  all_goals first|exact .inl ⟨rfl,rfl⟩|exact .inr ⟨_,rfl,rfl⟩|exact ⟨.inl trivial,rfl,.inr ⟨1,rfl,rfl⟩⟩
 | cons x l =>
  have e:bJ (x::l)=[.s x.n,.i .i64 x.l]::bJ l:=rfl;have h2:=FM (x::l);have h1:(bJ (x::l)).length≤1000000:=by rw [h0];exact hl
  clear h0;rw [e] at h1 h2 ⊢;refine PC aC aK Tryz.func51 rfl rfl fun X0 hX=>?_;simp only [Tryz.f51,go_sem]
  repeat' (first|simp only [*,go_sem,Nat.reduceLT,Nat.reduceLeDiff,Nat.reduceEqDiff,↓reduceIte,Nat.reduceAdd,Nat.reduceMul,]|((with_reducible refine And.intro ?_ ?_);decide))
  all_goals first|omega|exact .inr ⟨_,rfl,rfl⟩|(simp_all;done)|(simp_all;omega)
theorem zQ {l:List Int} (hl:l.length≤1000000):aA Tryz.prog 197 [.c (.own 0 0 l.length)] [.arr 1 (cQ l) false] fun r h=>r=.tup []∧h=[.arr 1 (cQ l.reverse) false]:=by
 have w0:IntKind.i64.wrap ((l.length:Int)-1)=l.length-1:=wrap_i64 (by omega) (by omega);refine ent aC aK Tryz.func197 rfl rfl fun X0 hX=>?_;simp only [Tryz.f197,go_sem]
 repeat' (simp only [*,go_sem,Nat.reduceLT,Nat.reduceEqDiff,↓reduceIte,])
 refine bQ aC aK (α:=Nat) (fun k=>⟨28,[(0,.c (.own 0 0 l.length)),(2,.c (.p (.i .i64 k))),(3,.c (.p (.i .i64 ((l.length:Int)-1-k))))],[.arr 1 (cQ (swI l k)) false]⟩)
  (fun k=>2*k≤l.length+1) (fun k=>l.length+1-2*k) 0 (by omega) (.inl (aJ (by rw [hX];rfl) (by rw [zEQ];rfl) rfl (by simp [aH,aN,aD,aL,aG]))) ?_
 intro k hk;have hsl:=rU l k;by_cases hlt:2*k+1<l.length
 ·have h1:decide ((k:Int)<(l.length:Int)-1-k)=true:=decide_eq_true (by omega);obtain ⟨j,hj⟩:∃ j:Nat,(l.length:Int)-1-k=j∧j=l.length-1-k:=⟨l.length-1-k,by omega,rfl⟩
  have g1:=rD (zI2 (l:=l) (i:=k) hlt);have g2:=rD (zFM (l:=l) (i:=k) hlt);have hst:=zEP hlt;rw [← hj.2] at g2 hst;have w1:IntKind.i64.wrap ((k:Int)+1)=k+1:=wrap_i64 (by omega) (by omega);have w2:IntKind.i64.wrap ((j:Int)-1)=j-1:=wrap_i64 (by omega) (by omega);have b1:k<(cQ (swI l k)).length:=by rw [eM,hsl];omega
  have b2:j<(cQ (swI l k)).length:=by rw [eM,hsl];omega
  have b3:(k:Int)<(l.length:Int):=by omega
  have b4:(j:Int)<(l.length:Int):=by omega
  have b5:(0:Int)≤(k:Int):=by omega
  have b6:(0:Int)≤(j:Int):=by omega
  have b7:k<l.length:=by omega
  have b8:j<l.length:=by omega
  rw [hj.1] at h1 ⊢;have hJ:=PLift.up hj;clear hj;generalize l.getD k 0=u at g1 hst;have g3:(cQ ((swI l k).set k (l.getD j 0))).getD j []=[.i .i64 (l.getD j 0)]:=by
   refine rD ?_;have hkj:k≠j:=by have:=hJ.down;omega
   rw [List.getElem?_set_ne hkj,hJ.down.2];exact zFM (l:=l) (i:=k) hlt
  have b9:j<((swI l k).set k (l.getD j 0)).length:=by rw [List.length_set,hsl];exact b8
  generalize l.getD j 0=v at g2 g3 b9 hst
  repeat' (first|simp only [*,go_sem,Nat.reduceLT,Nat.reduceEqDiff,↓reduceIte,]|((refine aO (id:=3) aC aK [13,15] [0,1,4,5,6,7,8,9,10,11,12,13,2,3,14,15] (by decide +kernel) ?_);(repeat' (first|(refine bC ?_)|((refine dB ?_ ?_ rfl rfl rfl ?_ ?_);(rotate_left 2);(focus ((repeat' (simp only [*,go_sem,Nat.reduceLeDiff,Nat.reduceEqDiff,↓reduceIte,]));((refine And.intro ?_ ?_ <;> exact rfl))));(simp only [bF]))|((refine dA ?_ rfl rfl rfl ?_ ?_);(rotate_left 1);(focus ((repeat' (first|exact bI|refine bA ?_ ?_));(all_goals ((repeat' (simp only [*,go_sem,Nat.reduceLT,Nat.reduceEqDiff,↓reduceIte,]));(try (exact rfl))))));(simp only [aF]))))))
  exact jC (k+1) (by omega) (by omega) (aJ rfl rfl rfl (by have:=hJ.down;simp [aH,aN,aD,aL,aG];omega))
 ·have h1:decide ((k:Int)<(l.length:Int)-1-k)=false:=decide_eq_false (by omega);have he:=PLift.up (zHt (l:=l) (i:=k) (by omega))
  repeat' (simp only [*,go_sem,Nat.reduceLT,Nat.reduceEqDiff,↓reduceIte,])
  all_goals rw [he.down]
end Go.Proofs.YtlbfnbldeefgmaaGreatDoor
end
