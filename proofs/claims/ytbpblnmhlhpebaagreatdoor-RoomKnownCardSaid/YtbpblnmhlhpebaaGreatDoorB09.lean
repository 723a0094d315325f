/- Part 10 of the proof of roomKnown_card. No condition. -/
import Derived.Test.YtbpblnmhlhpebaaGreatDoorB03
set_option linter.all false
namespace Go.Dm
open Go
section
structure Ly where
 i:Int
 p:Int
 s:Int
 f:Bool
def Ly.cs (x:Ly):List PV:=[.i .i64 x.i,.i .i64 x.p,.i .i64 x.s,.b x.f]
def Ly.cv (x:Ly):List CV:=[.p (.i .i64 x.i),.p (.i .i64 x.p),.p (.i .i64 x.s),.p (.b x.f)]
def ly0:Ly:=⟨0,0,0,false⟩
def dS (l:List Ly):List (List PV):=l.map Ly.cs
theorem kJ (l:List Ly):(dS l).length=l.length:=by simp [dS]
theorem zFC:dS []=[]:=rfl
theorem pX {l:List Ly} {k:Nat} {x:Ly} (h:l[k]? = some x):(dS l).getD k []=[.i .i64 x.i,.i .i64 x.p,.i .i64 x.s,.b x.f]:=by
 simp only [dS,List.getD_eq_getElem?_getD,List.getElem?_map,h]
 rfl
theorem TU (l:List Ly):(∀ x∈dS l,x.length=4)=True:=eq_true fun x hx=>by
 obtain ⟨y,_,rfl⟩:=List.mem_map.1 hx
 rfl
theorem zBR (a:List Ly) (n:Nat):(dS a).take n=dS (a.take n):=by simp [dS]
theorem zCp (a:List Ly) (n:Nat):(dS a).drop n=dS (a.drop n):=by simp [dS]
theorem zFd (a b:List Ly):dS a++dS b=dS (a++b):=by simp [dS]
theorem zBy (t:List Ly) (i p s:Int) (f:Bool):dS t++[[.i .i64 i,.i .i64 p,.i .i64 s,.b f]]=dS (t++[⟨i,p,s,f⟩]):=by simp [dS,Ly.cs]
theorem SU (t:List Ly) (k:Nat) (i p s:Int) (f:Bool):(dS t).set k [.i .i64 i,.i .i64 p,.i .i64 s,.b f]=dS (t.set k ⟨i,p,s,f⟩):=by simp [dS,Ly.cs,List.map_set]
theorem zK2 (x:Ly):Ly.mk x.i x.p x.s x.f=x:=rfl
def cV (l:List Int):List (List PV):=l.map fun n=>[.i .i64 n]
theorem eN (l:List Int):(cV l).length=l.length:=by simp [cV]
theorem zFk:cV []=[]:=rfl
theorem pT {l:List Int} {k:Nat} {x:Int} (h:l[k]? = some x):(cV l).getD k []=[.i .i64 x]:=by
 simp only [cV,List.getD_eq_getElem?_getD,List.getElem?_map,h]
 rfl
theorem zGG (l:List Int):(∀ x∈cV l,x.length=1)=True:=eq_true fun x hx=>by
 obtain ⟨y,_,rfl⟩:=List.mem_map.1 hx
 rfl
theorem zB0 (a:List Int) (n:Nat):(cV a).take n=cV (a.take n):=by simp [cV]
theorem zAg (a:List Int) (n:Nat):(cV a).drop n=cV (a.drop n):=by simp [cV]
theorem zGf (a b:List Int):cV a++cV b=cV (a++b):=by simp [cV]
theorem zCu (t:List Int) (i:Int):cV t++[[.i .i64 i]]=cV (t++[i]):=by simp [cV]
def eQ (l:List Ly) (id:Int):Option Ly:=l.find? fun x=>x.i == id
theorem nL {l:List Ly} {id:Int} {x:Ly} (h:eQ l id=some x):x∈l∧x.i=id:=⟨List.mem_of_find?_eq_some h,eq_of_beq (List.find?_some (p:=fun z:Ly=>z.i == id) h)⟩
theorem zFh {l:List Ly} {id:Int} (h:eQ l id=none):∀ x∈l,x.i≠id:=fun x hx e=>by
 have:=List.find?_eq_none.1 h x hx
 simp [e] at this
theorem oV (x:Ly) (l:List Ly) (id:Int):eQ (x::l) id=if x.i == id then some x else eQ l id:=by
 simp only [eQ,List.find?_cons]
 cases x.i == id <;> rfl
def eL (l:List Ly):Nat→Int→List Int
 | 0,_=>[]
 | n+1,id=>match eQ l id with
  | some x=>x.i::eL l n x.p
  | none=>[]
def bO (l:List Ly) (id:Int):List Int:=(eL l (l.length+1) id).reverse
theorem CU (l:List Ly):∀ (n:Nat) (id:Int),(eL l n id).length≤n
 | 0,_=>Nat.le_refl _
 | n+1,id=>by
  simp only [eL]
  split
  ·simp only [List.length_cons];have:=CU l n;exact Nat.succ_le_succ (this _)
  ·exact Nat.zero_le _
theorem ZB (l:List Ly) (id:Int):(bO l id).length≤l.length+1:=by
 unfold bO;rw [List.length_reverse];exact CU _ _ _
def oL (l:List Ly):Prop:=l.Pairwise fun x y=>x.i<y.i
theorem mJ {l:List Ly} (h:oL l) {x:Ly} (hx:x∈l):eQ l x.i=some x:=by
 induction l with
 | nil=>cases hx
 | cons y l ih =>
  rw [oV]
  have h2:=List.pairwise_cons.1 h
  rcases List.mem_cons.1 hx with rfl|hx
  ·rw [if_pos (by simp)]
  ·rw [if_neg (by have:=h2.1 x hx;simp;omega)]
   exact ih h2.2 hx
def eS (l:List Ly) (k:Nat) (id:Int):Prop:=id=0∨∃ j y,j<k∧l[j]? = some y∧y.i=id∧y.f=true
structure OkG (l:List Ly):Prop where
 inc:oL l
 lo:∀ x∈l,1≤x.i∧x.i≤2147483647
 par:∀ k x,l[k]? = some x→eS l k x.p
 sec:∀ k x,l[k]? = some x→eS l k x.s
 two:∀ x∈l,x.s≠0→x.p≠0∧x.p≠x.s
 chn:∀ x∈l,(bO l x.i).length≤12
theorem TX {l:List Ly} (h:oL l) {j k:Nat} {x y:Ly} (hx:l[j]? = some x) (hy:l[k]? = some y) (hjk:j<k):x.i<y.i:=by
 obtain ⟨h1,h2⟩:=List.getElem?_eq_some_iff.1 hx
 obtain ⟨h3,h4⟩:=List.getElem?_eq_some_iff.1 hy
 have:=List.pairwise_iff_getElem.1 h j k h1 h3 hjk
 rw [h2,h4] at this;exact this
def LH:List Ly→List Int→List Int
 | [],_=>[]
 | x::r,W=>if W.contains x.i then LH r (x.p::x.s::W)++[x.i] else LH r W
def oX (l:List Ly) (id:Int):List Int:=LH l.reverse [id]
def jO (l:List Ly) (ids:List Int):List Ly:=l.filter fun x=>ids.any fun id=>(oX l id).contains x.i
def AO (l:List Ly) (a b:Int):Int:=(((oX l a).filter fun x=>(oX l b).contains x).getLast?).getD 0
theorem EI:∀ (r:List Ly) (W:List Int),(LH r W).length≤r.length
 | [],_=>Nat.le_refl _
 | x::r,W=>by
  simp only [LH]
  split
  ·rw [List.length_append];have:=EI r (x.p::x.s::W);simp only [List.length_cons,List.length_nil];omega
  ·have:=EI r W;simp only [List.length_cons];omega
theorem vJ (l:List Ly) (id:Int):(oX l id).length≤l.length:=by
 have:=EI l.reverse [id]
 rwa [List.length_reverse] at this
theorem sB:∀ {r:List Ly} {W:List Int} {a:Int},a∈LH r W→∃ x∈r,x.i=a
 | [],_,_,h=>by cases h
 | x::r,W,a,h=>by
  simp only [LH] at h
  split at h
  ·rcases List.mem_append.1 h with h|h
   ·obtain ⟨y,h1,h2⟩:=sB h
    exact ⟨y,List.mem_cons_of_mem _ h1,h2⟩
   ·rw [List.mem_singleton] at h;exact ⟨x,List.mem_cons_self,h.symm⟩
  ·obtain ⟨y,h1,h2⟩:=sB h
   exact ⟨y,List.mem_cons_of_mem _ h1,h2⟩
theorem GM:∀ {r:List Ly} {W:List Int},r.Pairwise (fun x y=>y.i<x.i)→(LH r W).Pairwise (· < ·)
 | [],_,_=>List.Pairwise.nil
 | x::r,W,h=>by
  have h2:=List.pairwise_cons.1 h
  simp only [LH]
  split
  ·refine List.pairwise_append.2 ⟨GM h2.2,List.pairwise_singleton _ _,fun a ha b hb=>?_⟩
   rw [List.mem_singleton] at hb;subst hb
   obtain ⟨y,h3,rfl⟩:=sB ha
   exact h2.1 y h3
  ·exact GM h2.2
theorem FB {l:List Ly} (h:oL l) (id:Int):(oX l id).Pairwise (· < ·):=by
 refine GM ?_
 rw [List.pairwise_reverse];exact h
theorem rW:∀ {r:List Ly} {W:List Int} {x:Ly},x∈r→x.i∈W→x.i∈LH r W
 | [],_,_,h,_=>by cases h
 | y::r,W,x,h,hw=>by
  simp only [LH]
  rcases List.mem_cons.1 h with rfl|h
  ·rw [if_pos (by simpa using hw)]
   exact List.mem_append_right _ (List.mem_singleton.2 rfl)
  ·split
   ·exact List.mem_append_left _ (rW h (List.mem_cons_of_mem _ (List.mem_cons_of_mem _ hw)))
   ·exact rW h hw
theorem yG:∀ {r:List Ly} {W:List Int} {pre post:List Ly} {x y:Ly},r.Pairwise (fun x y=>y.i<x.i)→r=pre++x::post→y∈post→x.i∈LH r W→(y.i=x.p∨y.i=x.s)→y.i∈LH r W
 | [],_,pre,_,_,_,_,e,_,_,_=>by simp at e
 | z::r,W,[],post,x,y,hp,e,hy,hx,h=>by
  simp only [List.nil_append,List.cons.injEq] at e
  obtain ⟨rfl,rfl⟩:=e
  simp only [LH] at hx ⊢
  split
  ·refine List.mem_append_left _ (rW hy ?_)
   rcases h with h|h <;> simp [h]
  ·rename_i hw
   rw [if_neg hw] at hx
   obtain ⟨u,h1,h2⟩:=sB hx
   have:=(List.pairwise_cons.1 hp).1 u h1
   omega
 | z::r,W,q::pre,post,x,y,hp,e,hy,hx,h=>by
  simp only [List.cons_append,List.cons.injEq] at e
  obtain ⟨rfl,rfl⟩:=e
  have hp2:=List.pairwise_cons.1 hp
  have hxr:x∈pre++x::post:=List.mem_append_right _ List.mem_cons_self
  simp only [LH] at hx ⊢
  split
  ·rename_i hw
   rw [if_pos hw] at hx
   rcases List.mem_append.1 hx with hx|hx
   ·exact List.mem_append_left _ (yG hp2.2 rfl hy hx h)
   ·rw [List.mem_singleton] at hx
    have:=hp2.1 x hxr
    omega
  ·rename_i hw
   rw [if_neg hw] at hx
   exact yG hp2.2 rfl hy hx h
theorem tL {C:Int→Prop}:∀ {r:List Ly} {W:List Int},(∀ x∈r,x.i∈W→C x.i)→(∀ x∈r,C x.i→∀ y∈r,(y.i=x.p∨y.i=x.s)→C y.i)→∀ a∈LH r W,C a
 | [],_,_,_,a,h=>by cases h
 | x::r,W,h1,h2,a,h=>by
  simp only [LH] at h
  split at h
  ·rename_i hw
   have hx:C x.i:=h1 x List.mem_cons_self (by simpa using hw)
   rcases List.mem_append.1 h with h|h
   ·refine tL (fun y hy hw2=>?_) (fun y hy hc z hz=>h2 y (List.mem_cons_of_mem _ hy) hc z (List.mem_cons_of_mem _ hz)) a h
    rcases List.mem_cons.1 hw2 with e|hw2
    ·exact h2 x List.mem_cons_self hx y (List.mem_cons_of_mem _ hy) (.inl e)
    ·rcases List.mem_cons.1 hw2 with e|hw2
     ·exact h2 x List.mem_cons_self hx y (List.mem_cons_of_mem _ hy) (.inr e)
     ·exact h1 y (List.mem_cons_of_mem _ hy) hw2
   ·rw [List.mem_singleton] at h;subst h;exact hx
  ·exact tL (fun y hy=>h1 y (List.mem_cons_of_mem _ hy)) (fun y hy hc z hz=>h2 y (List.mem_cons_of_mem _ hy) hc z (List.mem_cons_of_mem _ hz)) a h
theorem zES {l:List Ly} {id a:Int} (h:a∈oX l id):∃ x∈l,x.i=a:=by
 obtain ⟨x,h1,h2⟩:=sB h
 exact ⟨x,List.mem_reverse.1 h1,h2⟩
theorem rG {l:List Ly} {x:Ly} (h:x∈l):x.i∈oX l x.i:=rW (List.mem_reverse.2 h) (List.mem_singleton.2 rfl)
theorem FA {l:List Ly} (hg:OkG l) {id:Int} {x y:Ly} (hx:x∈l) (hy:y∈l) (h:x.i∈oX l id) (hp:y.i=x.p∨y.i=x.s):y.i∈oX l id:=by
 have hinc:(l.reverse).Pairwise fun x y=>y.i<x.i:=by rw [List.pairwise_reverse];exact hg.inc
 have hlt:y.i<x.i:=by
  obtain ⟨k,hk⟩:=List.mem_iff_getElem?.1 hx
  have st:∀ q,eS l k q→y.i=q→y.i<x.i:=fun q hq e=>by
   rcases hq with hq|⟨j,z,h1,h2,h3,_⟩
   ·have:=(hg.lo y hy).1;omega
   ·have:=TX hg.inc h2 hk h1;omega
  rcases hp with hp|hp
  ·exact st _ (hg.par k x hk) hp
  ·exact st _ (hg.sec k x hk) hp
 obtain ⟨pre,post,e⟩:=List.append_of_mem (List.mem_reverse.2 hx)
 have hyr:y∈l.reverse:=List.mem_reverse.2 hy
 rw [e] at hyr
 have hyp:y∈post:=by
  rw [e] at hinc
  rcases List.mem_append.1 hyr with h|h
  ·have:=(List.pairwise_append.1 hinc).2.2 y h x List.mem_cons_self
   omega
  ·rcases List.mem_cons.1 h with h|h
   ·subst h;omega
   ·exact h
 unfold oX at h ⊢
 exact yG hinc e hyp h hp
theorem oO {l:List Ly} {id:Int} {C:Int→Prop} (h1:∀ x∈l,x.i=id→C x.i) (h2:∀ x∈l,C x.i→∀ y∈l,(y.i=x.p∨y.i=x.s)→C y.i):∀ a∈oX l id,C a:=by
 refine tL (fun x hx hw=>h1 x (List.mem_reverse.1 hx) (List.mem_singleton.1 hw)) fun x hx hc y hy=>h2 x (List.mem_reverse.1 hx) hc y (List.mem_reverse.1 hy)
theorem QT:∀ {a b:List Int},a.Pairwise (· < ·)→b.Pairwise (· < ·)→(∀ x,x∈a↔x∈b)→a=b
 | [],[],_,_,_=>rfl
 | [],y::b,_,_,h=>by have:=(h y).2 List.mem_cons_self;cases this
 | x::a,[],_,_,h=>by have:=(h x).1 List.mem_cons_self;cases this
 | x::a,y::b,ha,hb,h=>by
  have ha2:=List.pairwise_cons.1 ha
  have hb2:=List.pairwise_cons.1 hb
  have hxy:x=y:=by
   rcases List.mem_cons.1 ((h x).1 List.mem_cons_self) with h1|h1
   ·exact h1
   ·rcases List.mem_cons.1 ((h y).2 List.mem_cons_self) with h2|h2
    ·exact h2.symm
    ·have:=hb2.1 x h1
     have:=ha2.1 y h2
     omega
  subst hxy
  rw [QT ha2.2 hb2.2 fun z=>⟨fun hz=>?_,fun hz=>?_⟩]
  ·rcases List.mem_cons.1 ((h z).1 (List.mem_cons_of_mem _ hz)) with h1|h1
   ·have:=ha2.1 z hz;omega
   ·exact h1
  ·rcases List.mem_cons.1 ((h z).2 (List.mem_cons_of_mem _ hz)) with h1|h1
   ·have:=hb2.1 z hz;omega
   ·exact h1
attribute [go_sem] kJ zFC TU zBR zCp zFd zBy SU zK2 eN zFk zGG zB0 zAg zGf zCu Ly.cv
end
section
def zLb (l:List Ly) (id:Int):Bool:=id == 0 || (match eQ l id with
 | some y=>y.f
 | none=>false)
def zLl (l:List Ly) (k:Nat) (x:Ly):Bool :=
 !(decide (x.i<1) || (decide (2147483647<x.i) || (decide ((0:Int)<(k:Int)) && decide (x.i≤((l[k-1]?).getD ly0).i)))) && ((zLb (l.take k) x.p && zLb (l.take k) x.s) &&
 (!((x.s != 0) && ((x.p == 0) || (x.p == x.s))) && decide (((bO (l.take (k+1)) x.i).length:Int)≤12)))
def zEK (l:List Ly):Nat→Bool
 | 0=>true
 | k+1=>zEK l k && (match l[k]? with
  | some x=>zLl l k x
  | none=>true)
def zGO (l:List Ly):Bool:=zEK l l.length && decide ((l.length:Int)≤40)
theorem RY {l:List Ly}:∀ {n k:Nat} {x:Ly},zEK l n=true→k<n→l[k]? = some x→zLl l k x=true
 | 0,_,_,_,h,_=>by omega
 | n+1,k,x,h,hk,hx=>by
  simp only [zEK,Bool.and_eq_true] at h
  by_cases e:k=n
  ·subst e;rw [hx] at h;exact h.2
  ·exact RY h.1 (by omega) hx
theorem zKm {l:List Ly} (h:∀ k x y,l[k]? = some x→l[k+1]? = some y→x.i<y.i):oL l:=by
 have key:∀ (d k:Nat) (x y:Ly),l[k]? = some x→l[k+d+1]? = some y→x.i<y.i:=by
  intro d
  induction d with
  | zero=>intro k x y hx hy;exact h k x y hx hy
  | succ d ih =>
   intro k x y hx hy
   have hlt:k+d+1<l.length:=by have:=(List.getElem?_eq_some_iff.1 hy).1;omega
   have hz:=List.getElem?_eq_getElem hlt
   have:=ih k x _ hx hz
   have:=h (k+d+1) _ y hz hy
   omega
 refine List.pairwise_iff_getElem.2 fun i j hi hj hij=>key (j-i-1) i _ _ (List.getElem?_eq_getElem hi) ?_
 rw [show i+(j-i-1)+1=j by omega]
 exact List.getElem?_eq_getElem hj
theorem zCA {l:List Ly} (h:oL l) {j n:Nat} {y:Ly} (hj:l[j]? = some y) (hn:j<n):eQ (l.take n) y.i=some y:=by
 refine mJ (List.Pairwise.sublist (List.take_sublist n l) h) (List.mem_iff_getElem?.2 ⟨j,?_⟩)
 rw [List.getElem?_take,if_pos hn];exact hj
theorem nX {l:List Ly} (h:∀ x∈l,1≤x.i):eQ l 0=none:=by
 refine List.find?_eq_none.2 fun x hx=>?_
 have:=h x hx
 simp;omega
theorem iU {l:List Ly} {id:Int} (h:eQ l id=none) (n:Nat):eL l n id=[]:=by
 cases n with
 | zero=>rfl
 | succ n=>simp only [eL,h]
theorem oT {l:List Ly} (hi:oL l) (hlo:∀ x∈l,1≤x.i) (hp:∀ k x,l[k]? = some x→eS l k x.p):∀ (k:Nat) {x:Ly} {j n m:Nat},l[k]? = some x→k<j→k+1≤n→k+1≤m→eL (l.take j) n x.i=eL l m x.i:=by
 intro k
 induction k using Nat.strongRecOn with
 | ind k ih =>
  intro x j n m hx hj hn hm
  obtain ⟨n',rfl⟩:∃ n',n=n'+1:=⟨n-1,by omega⟩
  obtain ⟨m',rfl⟩:∃ m',m=m'+1:=⟨m-1,by omega⟩
  simp only [eL,zCA hi hx hj,mJ hi (List.mem_of_getElem? hx)]
  congr 1
  rcases hp k x hx with h0|⟨q,y,h1,h2,h3,_⟩
  ·rw [h0,iU (nX fun z hz=>hlo z (List.mem_of_mem_take hz)),iU (nX hlo)]
  ·rw [← h3]
   exact ih q h1 h2 (by omega) (by omega) (by omega)
theorem tV {l:List Ly} (hi:oL l) (hlo:∀ x∈l,1≤x.i) (hp:∀ k x,l[k]? = some x→eS l k x.p) {x:Ly} (hx:x∈l):bO l x.i=bO l x.p++[x.i]:=by
 obtain ⟨k,hk⟩:=List.mem_iff_getElem?.1 hx
 have hlt:=(List.getElem?_eq_some_iff.1 hk).1
 unfold bO
 rw [show eL l (l.length+1) x.i=x.i::eL l l.length x.p by simp only [eL,mJ hi hx],List.reverse_cons]
 congr 2
 rcases hp k x hk with h0|⟨q,y,h1,h2,h3,_⟩
 ·rw [h0,iU (nX hlo),iU (nX hlo)]
 ·rw [← h3,← oT hi hlo hp q h2 (j:=l.length) (n:=l.length) (m:=l.length) (by omega) (by omega) (by omega),← oT hi hlo hp q h2 (j:=l.length) (n:=l.length) (m:=l.length+1) (by omega) (by omega) (by omega)]
theorem oQ {l:List Ly} (hlo:∀ x∈l,1≤x.i):bO l 0=[]:=by
 unfold bO;rw [iU (nX hlo)];rfl
theorem OkG.lo1 {l:List Ly} (h:OkG l):∀ x∈l,1≤x.i:=fun x hx=>(h.lo x hx).1
theorem OkG.step {l:List Ly} (h:OkG l) {x:Ly} (hx:x∈l):bO l x.i=bO l x.p++[x.i]:=tV h.inc h.lo1 h.par hx
theorem LA {l:List Ly} (k:Nat) {id:Int} (h:zLb (l.take k) id=true):eS l k id:=by
 unfold zLb at h
 rw [Bool.or_eq_true] at h
 rcases h with h|h
 ·exact .inl (by simpa using h)
 ·split at h
  ·rename_i y hy
   obtain ⟨h1,h2⟩:=nL hy
   obtain ⟨j,hj⟩:=List.mem_iff_getElem?.1 h1
   rw [List.getElem?_take] at hj
   split at hj
   ·rename_i hlt;exact .inr ⟨j,y,hlt,hj,h2,h⟩
   ·cases hj
  ·cases h
theorem zA5 {l:List Ly} (h:zGO l=true):OkG l∧l.length≤40:=by
 unfold zGO at h
 simp only [Bool.and_eq_true,decide_eq_true_eq] at h
 obtain ⟨h1,h2⟩:=h
 have hat:∀ k x,l[k]? = some x→zLl l k x=true:=fun k x hx=>RY h1 (List.getElem?_eq_some_iff.1 hx).1 hx
 have hat2:∀ k x,l[k]? = some x→(1≤x.i∧x.i≤2147483647)∧(0<k→((l[k-1]?).getD ly0).i<x.i)∧eS l k x.p∧eS l k x.s∧(x.s≠0→x.p≠0∧x.p≠x.s)∧(bO (l.take (k+1)) x.i).length≤12:=fun k x hx=>by
  have:=hat k x hx
  unfold zLl at this
  simp only [Bool.and_eq_true,Bool.not_eq_true',Bool.or_eq_false_iff,decide_eq_false_iff_not,Bool.and_eq_false_iff,decide_eq_true_eq] at this
  obtain ⟨⟨a1,a2,a3⟩,⟨a4,a5⟩,a6,a7⟩:=this
  refine ⟨by omega,fun hk=>?_,LA k a4,LA k a5,fun hs=>?_,by omega⟩
  ·rcases a3 with a3|a3 <;> omega
  ·rcases a6 with a6|a6
   ·simp [hs] at a6
   ·simpa using a6
 have hinc:oL l:=zKm fun k x y hx hy=>by
  have:=(hat2 (k+1) y hy).2.1 (by omega)
  rw [show k+1-1=k by omega,hx] at this
  exact this
 have hlo:∀ x∈l,1≤x.i∧x.i≤2147483647:=fun x hx=>by
  obtain ⟨k,hk⟩:=List.mem_iff_getElem?.1 hx
  exact (hat2 k x hk).1
 have hpar:∀ k x,l[k]? = some x→eS l k x.p:=fun k x hx=>(hat2 k x hx).2.2.1
 refine ⟨⟨hinc,hlo,hpar,fun k x hx=>(hat2 k x hx).2.2.2.1,fun x hx=>?_,fun x hx=>?_⟩,by omega⟩
 ·obtain ⟨k,hk⟩:=List.mem_iff_getElem?.1 hx
  exact (hat2 k x hk).2.2.2.2.1
 ·obtain ⟨k,hk⟩:=List.mem_iff_getElem?.1 hx
  have h5:=(hat2 k x hk).2.2.2.2.2
  have hlt:=(List.getElem?_eq_some_iff.1 hk).1
  unfold bO at h5 ⊢
  rw [List.length_reverse] at h5 ⊢
  rw [← oT hinc (fun z hz=>(hlo z hz).1) hpar k hk (j:=k+1) (n:=(l.take (k+1)).length+1) (m:=l.length+1) (by omega) (by rw [List.length_take];omega) (by omega)]
  exact h5
end
end Go.Dm
