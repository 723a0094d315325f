/- Part 14 of the proof of roomDeep_card, set without needless blanks. No condition. -/
import Derived.Test.YtlbfnbldeefgmaaGreatDoorRows
import Derived.Test.YtlbfnbldeefgmaaGreatDoorC08
import Derived.Test.YtlbfnbldeefgmaaGreatDoorC11
set_option linter.all false
section
namespace Go.Proofs.YtlbfnbldeefgmaaGreatDoor
open Go Go.Dm Go.RowKit Go.ChangeShapes Go.WideShapes
set_option maxRecDepth 100000
theorem zEG {W:World} {l:List (String × DataW Unit)} (h:laidMetH Tryz.prog l W.memory) (hn:(l.all fun x=>x.2.handleName?.isNone)=true) (hm:("pentimento/pentimentohand.kinds",(Rows.laid_pentimento_pentimentohand_kinds:DataW Unit))∈l):zFZ W:=by
 rw [Go.MakeChecks.laidMetH_plain _ _ _ hn] at h;intro g j v hj
 match g,hj with
 | 0,hj =>
  simp only [said,List.getElem?_map,Option.map_eq_some_iff] at hj;obtain ⟨n,hn,rfl⟩:=hj;exact zAP h hm (vs:=zBO) rfl (by kernel_rfl) (by kernel_rfl) Tryz.underlying113 Tryz.underlying3 (by kernel_rfl) j n hn
 | g+1,hj=>simp [said] at hj
end Go.Proofs.YtlbfnbldeefgmaaGreatDoor
end
section
namespace Go.Dm
open Go
structure Ly where
 i:Int
 p:Int
 s:Int
 f:Bool
def Ly.cs (x:Ly):List PV:=[.i .i64 x.i,.i .i64 x.p,.i .i64 x.s,.b x.f]
def Ly.cv (x:Ly):List CV:=[.p (.i .i64 x.i),.p (.i .i64 x.p),.p (.i .i64 x.s),.p (.b x.f)]
def ly0:Ly:=⟨0,0,0,false⟩
def cY (l:List Ly):List (List PV):=l.map Ly.cs
theorem fN (l:List Ly):(cY l).length=l.length:=by simp [cY]
theorem zDl:cY []=[]:=rfl
theorem kJ {l:List Ly} {k:Nat} {x:Ly} (h:l[k]? = some x):(cY l).getD k []=[.i .i64 x.i,.i .i64 x.p,.i .i64 x.s,.b x.f]:=by
 simp only [cY,List.getD_eq_getElem?_getD,List.getElem?_map,h];rfl
theorem NX (l:List Ly):(∀ x∈cY l,x.length=4)=True:=eq_true fun x hx=>by
 obtain ⟨y,_,rfl⟩:=List.mem_map.1 hx;rfl
theorem ZC (a:List Ly) (n:Nat):(cY a).take n=cY (a.take n):=by simp [cY]
theorem ZA (a:List Ly) (n:Nat):(cY a).drop n=cY (a.drop n):=by simp [cY]
theorem zDk (a b:List Ly):cY a++cY b=cY (a++b):=by simp [cY]
theorem ZB (t:List Ly) (i p s:Int) (f:Bool):cY t++[[.i .i64 i,.i .i64 p,.i .i64 s,.b f]]=cY (t++[⟨i,p,s,f⟩]):=by simp [cY,Ly.cs]
theorem NY (t:List Ly) (k:Nat) (i p s:Int) (f:Bool):(cY t).set k [.i .i64 i,.i .i64 p,.i .i64 s,.b f]=cY (t.set k ⟨i,p,s,f⟩):=by simp [cY,Ly.cs,List.map_set]
theorem zIF (x:Ly):Ly.mk x.i x.p x.s x.f=x:=rfl
def cQ (l:List Int):List (List PV):=l.map fun n=>[.i .i64 n]
theorem eM (l:List Int):(cQ l).length=l.length:=by simp [cQ]
theorem zDt:cQ []=[]:=rfl
theorem rD {l:List Int} {k:Nat} {x:Int} (h:l[k]? = some x):(cQ l).getD k []=[.i .i64 x]:=by
 simp only [cQ,List.getD_eq_getElem?_getD,List.getElem?_map,h];rfl
theorem zDu (l:List Int):(∀ x∈cQ l,x.length=1)=True:=eq_true fun x hx=>by
 obtain ⟨y,_,rfl⟩:=List.mem_map.1 hx;rfl
theorem ZK (a:List Int) (n:Nat):(cQ a).take n=cQ (a.take n):=by simp [cQ]
theorem ZI (a:List Int) (n:Nat):(cQ a).drop n=cQ (a.drop n):=by simp [cQ]
theorem zDs (a b:List Int):cQ a++cQ b=cQ (a++b):=by simp [cQ]
theorem ZJ (t:List Int) (i:Int):cQ t++[[.i .i64 i]]=cQ (t++[i]):=by simp [cQ]
def eA (l:List Ly) (id:Int):Option Ly:=l.find? fun x=>x.i == id
theorem lT {l:List Ly} {id:Int} {x:Ly} (h:eA l id=some x):x∈l∧x.i=id:=⟨List.mem_of_find?_eq_some h,eq_of_beq (List.find?_some (p:=fun z:Ly=>z.i == id) h)⟩
theorem zDN {l:List Ly} {id:Int} (h:eA l id=none):∀ x∈l,x.i≠id:=fun x hx e=>by
 have:=List.find?_eq_none.1 h x hx;simp [e] at this
theorem nC (x:Ly) (l:List Ly) (id:Int):eA (x::l) id=if x.i == id then some x else eA l id:=by
 simp only [eA,List.find?_cons];cases x.i == id <;> rfl
def dW (l:List Ly):Nat→Int→List Int
 | 0,_=>[]
 | n+1,id=>match eA l id with
  | some x=>x.i::dW l n x.p
  | none=>[]
def bM (l:List Ly) (id:Int):List Int:=(dW l (l.length+1) id).reverse
theorem yD (l:List Ly):∀ (n:Nat) (id:Int),(dW l n id).length≤n
 | 0,_=>Nat.le_refl _
 | n+1,id=>by
  simp only [dW];split
  ·simp only [List.length_cons];have:=yD l n;exact Nat.succ_le_succ (this _)
  ·exact Nat.zero_le _
theorem QS (l:List Ly) (id:Int):(bM l id).length≤l.length+1:=by
 unfold bM;rw [List.length_reverse];exact yD _ _ _
def mV (l:List Ly):Prop:=l.Pairwise fun x y=>x.i<y.i
theorem kM {l:List Ly} (h:mV l) {x:Ly} (hx:x∈l):eA l x.i=some x:=by
 induction l with
 | nil=>cases hx
 | cons y l ih =>
  rw [nC];have h2:=List.pairwise_cons.1 h;rcases List.mem_cons.1 hx with rfl|hx
  ·rw [if_pos (by simp)]
  ·rw [if_neg (by have:=h2.1 x hx;simp;omega)];exact ih h2.2 hx
def eS (l:List Ly) (k:Nat) (id:Int):Prop:=id=0∨∃ j y,j<k∧l[j]? = some y∧y.i=id∧y.f=true
structure OkG (l:List Ly):Prop where
 inc:mV l
 lo:∀ x∈l,1≤x.i∧x.i≤2147483647
 par:∀ k x,l[k]? = some x→eS l k x.p
 sec:∀ k x,l[k]? = some x→eS l k x.s
 two:∀ x∈l,x.s≠0→x.p≠0∧x.p≠x.s
 chn:∀ x∈l,(bM l x.i).length≤12
theorem PJ {l:List Ly} (h:mV l) {j k:Nat} {x y:Ly} (hx:l[j]? = some x) (hy:l[k]? = some y) (hjk:j<k):x.i<y.i:=by
 obtain ⟨h1,h2⟩:=List.getElem?_eq_some_iff.1 hx;obtain ⟨h3,h4⟩:=List.getElem?_eq_some_iff.1 hy;have:=List.pairwise_iff_getElem.1 h j k h1 h3 hjk;rw [h2,h4] at this;exact this
def DZ:List Ly→List Int→List Int
 | [],_=>[]
 | x::r,W=>if W.contains x.i then DZ r (x.p::x.s::W)++[x.i] else DZ r W
def qP (l:List Ly) (id:Int):List Int:=DZ l.reverse [id]
def iG (l:List Ly) (ids:List Int):List Ly:=l.filter fun x=>ids.any fun id=>(qP l id).contains x.i
theorem AZ:∀ (r:List Ly) (W:List Int),(DZ r W).length≤r.length
 | [],_=>Nat.le_refl _
 | x::r,W=>by
  simp only [DZ];split
  ·rw [List.length_append];have:=AZ r (x.p::x.s::W);simp only [List.length_cons,List.length_nil];omega
  ·have:=AZ r W;simp only [List.length_cons];omega
theorem NL (l:List Ly) (id:Int):(qP l id).length≤l.length:=by
 have:=AZ l.reverse [id]
 rwa [List.length_reverse] at this
theorem oZ:∀ {r:List Ly} {W:List Int} {a:Int},a∈DZ r W→∃ x∈r,x.i=a
 | [],_,_,h=>by cases h
 | x::r,W,a,h=>by
  simp only [DZ] at h;split at h
  ·rcases List.mem_append.1 h with h|h
   ·obtain ⟨y,h1,h2⟩:=oZ h;exact ⟨y,List.mem_cons_of_mem _ h1,h2⟩
   ·rw [List.mem_singleton] at h;exact ⟨x,List.mem_cons_self,h.symm⟩
  ·obtain ⟨y,h1,h2⟩:=oZ h;exact ⟨y,List.mem_cons_of_mem _ h1,h2⟩
theorem AY:∀ {r:List Ly} {W:List Int},r.Pairwise (fun x y=>y.i<x.i)→(DZ r W).Pairwise (· < ·)
 | [],_,_=>List.Pairwise.nil
 | x::r,W,h=>by
  have h2:=List.pairwise_cons.1 h;simp only [DZ];split
  ·refine List.pairwise_append.2 ⟨AY h2.2,List.pairwise_singleton _ _,fun a ha b hb=>?_⟩;rw [List.mem_singleton] at hb;subst hb;obtain ⟨y,h3,rfl⟩:=oZ ha;exact h2.1 y h3
  ·exact AY h2.2
theorem AW {l:List Ly} (h:mV l) (id:Int):(qP l id).Pairwise (· < ·):=by
 refine AY ?_;rw [List.pairwise_reverse];exact h
theorem pA:∀ {r:List Ly} {W:List Int} {x:Ly},x∈r→x.i∈W→x.i∈DZ r W
 | [],_,_,h,_=>by cases h
 | y::r,W,x,h,hw=>by
  simp only [DZ];rcases List.mem_cons.1 h with rfl|h
  ·rw [if_pos (by simpa using hw)];exact List.mem_append_right _ (List.mem_singleton.2 rfl)
  ·split
   ·exact List.mem_append_left _ (pA h (List.mem_cons_of_mem _ (List.mem_cons_of_mem _ hw)))
   ·exact pA h hw
theorem tV:∀ {r:List Ly} {W:List Int} {pre post:List Ly} {x y:Ly},r.Pairwise (fun x y=>y.i<x.i)→r=pre++x::post→y∈post→x.i∈DZ r W→(y.i=x.p∨y.i=x.s)→y.i∈DZ r W
 | [],_,pre,_,_,_,_,e,_,_,_=>by simp at e
 | z::r,W,[],post,x,y,hp,e,hy,hx,h=>by
  simp only [List.nil_append,List.cons.injEq] at e;obtain ⟨rfl,rfl⟩:=e;simp only [DZ] at hx ⊢;split
  ·refine List.mem_append_left _ (pA hy ?_);rcases h with h|h <;> simp [h]
  ·rename_i hw;rw [if_neg hw] at hx;obtain ⟨u,h1,h2⟩:=oZ hx;have:=(List.pairwise_cons.1 hp).1 u h1;omega
 | z::r,W,q::pre,post,x,y,hp,e,hy,hx,h=>by
  simp only [List.cons_append,List.cons.injEq] at e;obtain ⟨rfl,rfl⟩:=e;have hp2:=List.pairwise_cons.1 hp;have hxr:x∈pre++x::post:=List.mem_append_right _ List.mem_cons_self;simp only [DZ] at hx ⊢;split
  ·rename_i hw;rw [if_pos hw] at hx;rcases List.mem_append.1 hx with hx|hx
   ·exact List.mem_append_left _ (tV hp2.2 rfl hy hx h)
   ·rw [List.mem_singleton] at hx;have:=hp2.1 x hxr;omega
  ·rename_i hw;rw [if_neg hw] at hx;exact tV hp2.2 rfl hy hx h
theorem qT {C:Int→Prop}:∀ {r:List Ly} {W:List Int},(∀ x∈r,x.i∈W→C x.i)→(∀ x∈r,C x.i→∀ y∈r,(y.i=x.p∨y.i=x.s)→C y.i)→∀ a∈DZ r W,C a
 | [],_,_,_,a,h=>by cases h
 | x::r,W,h1,h2,a,h=>by
  simp only [DZ] at h;split at h
  ·rename_i hw;have hx:C x.i:=h1 x List.mem_cons_self (by simpa using hw);rcases List.mem_append.1 h with h|h
   ·refine qT (fun y hy hw2=>?_) (fun y hy hc z hz=>h2 y (List.mem_cons_of_mem _ hy) hc z (List.mem_cons_of_mem _ hz)) a h;rcases List.mem_cons.1 hw2 with e|hw2
    ·exact h2 x List.mem_cons_self hx y (List.mem_cons_of_mem _ hy) (.inl e)
    ·rcases List.mem_cons.1 hw2 with e|hw2
     ·exact h2 x List.mem_cons_self hx y (List.mem_cons_of_mem _ hy) (.inr e)
     ·exact h1 y (List.mem_cons_of_mem _ hy) hw2
   ·rw [List.mem_singleton] at h;subst h;exact hx
  ·exact qT (fun y hy=>h1 y (List.mem_cons_of_mem _ hy)) (fun y hy hc z hz=>h2 y (List.mem_cons_of_mem _ hy) hc z (List.mem_cons_of_mem _ hz)) a h
theorem zCF {l:List Ly} {id a:Int} (h:a∈qP l id):∃ x∈l,x.i=a:=by
 obtain ⟨x,h1,h2⟩:=oZ h;exact ⟨x,List.mem_reverse.1 h1,h2⟩
theorem oY {l:List Ly} {x:Ly} (h:x∈l):x.i∈qP l x.i:=pA (List.mem_reverse.2 h) (List.mem_singleton.2 rfl)
theorem AX {l:List Ly} (hg:OkG l) {id:Int} {x y:Ly} (hx:x∈l) (hy:y∈l) (h:x.i∈qP l id) (hp:y.i=x.p∨y.i=x.s):y.i∈qP l id:=by
 have hinc:(l.reverse).Pairwise fun x y=>y.i<x.i:=by rw [List.pairwise_reverse];exact hg.inc
 have hlt:y.i<x.i:=by
  obtain ⟨k,hk⟩:=List.mem_iff_getElem?.1 hx;have st:∀ q,eS l k q→y.i=q→y.i<x.i:=fun q hq e=>by
   rcases hq with hq|⟨j,z,h1,h2,h3,_⟩
   ·have:=(hg.lo y hy).1;omega
   ·have:=PJ hg.inc h2 hk h1;omega
  rcases hp with hp|hp
  ·exact st _ (hg.par k x hk) hp
  ·exact st _ (hg.sec k x hk) hp
 obtain ⟨pre,post,e⟩:=List.append_of_mem (List.mem_reverse.2 hx);have hyr:y∈l.reverse:=List.mem_reverse.2 hy;rw [e] at hyr;have hyp:y∈post:=by
  rw [e] at hinc;rcases List.mem_append.1 hyr with h|h
  ·have:=(List.pairwise_append.1 hinc).2.2 y h x List.mem_cons_self;omega
  ·rcases List.mem_cons.1 h with h|h
   ·subst h;omega
   ·exact h
 unfold qP at h ⊢;exact tV hinc e hyp h hp
theorem qS {l:List Ly} {id:Int} {C:Int→Prop} (h1:∀ x∈l,x.i=id→C x.i) (h2:∀ x∈l,C x.i→∀ y∈l,(y.i=x.p∨y.i=x.s)→C y.i):∀ a∈qP l id,C a:=by
 refine qT (fun x hx hw=>h1 x (List.mem_reverse.1 hx) (List.mem_singleton.1 hw)) fun x hx hc y hy=>h2 x (List.mem_reverse.1 hx) hc y (List.mem_reverse.1 hy)
theorem LI:∀ {a b:List Int},a.Pairwise (· < ·)→b.Pairwise (· < ·)→(∀ x,x∈a↔x∈b)→a=b
 | [],[],_,_,_=>rfl
 | [],y::b,_,_,h=>by have:=(h y).2 List.mem_cons_self;cases this
 | x::a,[],_,_,h=>by have:=(h x).1 List.mem_cons_self;cases this
 | x::a,y::b,ha,hb,h=>by
  have ha2:=List.pairwise_cons.1 ha;have hb2:=List.pairwise_cons.1 hb;have hxy:x=y:=by
   rcases List.mem_cons.1 ((h x).1 List.mem_cons_self) with h1|h1
   ·exact h1
   ·rcases List.mem_cons.1 ((h y).2 List.mem_cons_self) with h2|h2
    ·exact h2.symm
    ·have:=hb2.1 x h1;have:=ha2.1 y h2;omega
  subst hxy;rw [LI ha2.2 hb2.2 fun z=>⟨fun hz=>?_,fun hz=>?_⟩]
  ·rcases List.mem_cons.1 ((h z).1 (List.mem_cons_of_mem _ hz)) with h1|h1
   ·have:=ha2.1 z hz;omega
   ·exact h1
  ·rcases List.mem_cons.1 ((h z).2 (List.mem_cons_of_mem _ hz)) with h1|h1
   ·have:=hb2.1 z hz;omega
   ·exact h1
attribute [go_sem] fN zDl NX ZC ZA zDk ZB NY zIF eM zDt zDu ZK ZI zDs ZJ Ly.cv
end Go.Dm
end
section
namespace Go.Dm
open Go
def zJu (l:List Ly) (id:Int):Bool:=id == 0 || (match eA l id with
 | some y=>y.f
 | none=>false)
def zJv (l:List Ly) (k:Nat) (x:Ly):Bool :=
 !(decide (x.i<1) || (decide (2147483647<x.i) || (decide ((0:Int)<(k:Int)) && decide (x.i≤((l[k-1]?).getD ly0).i)))) && ((zJu (l.take k) x.p && zJu (l.take k) x.s) &&
 (!((x.s != 0) && ((x.p == 0) || (x.p == x.s))) && decide (((bM (l.take (k+1)) x.i).length:Int)≤12)))
def zEq (l:List Ly):Nat→Bool
 | 0=>true
 | k+1=>zEq l k && (match l[k]? with
  | some x=>zJv l k x
  | none=>true)
def zFH (l:List Ly):Bool:=zEq l l.length && decide ((l.length:Int)≤40)
theorem PU {l:List Ly}:∀ {n k:Nat} {x:Ly},zEq l n=true→k<n→l[k]? = some x→zJv l k x=true
 | 0,_,_,_,h,_=>by omega
 | n+1,k,x,h,hk,hx=>by
  simp only [zEq,Bool.and_eq_true] at h;by_cases e:k=n
  ·subst e;rw [hx] at h;exact h.2
  ·exact PU h.1 (by omega) hx
theorem zIu {l:List Ly} (h:∀ k x y,l[k]? = some x→l[k+1]? = some y→x.i<y.i):mV l:=by
 have key:∀ (d k:Nat) (x y:Ly),l[k]? = some x→l[k+d+1]? = some y→x.i<y.i:=by
  intro d
  induction d with
  | zero=>intro k x y hx hy;exact h k x y hx hy
  | succ d ih =>
   intro k x y hx hy;have hlt:k+d+1<l.length:=by have:=(List.getElem?_eq_some_iff.1 hy).1;omega
   have hz:=List.getElem?_eq_getElem hlt;have:=ih k x _ hx hz;have:=h (k+d+1) _ y hz hy;omega
 refine List.pairwise_iff_getElem.2 fun i j hi hj hij=>key (j-i-1) i _ _ (List.getElem?_eq_getElem hi) ?_;rw [show i+(j-i-1)+1=j by omega]
 exact List.getElem?_eq_getElem hj
theorem zAk {l:List Ly} (h:mV l) {j n:Nat} {y:Ly} (hj:l[j]? = some y) (hn:j<n):eA (l.take n) y.i=some y:=by
 refine kM (List.Pairwise.sublist (List.take_sublist n l) h) (List.mem_iff_getElem?.2 ⟨j,?_⟩);rw [List.getElem?_take,if_pos hn];exact hj
theorem lU {l:List Ly} (h:∀ x∈l,1≤x.i):eA l 0=none:=by
 refine List.find?_eq_none.2 fun x hx=>?_;have:=h x hx;simp;omega
theorem hU {l:List Ly} {id:Int} (h:eA l id=none) (n:Nat):dW l n id=[]:=by
 cases n with
 | zero=>rfl
 | succ n=>simp only [dW,h]
theorem mX {l:List Ly} (hi:mV l) (hlo:∀ x∈l,1≤x.i) (hp:∀ k x,l[k]? = some x→eS l k x.p):∀ (k:Nat) {x:Ly} {j n m:Nat},l[k]? = some x→k<j→k+1≤n→k+1≤m→dW (l.take j) n x.i=dW l m x.i:=by
 intro k
 induction k using Nat.strongRecOn with
 | ind k ih =>
  intro x j n m hx hj hn hm;obtain ⟨n',rfl⟩:∃ n',n=n'+1:=⟨n-1,by omega⟩
  obtain ⟨m',rfl⟩:∃ m',m=m'+1:=⟨m-1,by omega⟩
  simp only [dW,zAk hi hx hj,kM hi (List.mem_of_getElem? hx)]
  congr 1
  rcases hp k x hx with h0|⟨q,y,h1,h2,h3,_⟩
  ·rw [h0,hU (lU fun z hz=>hlo z (List.mem_of_mem_take hz)),hU (lU hlo)]
  ·rw [← h3];exact ih q h1 h2 (by omega) (by omega) (by omega)
theorem qV {l:List Ly} (hi:mV l) (hlo:∀ x∈l,1≤x.i) (hp:∀ k x,l[k]? = some x→eS l k x.p) {x:Ly} (hx:x∈l):bM l x.i=bM l x.p++[x.i]:=by
 obtain ⟨k,hk⟩:=List.mem_iff_getElem?.1 hx;have hlt:=(List.getElem?_eq_some_iff.1 hk).1;unfold bM;rw [show dW l (l.length+1) x.i=x.i::dW l l.length x.p by simp only [dW,kM hi hx],List.reverse_cons]
 congr 2
 rcases hp k x hk with h0|⟨q,y,h1,h2,h3,_⟩
 ·rw [h0,hU (lU hlo),hU (lU hlo)]
 ·rw [← h3,← mX hi hlo hp q h2 (j:=l.length) (n:=l.length) (m:=l.length) (by omega) (by omega) (by omega),← mX hi hlo hp q h2 (j:=l.length) (n:=l.length) (m:=l.length+1) (by omega) (by omega) (by omega)]
theorem mY {l:List Ly} (hlo:∀ x∈l,1≤x.i):bM l 0=[]:=by
 unfold bM;rw [hU (lU hlo)];rfl
theorem OkG.lo1 {l:List Ly} (h:OkG l):∀ x∈l,1≤x.i:=fun x hx=>(h.lo x hx).1
theorem OkG.step {l:List Ly} (h:OkG l) {x:Ly} (hx:x∈l):bM l x.i=bM l x.p++[x.i]:=qV h.inc h.lo1 h.par hx
theorem JI {l:List Ly} (k:Nat) {id:Int} (h:zJu (l.take k) id=true):eS l k id:=by
 unfold zJu at h;rw [Bool.or_eq_true] at h;rcases h with h|h
 ·exact .inl (by simpa using h)
 ·split at h
  ·rename_i y hy;obtain ⟨h1,h2⟩:=lT hy;obtain ⟨j,hj⟩:=List.mem_iff_getElem?.1 h1;rw [List.getElem?_take] at hj;split at hj
   ·rename_i hlt;exact .inr ⟨j,y,hlt,hj,h2,h⟩
   ·cases hj
  ·cases h
theorem zBG {l:List Ly} (h:zFH l=true):OkG l∧l.length≤40:=by
 unfold zFH at h;simp only [Bool.and_eq_true,decide_eq_true_eq] at h;obtain ⟨h1,h2⟩:=h;have hat:∀ k x,l[k]? = some x→zJv l k x=true:=fun k x hx=>PU h1 (List.getElem?_eq_some_iff.1 hx).1 hx;have hat2:∀ k x,l[k]? = some x→(1≤x.i∧x.i≤2147483647)∧(0<k→((l[k-1]?).getD ly0).i<x.i)∧eS l k x.p∧eS l k x.s∧(x.s≠0→x.p≠0∧x.p≠x.s)∧(bM (l.take (k+1)) x.i).length≤12:=fun k x hx=>by
  have:=hat k x hx;unfold zJv at this;simp only [Bool.and_eq_true,Bool.not_eq_true',Bool.or_eq_false_iff,decide_eq_false_iff_not,Bool.and_eq_false_iff,decide_eq_true_eq] at this;obtain ⟨⟨a1,a2,a3⟩,⟨a4,a5⟩,a6,a7⟩:=this;refine ⟨by omega,fun hk=>?_,JI k a4,JI k a5,fun hs=>?_,by omega⟩
  ·rcases a3 with a3|a3 <;> omega
  ·rcases a6 with a6|a6
   ·simp [hs] at a6
   ·simpa using a6
 have hinc:mV l:=zIu fun k x y hx hy=>by
  have:=(hat2 (k+1) y hy).2.1 (by omega);rw [show k+1-1=k by omega,hx] at this
  exact this
 have hlo:∀ x∈l,1≤x.i∧x.i≤2147483647:=fun x hx=>by
  obtain ⟨k,hk⟩:=List.mem_iff_getElem?.1 hx;exact (hat2 k x hk).1
 have hpar:∀ k x,l[k]? = some x→eS l k x.p:=fun k x hx=>(hat2 k x hx).2.2.1;refine ⟨⟨hinc,hlo,hpar,fun k x hx=>(hat2 k x hx).2.2.2.1,fun x hx=>?_,fun x hx=>?_⟩,by omega⟩
 ·obtain ⟨k,hk⟩:=List.mem_iff_getElem?.1 hx;exact (hat2 k x hk).2.2.2.2.1
 ·obtain ⟨k,hk⟩:=List.mem_iff_getElem?.1 hx;have h5:=(hat2 k x hk).2.2.2.2.2;have hlt:=(List.getElem?_eq_some_iff.1 hk).1;unfold bM at h5 ⊢;rw [List.length_reverse] at h5 ⊢;rw [← mX hinc (fun z hz=>(hlo z hz).1) hpar k hk (j:=k+1) (n:=(l.take (k+1)).length+1) (m:=l.length+1) (by omega) (by rw [List.length_take];omega) (by omega)];exact h5
end Go.Dm
end
section
namespace Go.Dm
open Go
structure En where
 p:List UInt8
 k:Int
 o:Bool
 n:Nd
def En.cs (x:En):List PV:=[.s x.p,.i .i64 x.k,.b x.o,.i .i64 x.n.k,.i .i64 x.n.m,.f x.n.t,.sl 1 (bW x.n.d)]
def eZ (l:List En):List (List PV):=l.map En.cs
theorem BF (l:List En):(eZ l).length=l.length:=by simp [eZ]
theorem zDe:eZ []=[]:=rfl
theorem nX {t:List En} {k:Nat} {x:En} (h:t[k]? = some x):(eZ t).getD k []=[.s x.p,.i .i64 x.k,.b x.o,.i .i64 x.n.k,.i .i64 x.n.m,.f x.n.t,.sl 1 (bW x.n.d)]:=by
 simp only [eZ,List.getD_eq_getElem?_getD,List.getElem?_map,h];rfl
theorem zDf (t:List En):(∀ x∈eZ t,x.length=7)=True:=eq_true fun x hx=>by
 obtain ⟨y,_,rfl⟩:=List.mem_map.1 hx;rfl
theorem YW (a:List En) (n:Nat):(eZ a).take n=eZ (a.take n):=by simp [eZ]
theorem YT (a:List En) (n:Nat):(eZ a).drop n=eZ (a.drop n):=by simp [eZ]
theorem NW (a b:List En):eZ a++eZ b=eZ (a++b):=by simp [eZ]
theorem YU (t:List En) (p:List UInt8) (k:Int) (o:Bool) (nk nm:Int) (nt:Nat) (d:List UInt8):eZ t++[[.s p,.i .i64 k,.b o,.i .i64 nk,.i .i64 nm,.f nt,.sl 1 (bW d)]]=eZ (t++[⟨p,k,o,⟨nk,nm,nt,d⟩⟩]):=by simp [eZ,En.cs]
theorem zIq (x:En):En.mk x.p x.k x.o x.n=x:=rfl
attribute [go_sem] BF zDe zDf YW YT NW YU zIq
def gP (x:En):Bool:=x.k == 2 || x.n.k != 2
def lQ (t:List It) (x:En):Bool:=x.o || (gP x || !aU t x.p)
def goE (t:List It) (x:En) (y:It):Bool:=y.p == x.p || (lQ t x && aM x.p y.p)
def lJ (t:List It) (x:En):List It:=t.filter fun y=>!goE t x y
def jI (t:List It) (x:En):List It:=if x.k == 2 then lJ t x else sZ (lJ t x) x.p x.n
def eR (t:List It) (l:List En):List It:=l.foldl jI t
def oF (t:List It) (l:List En):List It × Bool:=if lG (eR t l) then (eR t l,true) else ([],false)
theorem vQ {t:List It} (h:Srt t) (x:En):Srt (lJ t x):=h.filter _
theorem zBi {t:List It} (h:Srt t) (x:En):Srt (jI t x):=by
 unfold jI;split
 ·exact vQ h x
 ·exact tR (vQ h x)
theorem wE:∀ {l:List En} {t:List It},Srt t→Srt (eR t l)
 | [],_,h=>h
 | x::l,t,h=>wE (l:=l) (zBi h x)
theorem GN (t:List It) (x:En):(lJ t x).length≤t.length:=List.length_filter_le ..
theorem HD (t:List It) (x:En):(jI t x).length≤t.length+1:=by
 have:=GN t x;have:=tQ (lJ t x) x.p x.n;unfold jI;split <;> omega
theorem zEc {t:List It} {x:En}:∀ y∈lJ t x,(y.p == x.p)=false:=fun y hy=>by
 have:=(List.mem_filter.1 hy).2;simp only [goE,Bool.not_eq_true',Bool.or_eq_false_iff] at this;exact this.1
theorem zBh {t:List It} {x:En} {y:It} (h:y∈jI t x):y=⟨x.p,x.n⟩∨y∈t:=by
 unfold jI at h;split at h
 ·exact .inr (List.mem_filter.1 h).1
 ·rcases kY h with h|h
  ·exact .inl h
  ·exact .inr (List.mem_filter.1 h).1
end Go.Dm
namespace Go.Dm
open Go
def zFz (x:En):Bool:=!(x.p == []) && (cJ x.p && (if x.k == 2 then !x.o && VY x.n else (x.k == 1 && aV x.n) && (!x.o || x.n.k == 2)))
structure OkE (l:List En):Prop where
 may:∀ x∈l,zFz x=true
 srt:l.Pairwise fun x y=>bZ x.p y.p=true
 open_:l.Pairwise fun y x=>(gP y && aM y.p x.p)=false
 tlen:∀ x∈l,x.n.t<18446744073709551616
 len:l.length≤1000
theorem OkE.plen {l:List En} (h:OkE l):∀ x∈l,x.p.length≤120:=fun x hx=>by
 have:=h.may x hx;simp only [zFz,Bool.and_eq_true] at this;exact vJ this.2.1
theorem OkE.dlen {l:List En} (h:OkE l):∀ x∈l,x.n.d.length≤2000:=fun x hx=>by
 have:=h.may x hx;simp only [zFz,Bool.and_eq_true] at this;have h2:=this.2.2;split at h2
 ·simp only [Bool.and_eq_true,VY,beq_iff_eq] at h2;omega
 ·simp only [Bool.and_eq_true] at h2;exact gH h2.1.2
end Go.Dm
namespace Go.Dm
open Go
theorem HE (t:List It) (l:List En):∀ k,(eR t (l.take k)).length≤t.length+k
 | 0=>by simp [eR]
 | k+1=>by
  have ih:=HE t l k;rcases Nat.lt_or_ge k l.length with h|h
  ·have e:eR t (l.take (k+1))=jI (eR t (l.take k)) l[k]:=by
    unfold eR;rw [List.take_add_one,List.getElem?_eq_getElem h,List.foldl_append];rfl
   rw [e];have:=HD (eR t (l.take k)) l[k];omega
  ·rw [List.take_of_length_le (by omega)];rw [List.take_of_length_le (by omega)] at ih;omega
theorem wD {y:It}:∀ {l:List En} {t:List It},y∈eR t l→y∈t∨∃ x∈l,y=⟨x.p,x.n⟩
 | [],_,h=>.inl h
 | x::l,t,h=>by
  rcases wD (l:=l) (t:=jI t x) h with h|⟨z,hz,e⟩
  ·rcases zBh h with h|h
   ·exact .inr ⟨x,List.mem_cons_self,h⟩
   ·exact .inl h
  ·exact .inr ⟨z,List.mem_cons_of_mem _ hz,e⟩
end Go.Dm
end
section
namespace Go.Dm
open Go
def uU (ls:List (List En)):List (List PV):=ls.map fun l=>[.sl 7 (eZ l)]
theorem NZ (ls:List (List En)):(uU ls).length=ls.length:=by simp [uU]
theorem zDp:uU []=[]:=rfl
theorem zGw {t:List (List En)} {k:Nat} {x:List En} (h:t[k]? = some x):(uU t).getD k []=[.sl 7 (eZ x)]:=by
 simp only [uU,List.getD_eq_getElem?_getD,List.getElem?_map,h];rfl
theorem zDq (t:List (List En)):(∀ x∈uU t,x.length=1)=True:=eq_true fun x hx=>by
 obtain ⟨y,_,rfl⟩:=List.mem_map.1 hx;rfl
theorem ZH (a:List (List En)) (n:Nat):(uU a).take n=uU (a.take n):=by simp [uU]
theorem ZF (a:List (List En)) (n:Nat):(uU a).drop n=uU (a.drop n):=by simp [uU]
theorem zDo (a b:List (List En)):uU a++uU b=uU (a++b):=by simp [uU]
theorem ZG (t:List (List En)) (l:List En):uU t++[[.sl 7 (eZ l)]]=uU (t++[l]):=by simp [uU]
attribute [go_sem] NZ zDp zDq ZH ZF zDo ZG
def lV:List It→List (List En)→List It × Bool
 | t,[]=>(t,true)
 | t,l::r=>if (oF t l).2 then lV (oF t l).1 r else ([],false)
theorem zEr {t:List It} {l:List En} (ht:OkT t) (hl:OkE l) (h:(oF t l).2=true):OkT (oF t l).1:=by
 unfold oF at h ⊢;split at h
 ·rename_i hr;rw [if_pos hr];refine zBI (fun y hy=>?_) hr;rcases wD hy with hy|⟨x,hx,rfl⟩
  ·exact ht.tlen y hy
  ·exact hl.tlen x hx
 ·cases h
end Go.Dm
end
section
namespace Go.Dm
open Go
def isB (l:List (List UInt8)) (p:List UInt8):Bool:=l.any fun q=>q == p
def zAv (t:List It) (p:List UInt8):Bool:=!(p == []) && aU t p
def JJ (t w:List It) (p:List UInt8):Bool:=t.any fun y=>(aW w y.p).isSome && aM p y.p
def zBe (t w:List It) (x:It):Bool:=(x.n.k == 2 && (zAv t x.p && !decide (((gA t x.p).length:Int)<2))) && !JJ t w x.p
def iI (t w:List It):List (List UInt8):=(w.filter (zBe t w)).map fun x=>x.p
def MC (t:List It) (os:List (List UInt8)) (x:It):List En :=
 if isB os x.p then [⟨x.p,1,true,x.n⟩] else if (!(aW t x.p).isSome || !iS ((aW t x.p).getD nd0) x.n) then [⟨x.p,1,false,x.n⟩] else []
def gO (t:List It) (os:List (List UInt8)) (w:List It):List En:=w.flatMap (MC t os)
def zCx (w:List It) (os:List (List UInt8)):Nat→List UInt8→Bool
 | 0,_=>false
 | n+1,q=>if q == [] then false else if (!(aW w q).isSome || (((aW w q).getD nd0).k != 2 || isB os q)) then true else zCx w os n (aP q)
def DO (w:List It) (os:List (List UInt8)) (p:List UInt8):Bool:=zCx w os p.length (aP p)
def zJt (l:List En) (p:List UInt8):Nat:=(l.takeWhile fun x=>bZ x.p p).length
def zCy (l:List En) (e:En):List En:=l.take (zJt l e.p)++e::l.drop (zJt l e.p)
def jH (p:List UInt8):En:=⟨p,2,false,nd0⟩
def GC (w:List It) (os:List (List UInt8)) (out:List En) (y:It):List En :=
 if ((aW w y.p).isSome || DO w os y.p) then out else zCy out (jH y.p)
def fR (t w:List It):List En:=t.foldl (GC w (iI t w)) (gO t (iI t w) w)
theorem XT (p:List UInt8):(aP p).length≤p.length:=by
 by_cases h:aP p=[]
 ·rw [h];exact Nat.zero_le _
 ·exact Nat.le_of_lt (pI h)
theorem zGy (l:List En) (p:List UInt8):zJt l p≤l.length:=(List.takeWhile_sublist _).length_le
theorem zDI (l:List En) (e:En):(zCy l e).length=l.length+1:=by
 have:=zGy l e.p;simp only [zCy,List.length_append,List.length_cons,List.length_take,List.length_drop];omega
theorem zEw (t:List It) (os:List (List UInt8)) (x:It):(MC t os x).length≤1:=by
 unfold MC;split
 ·exact Nat.le_refl _
 ·split
  ·exact Nat.le_refl _
  ·exact Nat.zero_le _
theorem pZ (t:List It) (os:List (List UInt8)):∀ w:List It,(gO t os w).length≤w.length
 | []=>Nat.le_refl _
 | x::w=>by
  have h1:=zEw t os x;have h2:=pZ t os w;unfold gO at h2 ⊢;rw [List.flatMap_cons,List.length_append,List.length_cons];omega
theorem TH {t:List It} {os:List (List UInt8)} {w:List It} {k:Nat} {x:It} (h:w[k]? = some x):gO t os (w.take (k+1))=gO t os (w.take k)++MC t os x:=by
 unfold gO;rw [List.take_add_one,h,List.flatMap_append];simp
theorem zAs (w:List It) (os:List (List UInt8)) (out:List En) (y:It):(GC w os out y).length≤out.length+1:=by
 unfold GC;split
 ·omega
 ·rw [zDI];omega
theorem uH {w:List It} {os:List (List UInt8)} {n:Nat} {q:List UInt8} (h:q≠[]):zCx w os (n+1) q=if (!(aW w q).isSome || (((aW w q).getD nd0).k != 2 || isB os q)) then true else zCx w os n (aP q):=by
 rw [zCx,if_neg (by simpa using h)]
theorem NQ {w:List It} {os:List (List UInt8)}:∀ n:Nat,zCx w os n []=false
 | 0=>rfl
 | n+1=>by rw [zCx];simp
end Go.Dm
end
