/- Part 15 of the proof of roomAsks_card, set without needless blanks. No condition. -/
import Derived.Test.YtlbfnbldeefgmaaGreatDoorA12
set_option linter.all false
section
namespace Go.Dm
open Go
structure Ly where
 i:Int
 p:Int
 s:Int
 f:Bool
def Ly.cs (x:Ly):List PV:=[.i .i64 x.i,.i .i64 x.p,.i .i64 x.s,.b x.f]
def Ly.cv (x:Ly):List CV:=[.p (.i .i64 x.i),.p (.i .i64 x.p),.p (.i .i64 x.s),.p (.b x.f)]
def ly0:Ly:=⟨0,0,0,false⟩
def cZ (l:List Ly):List (List PV):=l.map Ly.cs
theorem fZ (l:List Ly):(cZ l).length=l.length:=by simp [cZ]
theorem zF0:cZ []=[]:=rfl
theorem lK {l:List Ly} {k:Nat} {x:Ly} (h:l[k]? = some x):(cZ l).getD k []=[.i .i64 x.i,.i .i64 x.p,.i .i64 x.s,.b x.f]:=by
 simp only [cZ,List.getD_eq_getElem?_getD,List.getElem?_map,h];rfl
theorem VJ (l:List Ly):(∀ x∈cZ l,x.length=4)=True:=eq_true fun x hx=>by
 obtain ⟨y,_,rfl⟩:=List.mem_map.1 hx;rfl
theorem zCf (a:List Ly) (n:Nat):(cZ a).take n=cZ (a.take n):=by simp [cZ]
theorem zCd (a:List Ly) (n:Nat):(cZ a).drop n=cZ (a.drop n):=by simp [cZ]
theorem zFZ (a b:List Ly):cZ a++cZ b=cZ (a++b):=by simp [cZ]
theorem zCe (t:List Ly) (i p s:Int) (f:Bool):cZ t++[[.i .i64 i,.i .i64 p,.i .i64 s,.b f]]=cZ (t++[⟨i,p,s,f⟩]):=by simp [cZ,Ly.cs]
theorem VK (t:List Ly) (k:Nat) (i p s:Int) (f:Bool):(cZ t).set k [.i .i64 i,.i .i64 p,.i .i64 s,.b f]=cZ (t.set k ⟨i,p,s,f⟩):=by simp [cZ,Ly.cs,List.map_set]
theorem zLF (x:Ly):Ly.mk x.i x.p x.s x.f=x:=rfl
def cW (l:List Int):List (List PV):=l.map fun n=>[.i .i64 n]
theorem eS (l:List Int):(cW l).length=l.length:=by simp [cW]
theorem zF8:cW []=[]:=rfl
theorem tH {l:List Int} {k:Nat} {x:Int} (h:l[k]? = some x):(cW l).getD k []=[.i .i64 x]:=by
 simp only [cW,List.getD_eq_getElem?_getD,List.getElem?_map,h];rfl
theorem zF9 (l:List Int):(∀ x∈cW l,x.length=1)=True:=eq_true fun x hx=>by
 obtain ⟨y,_,rfl⟩:=List.mem_map.1 hx;rfl
theorem zCn (a:List Int) (n:Nat):(cW a).take n=cW (a.take n):=by simp [cW]
theorem zCl (a:List Int) (n:Nat):(cW a).drop n=cW (a.drop n):=by simp [cW]
theorem zF7 (a b:List Int):cW a++cW b=cW (a++b):=by simp [cW]
theorem zCm (t:List Int) (i:Int):cW t++[[.i .i64 i]]=cW (t++[i]):=by simp [cW]
def eF (l:List Ly) (id:Int):Option Ly:=l.find? fun x=>x.i == id
theorem nB {l:List Ly} {id:Int} {x:Ly} (h:eF l id=some x):x∈l∧x.i=id:=⟨List.mem_of_find?_eq_some h,eq_of_beq (List.find?_some (p:=fun z:Ly=>z.i == id) h)⟩
theorem zGt {l:List Ly} {id:Int} (h:eF l id=none):∀ x∈l,x.i≠id:=fun x hx e=>by
 have:=List.find?_eq_none.1 h x hx;simp [e] at this
theorem oO (x:Ly) (l:List Ly) (id:Int):eF (x::l) id=if x.i == id then some x else eF l id:=by
 simp only [eF,List.find?_cons];cases x.i == id <;> rfl
def dY (l:List Ly):Nat→Int→List Int
 | 0,_=>[]
 | n+1,id=>match eF l id with
  | some x=>x.i::dY l n x.p
  | none=>[]
def bQ (l:List Ly) (id:Int):List Int:=(dY l (l.length+1) id).reverse
theorem BI (l:List Ly):∀ (n:Nat) (id:Int),(dY l n id).length≤n
 | 0,_=>Nat.le_refl _
 | n+1,id=>by
  simp only [dY];split
  ·simp only [List.length_cons];have:=BI l n;exact Nat.succ_le_succ (this _)
  ·exact Nat.zero_le _
theorem XY (l:List Ly) (id:Int):(bQ l id).length≤l.length+1:=by
 unfold bQ;rw [List.length_reverse];exact BI _ _ _
def oE (l:List Ly):Prop:=l.Pairwise fun x y=>x.i<y.i
theorem lO {l:List Ly} (h:oE l) {x:Ly} (hx:x∈l):eF l x.i=some x:=by
 induction l with
 | nil=>cases hx
 | cons y l ih =>
  rw [oO];have h2:=List.pairwise_cons.1 h;rcases List.mem_cons.1 hx with rfl|hx
  ·rw [if_pos (by simp)]
  ·rw [if_neg (by have:=h2.1 x hx;simp;omega)];exact ih h2.2 hx
def eZ (l:List Ly) (k:Nat) (id:Int):Prop:=id=0∨∃ j y,j<k∧l[j]? = some y∧y.i=id∧y.f=true
structure OkG (l:List Ly):Prop where
 inc:oE l
 lo:∀ x∈l,1≤x.i∧x.i≤2147483647
 par:∀ k x,l[k]? = some x→eZ l k x.p
 sec:∀ k x,l[k]? = some x→eZ l k x.s
 two:∀ x∈l,x.s≠0→x.p≠0∧x.p≠x.s
 chn:∀ x∈l,(bQ l x.i).length≤12
theorem VX {l:List Ly} (h:oE l) {j k:Nat} {x y:Ly} (hx:l[j]? = some x) (hy:l[k]? = some y) (hjk:j<k):x.i<y.i:=by
 obtain ⟨h1,h2⟩:=List.getElem?_eq_some_iff.1 hx;obtain ⟨h3,h4⟩:=List.getElem?_eq_some_iff.1 hy;have:=List.pairwise_iff_getElem.1 h j k h1 h3 hjk;rw [h2,h4] at this;exact this
def HR:List Ly→List Int→List Int
 | [],_=>[]
 | x::r,W=>if W.contains x.i then HR r (x.p::x.s::W)++[x.i] else HR r W
def sO (l:List Ly) (id:Int):List Int:=HR l.reverse [id]
def iU (l:List Ly) (ids:List Int):List Ly:=l.filter fun x=>ids.any fun id=>(sO l id).contains x.i
theorem EH:∀ (r:List Ly) (W:List Int),(HR r W).length≤r.length
 | [],_=>Nat.le_refl _
 | x::r,W=>by
  simp only [HR];split
  ·rw [List.length_append];have:=EH r (x.p::x.s::W);simp only [List.length_cons,List.length_nil];omega
  ·have:=EH r W;simp only [List.length_cons];omega
theorem TO (l:List Ly) (id:Int):(sO l id).length≤l.length:=by
 have:=EH l.reverse [id]
 rwa [List.length_reverse] at this
theorem qP:∀ {r:List Ly} {W:List Int} {a:Int},a∈HR r W→∃ x∈r,x.i=a
 | [],_,_,h=>by cases h
 | x::r,W,a,h=>by
  simp only [HR] at h;split at h
  ·rcases List.mem_append.1 h with h|h
   ·obtain ⟨y,h1,h2⟩:=qP h;exact ⟨y,List.mem_cons_of_mem _ h1,h2⟩
   ·rw [List.mem_singleton] at h;exact ⟨x,List.mem_cons_self,h.symm⟩
  ·obtain ⟨y,h1,h2⟩:=qP h;exact ⟨y,List.mem_cons_of_mem _ h1,h2⟩
theorem EG:∀ {r:List Ly} {W:List Int},r.Pairwise (fun x y=>y.i<x.i)→(HR r W).Pairwise (· < ·)
 | [],_,_=>List.Pairwise.nil
 | x::r,W,h=>by
  have h2:=List.pairwise_cons.1 h;simp only [HR];split
  ·refine List.pairwise_append.2 ⟨EG h2.2,List.pairwise_singleton _ _,fun a ha b hb=>?_⟩;rw [List.mem_singleton] at hb;subst hb;obtain ⟨y,h3,rfl⟩:=qP ha;exact h2.1 y h3
  ·exact EG h2.2
theorem EE {l:List Ly} (h:oE l) (id:Int):(sO l id).Pairwise (· < ·):=by
 refine EG ?_;rw [List.pairwise_reverse];exact h
theorem qQ:∀ {r:List Ly} {W:List Int} {x:Ly},x∈r→x.i∈W→x.i∈HR r W
 | [],_,_,h,_=>by cases h
 | y::r,W,x,h,hw=>by
  simp only [HR];rcases List.mem_cons.1 h with rfl|h
  ·rw [if_pos (by simpa using hw)];exact List.mem_append_right _ (List.mem_singleton.2 rfl)
  ·split
   ·exact List.mem_append_left _ (qQ h (List.mem_cons_of_mem _ (List.mem_cons_of_mem _ hw)))
   ·exact qQ h hw
theorem wO:∀ {r:List Ly} {W:List Int} {pre post:List Ly} {x y:Ly},r.Pairwise (fun x y=>y.i<x.i)→r=pre++x::post→y∈post→x.i∈HR r W→(y.i=x.p∨y.i=x.s)→y.i∈HR r W
 | [],_,pre,_,_,_,_,e,_,_,_=>by simp at e
 | z::r,W,[],post,x,y,hp,e,hy,hx,h=>by
  simp only [List.nil_append,List.cons.injEq] at e;obtain ⟨rfl,rfl⟩:=e;simp only [HR] at hx ⊢;split
  ·refine List.mem_append_left _ (qQ hy ?_);rcases h with h|h <;> simp [h]
  ·rename_i hw;rw [if_neg hw] at hx;obtain ⟨u,h1,h2⟩:=qP hx;have:=(List.pairwise_cons.1 hp).1 u h1;omega
 | z::r,W,q::pre,post,x,y,hp,e,hy,hx,h=>by
  simp only [List.cons_append,List.cons.injEq] at e;obtain ⟨rfl,rfl⟩:=e;have hp2:=List.pairwise_cons.1 hp;have hxr:x∈pre++x::post:=List.mem_append_right _ List.mem_cons_self;simp only [HR] at hx ⊢;split
  ·rename_i hw;rw [if_pos hw] at hx;rcases List.mem_append.1 hx with hx|hx
   ·exact List.mem_append_left _ (wO hp2.2 rfl hy hx h)
   ·rw [List.mem_singleton] at hx;have:=hp2.1 x hxr;omega
  ·rename_i hw;rw [if_neg hw] at hx;exact wO hp2.2 rfl hy hx h
theorem sV {C:Int→Prop}:∀ {r:List Ly} {W:List Int},(∀ x∈r,x.i∈W→C x.i)→(∀ x∈r,C x.i→∀ y∈r,(y.i=x.p∨y.i=x.s)→C y.i)→∀ a∈HR r W,C a
 | [],_,_,_,a,h=>by cases h
 | x::r,W,h1,h2,a,h=>by
  simp only [HR] at h;split at h
  ·rename_i hw;have hx:C x.i:=h1 x List.mem_cons_self (by simpa using hw);rcases List.mem_append.1 h with h|h
   ·refine sV (fun y hy hw2=>?_) (fun y hy hc z hz=>h2 y (List.mem_cons_of_mem _ hy) hc z (List.mem_cons_of_mem _ hz)) a h;rcases List.mem_cons.1 hw2 with e|hw2
    ·exact h2 x List.mem_cons_self hx y (List.mem_cons_of_mem _ hy) (.inl e)
    ·rcases List.mem_cons.1 hw2 with e|hw2
     ·exact h2 x List.mem_cons_self hx y (List.mem_cons_of_mem _ hy) (.inr e)
     ·exact h1 y (List.mem_cons_of_mem _ hy) hw2
   ·rw [List.mem_singleton] at h;subst h;exact hx
  ·exact sV (fun y hy=>h1 y (List.mem_cons_of_mem _ hy)) (fun y hy hc z hz=>h2 y (List.mem_cons_of_mem _ hy) hc z (List.mem_cons_of_mem _ hz)) a h
theorem zFi {l:List Ly} {id a:Int} (h:a∈sO l id):∃ x∈l,x.i=a:=by
 obtain ⟨x,h1,h2⟩:=qP h;exact ⟨x,List.mem_reverse.1 h1,h2⟩
theorem qO {l:List Ly} {x:Ly} (h:x∈l):x.i∈sO l x.i:=qQ (List.mem_reverse.2 h) (List.mem_singleton.2 rfl)
theorem EF {l:List Ly} (hg:OkG l) {id:Int} {x y:Ly} (hx:x∈l) (hy:y∈l) (h:x.i∈sO l id) (hp:y.i=x.p∨y.i=x.s):y.i∈sO l id:=by
 have hinc:(l.reverse).Pairwise fun x y=>y.i<x.i:=by rw [List.pairwise_reverse];exact hg.inc
 have hlt:y.i<x.i:=by
  obtain ⟨k,hk⟩:=List.mem_iff_getElem?.1 hx;have st:∀ q,eZ l k q→y.i=q→y.i<x.i:=fun q hq e=>by
   rcases hq with hq|⟨j,z,h1,h2,h3,_⟩
   ·have:=(hg.lo y hy).1;omega
   ·have:=VX hg.inc h2 hk h1;omega
  rcases hp with hp|hp
  ·exact st _ (hg.par k x hk) hp
  ·exact st _ (hg.sec k x hk) hp
 obtain ⟨pre,post,e⟩:=List.append_of_mem (List.mem_reverse.2 hx);have hyr:y∈l.reverse:=List.mem_reverse.2 hy;rw [e] at hyr;have hyp:y∈post:=by
  rw [e] at hinc;rcases List.mem_append.1 hyr with h|h
  ·have:=(List.pairwise_append.1 hinc).2.2 y h x List.mem_cons_self;omega
  ·rcases List.mem_cons.1 h with h|h
   ·subst h;omega
   ·exact h
 unfold sO at h ⊢;exact wO hinc e hyp h hp
theorem sU {l:List Ly} {id:Int} {C:Int→Prop} (h1:∀ x∈l,x.i=id→C x.i) (h2:∀ x∈l,C x.i→∀ y∈l,(y.i=x.p∨y.i=x.s)→C y.i):∀ a∈sO l id,C a:=by
 refine sV (fun x hx hw=>h1 x (List.mem_reverse.1 hx) (List.mem_singleton.1 hw)) fun x hx hc y hy=>h2 x (List.mem_reverse.1 hx) hc y (List.mem_reverse.1 hy)
theorem QZ:∀ {a b:List Int},a.Pairwise (· < ·)→b.Pairwise (· < ·)→(∀ x,x∈a↔x∈b)→a=b
 | [],[],_,_,_=>rfl
 | [],y::b,_,_,h=>by have:=(h y).2 List.mem_cons_self;cases this
 | x::a,[],_,_,h=>by have:=(h x).1 List.mem_cons_self;cases this
 | x::a,y::b,ha,hb,h=>by
  have ha2:=List.pairwise_cons.1 ha;have hb2:=List.pairwise_cons.1 hb;have hxy:x=y:=by
   rcases List.mem_cons.1 ((h x).1 List.mem_cons_self) with h1|h1
   ·exact h1
   ·rcases List.mem_cons.1 ((h y).2 List.mem_cons_self) with h2|h2
    ·exact h2.symm
    ·have:=hb2.1 x h1;have:=ha2.1 y h2;omega
  subst hxy;rw [QZ ha2.2 hb2.2 fun z=>⟨fun hz=>?_,fun hz=>?_⟩]
  ·rcases List.mem_cons.1 ((h z).1 (List.mem_cons_of_mem _ hz)) with h1|h1
   ·have:=ha2.1 z hz;omega
   ·exact h1
  ·rcases List.mem_cons.1 ((h z).2 (List.mem_cons_of_mem _ hz)) with h1|h1
   ·have:=hb2.1 z hz;omega
   ·exact h1
attribute [go_sem] fZ zF0 VJ zCf zCd zFZ zCe VK zLF eS zF8 zF9 zCn zCl zF7 zCm Ly.cv
end Go.Dm
end
section
namespace Go.Dm
open Go
def zMx (l:List Ly) (id:Int):Bool:=id == 0 || (match eF l id with
 | some y=>y.f
 | none=>false)
def zMy (l:List Ly) (k:Nat) (x:Ly):Bool :=
 !(decide (x.i<1) || (decide (2147483647<x.i) || (decide ((0:Int)<(k:Int)) && decide (x.i≤((l[k-1]?).getD ly0).i)))) && ((zMx (l.take k) x.p && zMx (l.take k) x.s) &&
 (!((x.s != 0) && ((x.p == 0) || (x.p == x.s))) && decide (((bQ (l.take (k+1)) x.i).length:Int)≤12)))
def zG6 (l:List Ly):Nat→Bool
 | 0=>true
 | k+1=>zG6 l k && (match l[k]? with
  | some x=>zMy l k x
  | none=>true)
def zIv (l:List Ly):Bool:=zG6 l l.length && decide ((l.length:Int)≤40)
theorem WN {l:List Ly}:∀ {n k:Nat} {x:Ly},zG6 l n=true→k<n→l[k]? = some x→zMy l k x=true
 | 0,_,_,_,h,_=>by omega
 | n+1,k,x,h,hk,hx=>by
  simp only [zG6,Bool.and_eq_true] at h;by_cases e:k=n
  ·subst e;rw [hx] at h;exact h.2
  ·exact WN h.1 (by omega) hx
theorem zLt {l:List Ly} (h:∀ k x y,l[k]? = some x→l[k+1]? = some y→x.i<y.i):oE l:=by
 have key:∀ (d k:Nat) (x y:Ly),l[k]? = some x→l[k+d+1]? = some y→x.i<y.i:=by
  intro d
  induction d with
  | zero=>intro k x y hx hy;exact h k x y hx hy
  | succ d ih =>
   intro k x y hx hy;have hlt:k+d+1<l.length:=by have:=(List.getElem?_eq_some_iff.1 hy).1;omega
   have hz:=List.getElem?_eq_getElem hlt;have:=ih k x _ hx hz;have:=h (k+d+1) _ y hz hy;omega
 refine List.pairwise_iff_getElem.2 fun i j hi hj hij=>key (j-i-1) i _ _ (List.getElem?_eq_getElem hi) ?_;rw [show i+(j-i-1)+1=j by omega]
 exact List.getElem?_eq_getElem hj
theorem zCL {l:List Ly} (h:oE l) {j n:Nat} {y:Ly} (hj:l[j]? = some y) (hn:j<n):eF (l.take n) y.i=some y:=by
 refine lO (List.Pairwise.sublist (List.take_sublist n l) h) (List.mem_iff_getElem?.2 ⟨j,?_⟩);rw [List.getElem?_take,if_pos hn];exact hj
theorem nC {l:List Ly} (h:∀ x∈l,1≤x.i):eF l 0=none:=by
 refine List.find?_eq_none.2 fun x hx=>?_;have:=h x hx;simp;omega
theorem iK {l:List Ly} {id:Int} (h:eF l id=none) (n:Nat):dY l n id=[]:=by
 cases n with
 | zero=>rfl
 | succ n=>simp only [dY,h]
theorem oH {l:List Ly} (hi:oE l) (hlo:∀ x∈l,1≤x.i) (hp:∀ k x,l[k]? = some x→eZ l k x.p):∀ (k:Nat) {x:Ly} {j n m:Nat},l[k]? = some x→k<j→k+1≤n→k+1≤m→dY (l.take j) n x.i=dY l m x.i:=by
 intro k
 induction k using Nat.strongRecOn with
 | ind k ih =>
  intro x j n m hx hj hn hm;obtain ⟨n',rfl⟩:∃ n',n=n'+1:=⟨n-1,by omega⟩
  obtain ⟨m',rfl⟩:∃ m',m=m'+1:=⟨m-1,by omega⟩
  simp only [dY,zCL hi hx hj,lO hi (List.mem_of_getElem? hx)]
  congr 1
  rcases hp k x hx with h0|⟨q,y,h1,h2,h3,_⟩
  ·rw [h0,iK (nC fun z hz=>hlo z (List.mem_of_mem_take hz)),iK (nC hlo)]
  ·rw [← h3];exact ih q h1 h2 (by omega) (by omega) (by omega)
theorem sX {l:List Ly} (hi:oE l) (hlo:∀ x∈l,1≤x.i) (hp:∀ k x,l[k]? = some x→eZ l k x.p) {x:Ly} (hx:x∈l):bQ l x.i=bQ l x.p++[x.i]:=by
 obtain ⟨k,hk⟩:=List.mem_iff_getElem?.1 hx;have hlt:=(List.getElem?_eq_some_iff.1 hk).1;unfold bQ;rw [show dY l (l.length+1) x.i=x.i::dY l l.length x.p by simp only [dY,lO hi hx],List.reverse_cons]
 congr 2
 rcases hp k x hk with h0|⟨q,y,h1,h2,h3,_⟩
 ·rw [h0,iK (nC hlo),iK (nC hlo)]
 ·rw [← h3,← oH hi hlo hp q h2 (j:=l.length) (n:=l.length) (m:=l.length) (by omega) (by omega) (by omega),← oH hi hlo hp q h2 (j:=l.length) (n:=l.length) (m:=l.length+1) (by omega) (by omega) (by omega)]
theorem oI {l:List Ly} (hlo:∀ x∈l,1≤x.i):bQ l 0=[]:=by
 unfold bQ;rw [iK (nC hlo)];rfl
theorem OkG.lo1 {l:List Ly} (h:OkG l):∀ x∈l,1≤x.i:=fun x hx=>(h.lo x hx).1
theorem OkG.step {l:List Ly} (h:OkG l) {x:Ly} (hx:x∈l):bQ l x.i=bQ l x.p++[x.i]:=sX h.inc h.lo1 h.par hx
theorem NR {l:List Ly} (k:Nat) {id:Int} (h:zMx (l.take k) id=true):eZ l k id:=by
 unfold zMx at h;rw [Bool.or_eq_true] at h;rcases h with h|h
 ·exact .inl (by simpa using h)
 ·split at h
  ·rename_i y hy;obtain ⟨h1,h2⟩:=nB hy;obtain ⟨j,hj⟩:=List.mem_iff_getElem?.1 h1;rw [List.getElem?_take] at hj;split at hj
   ·rename_i hlt;exact .inr ⟨j,y,hlt,hj,h2,h⟩
   ·cases hj
  ·cases h
theorem zEk {l:List Ly} (h:zIv l=true):OkG l∧l.length≤40:=by
 unfold zIv at h;simp only [Bool.and_eq_true,decide_eq_true_eq] at h;obtain ⟨h1,h2⟩:=h;have hat:∀ k x,l[k]? = some x→zMy l k x=true:=fun k x hx=>WN h1 (List.getElem?_eq_some_iff.1 hx).1 hx;have hat2:∀ k x,l[k]? = some x→(1≤x.i∧x.i≤2147483647)∧(0<k→((l[k-1]?).getD ly0).i<x.i)∧eZ l k x.p∧eZ l k x.s∧(x.s≠0→x.p≠0∧x.p≠x.s)∧(bQ (l.take (k+1)) x.i).length≤12:=fun k x hx=>by
  have:=hat k x hx;unfold zMy at this;simp only [Bool.and_eq_true,Bool.not_eq_true',Bool.or_eq_false_iff,decide_eq_false_iff_not,Bool.and_eq_false_iff,decide_eq_true_eq] at this;obtain ⟨⟨a1,a2,a3⟩,⟨a4,a5⟩,a6,a7⟩:=this;refine ⟨by omega,fun hk=>?_,NR k a4,NR k a5,fun hs=>?_,by omega⟩
  ·rcases a3 with a3|a3 <;> omega
  ·rcases a6 with a6|a6
   ·simp [hs] at a6
   ·simpa using a6
 have hinc:oE l:=zLt fun k x y hx hy=>by
  have:=(hat2 (k+1) y hy).2.1 (by omega);rw [show k+1-1=k by omega,hx] at this
  exact this
 have hlo:∀ x∈l,1≤x.i∧x.i≤2147483647:=fun x hx=>by
  obtain ⟨k,hk⟩:=List.mem_iff_getElem?.1 hx;exact (hat2 k x hk).1
 have hpar:∀ k x,l[k]? = some x→eZ l k x.p:=fun k x hx=>(hat2 k x hx).2.2.1;refine ⟨⟨hinc,hlo,hpar,fun k x hx=>(hat2 k x hx).2.2.2.1,fun x hx=>?_,fun x hx=>?_⟩,by omega⟩
 ·obtain ⟨k,hk⟩:=List.mem_iff_getElem?.1 hx;exact (hat2 k x hk).2.2.2.2.1
 ·obtain ⟨k,hk⟩:=List.mem_iff_getElem?.1 hx;have h5:=(hat2 k x hk).2.2.2.2.2;have hlt:=(List.getElem?_eq_some_iff.1 hk).1;unfold bQ at h5 ⊢;rw [List.length_reverse] at h5 ⊢;rw [← oH hinc (fun z hz=>(hlo z hz).1) hpar k hk (j:=k+1) (n:=(l.take (k+1)).length+1) (m:=l.length+1) (by omega) (by rw [List.length_take];omega) (by omega)];exact h5
end Go.Dm
end
section
namespace Go.Dm
open Go
structure En where
 p:List UInt8
 k:Int
 o:Bool
 n:Nd
def En.cs (x:En):List PV:=[.s x.p,.i .i64 x.k,.b x.o,.i .i64 x.n.k,.i .i64 x.n.m,.f x.n.t,.sl 1 (bO x.n.d)]
def fJ (l:List En):List (List PV):=l.map En.cs
theorem EU (l:List En):(fJ l).length=l.length:=by simp [fJ]
theorem zFT:fJ []=[]:=rfl
theorem pJ {t:List En} {k:Nat} {x:En} (h:t[k]? = some x):(fJ t).getD k []=[.s x.p,.i .i64 x.k,.b x.o,.i .i64 x.n.k,.i .i64 x.n.m,.f x.n.t,.sl 1 (bO x.n.d)]:=by
 simp only [fJ,List.getD_eq_getElem?_getD,List.getElem?_map,h];rfl
theorem zFU (t:List En):(∀ x∈fJ t,x.length=7)=True:=eq_true fun x hx=>by
 obtain ⟨y,_,rfl⟩:=List.mem_map.1 hx;rfl
theorem zB9 (a:List En) (n:Nat):(fJ a).take n=fJ (a.take n):=by simp [fJ]
theorem zB6 (a:List En) (n:Nat):(fJ a).drop n=fJ (a.drop n):=by simp [fJ]
theorem VI (a b:List En):fJ a++fJ b=fJ (a++b):=by simp [fJ]
theorem zB7 (t:List En) (p:List UInt8) (k:Int) (o:Bool) (nk nm:Int) (nt:Nat) (d:List UInt8):fJ t++[[.s p,.i .i64 k,.b o,.i .i64 nk,.i .i64 nm,.f nt,.sl 1 (bO d)]]=fJ (t++[⟨p,k,o,⟨nk,nm,nt,d⟩⟩]):=by simp [fJ,En.cs]
theorem zLo (x:En):En.mk x.p x.k x.o x.n=x:=rfl
attribute [go_sem] EU zFT zFU zB9 zB6 VI zB7 zLo
def gZ (x:En):Bool:=x.k == 2 || x.n.k != 2
def mW (t:List It) (x:En):Bool:=x.o || (gZ x || !aV t x.p)
def goE (t:List It) (x:En) (y:It):Bool:=y.p == x.p || (mW t x && aP x.p y.p)
def mN (t:List It) (x:En):List It:=t.filter fun y=>!goE t x y
def kJ (t:List It) (x:En):List It:=if x.k == 2 then mN t x else sP (mN t x) x.p x.n
def eX (t:List It) (l:List En):List It:=l.foldl kJ t
def pV (t:List It) (l:List En):List It × Bool:=if jD (eX t l) then (eX t l,true) else ([],false)
theorem yM {t:List It} (h:Srt t) (x:En):Srt (mN t x):=h.filter _
theorem zDS {t:List It} (h:Srt t) (x:En):Srt (kJ t x):=by
 unfold kJ;split
 ·exact yM h x
 ·exact wI (yM h x)
theorem yW:∀ {l:List En} {t:List It},Srt t→Srt (eX t l)
 | [],_,h=>h
 | x::l,t,h=>yW (l:=l) (zDS h x)
theorem LF (t:List It) (x:En):(mN t x).length≤t.length:=List.length_filter_le ..
theorem LY (t:List It) (x:En):(kJ t x).length≤t.length+1:=by
 have:=LF t x;have:=oW (mN t x) x.p x.n;unfold kJ;split <;> omega
theorem zGS {t:List It} {x:En}:∀ y∈mN t x,(y.p == x.p)=false:=fun y hy=>by
 have:=(List.mem_filter.1 hy).2;simp only [goE,Bool.not_eq_true',Bool.or_eq_false_iff] at this;exact this.1
theorem zDR {t:List It} {x:En} {y:It} (h:y∈kJ t x):y=⟨x.p,x.n⟩∨y∈t:=by
 unfold kJ at h;split at h
 ·exact .inr (List.mem_filter.1 h).1
 ·rcases lY h with h|h
  ·exact .inl h
  ·exact .inr (List.mem_filter.1 h).1
end Go.Dm
namespace Go.Dm
open Go
def zIo (x:En):Bool:=!(x.p == []) && (bT x.p && (if x.k == 2 then !x.o && sN x.n else (x.k == 1 && aS x.n) && (!x.o || x.n.k == 2)))
structure OkE (l:List En):Prop where
 may:∀ x∈l,zIo x=true
 srt:l.Pairwise fun x y=>bL x.p y.p=true
 open_:l.Pairwise fun y x=>(gZ y && aP y.p x.p)=false
 tlen:∀ x∈l,x.n.t<18446744073709551616
 len:l.length≤1000
theorem OkE.plen {l:List En} (h:OkE l):∀ x∈l,x.p.length≤120:=fun x hx=>by
 have:=h.may x hx;simp only [zIo,Bool.and_eq_true] at this;exact pP this.2.1
theorem OkE.dlen {l:List En} (h:OkE l):∀ x∈l,x.n.d.length≤2000:=fun x hx=>by
 have:=h.may x hx;simp only [zIo,Bool.and_eq_true] at this;have h2:=this.2.2;split at h2
 ·simp only [Bool.and_eq_true,sN,beq_iff_eq] at h2;omega
 ·simp only [Bool.and_eq_true] at h2;exact gR h2.1.2
end Go.Dm
namespace Go.Dm
open Go
theorem LZ (t:List It) (l:List En):∀ k,(eX t (l.take k)).length≤t.length+k
 | 0=>by simp [eX]
 | k+1=>by
  have ih:=LZ t l k;rcases Nat.lt_or_ge k l.length with h|h
  ·have e:eX t (l.take (k+1))=kJ (eX t (l.take k)) l[k]:=by
    unfold eX;rw [List.take_add_one,List.getElem?_eq_getElem h,List.foldl_append];rfl
   rw [e];have:=LY (eX t (l.take k)) l[k];omega
  ·rw [List.take_of_length_le (by omega)];rw [List.take_of_length_le (by omega)] at ih;omega
theorem yV {y:It}:∀ {l:List En} {t:List It},y∈eX t l→y∈t∨∃ x∈l,y=⟨x.p,x.n⟩
 | [],_,h=>.inl h
 | x::l,t,h=>by
  rcases yV (l:=l) (t:=kJ t x) h with h|⟨z,hz,e⟩
  ·rcases zDR h with h|h
   ·exact .inr ⟨x,List.mem_cons_self,h⟩
   ·exact .inl h
  ·exact .inr ⟨z,List.mem_cons_of_mem _ hz,e⟩
end Go.Dm
end
section
namespace Go.Dm
open Go
def xQ (ls:List (List En)):List (List PV):=ls.map fun l=>[.sl 7 (fJ l)]
theorem VL (ls:List (List En)):(xQ ls).length=ls.length:=by simp [xQ]
theorem zF4:xQ []=[]:=rfl
theorem zJk {t:List (List En)} {k:Nat} {x:List En} (h:t[k]? = some x):(xQ t).getD k []=[.sl 7 (fJ x)]:=by
 simp only [xQ,List.getD_eq_getElem?_getD,List.getElem?_map,h];rfl
theorem zF5 (t:List (List En)):(∀ x∈xQ t,x.length=1)=True:=eq_true fun x hx=>by
 obtain ⟨y,_,rfl⟩:=List.mem_map.1 hx;rfl
theorem zCk (a:List (List En)) (n:Nat):(xQ a).take n=xQ (a.take n):=by simp [xQ]
theorem zCi (a:List (List En)) (n:Nat):(xQ a).drop n=xQ (a.drop n):=by simp [xQ]
theorem zF3 (a b:List (List En)):xQ a++xQ b=xQ (a++b):=by simp [xQ]
theorem zCj (t:List (List En)) (l:List En):xQ t++[[.sl 7 (fJ l)]]=xQ (t++[l]):=by simp [xQ]
attribute [go_sem] VL zF4 zF5 zCk zCi zF3 zCj
def nD:List It→List (List En)→List It × Bool
 | t,[]=>(t,true)
 | t,l::r=>if (pV t l).2 then nD (pV t l).1 r else ([],false)
theorem zG9 {t:List It} {l:List En} (ht:OkT t) (hl:OkE l) (h:(pV t l).2=true):OkT (pV t l).1:=by
 unfold pV at h ⊢;split at h
 ·rename_i hr;rw [if_pos hr];refine MT (fun y hy=>?_) hr;rcases yV hy with hy|⟨x,hx,rfl⟩
  ·exact ht.tlen y hy
  ·exact hl.tlen x hx
 ·cases h
end Go.Dm
end
section
namespace Go.Dm
open Go
def isB (l:List (List UInt8)) (p:List UInt8):Bool:=l.any fun q=>q == p
def zCY (t:List It) (p:List UInt8):Bool:=!(p == []) && aV t p
def NS (t w:List It) (p:List UInt8):Bool:=t.any fun y=>(aQ w y.p).isSome && aP p y.p
def zDO (t w:List It) (x:It):Bool:=(x.n.k == 2 && (zCY t x.p && !decide (((fR t x.p).length:Int)<2))) && !NS t w x.p
def iX (t w:List It):List (List UInt8):=(w.filter (zDO t w)).map fun x=>x.p
def RY (t:List It) (os:List (List UInt8)) (x:It):List En :=
 if isB os x.p then [⟨x.p,1,true,x.n⟩] else if (!(aQ t x.p).isSome || !gE ((aQ t x.p).getD nd0) x.n) then [⟨x.p,1,false,x.n⟩] else []
def gX (t:List It) (os:List (List UInt8)) (w:List It):List En:=w.flatMap (RY t os)
def zFc (w:List It) (os:List (List UInt8)):Nat→List UInt8→Bool
 | 0,_=>false
 | n+1,q=>if q == [] then false else if (!(aQ w q).isSome || (((aQ w q).getD nd0).k != 2 || isB os q)) then true else zFc w os n (aR q)
def HM (w:List It) (os:List (List UInt8)) (p:List UInt8):Bool:=zFc w os p.length (aR p)
def zMw (l:List En) (p:List UInt8):Nat:=(l.takeWhile fun x=>bL x.p p).length
def zFd (l:List En) (e:En):List En:=l.take (zMw l e.p)++e::l.drop (zMw l e.p)
def kI (p:List UInt8):En:=⟨p,2,false,nd0⟩
def KT (w:List It) (os:List (List UInt8)) (out:List En) (y:It):List En :=
 if ((aQ w y.p).isSome || HM w os y.p) then out else zFd out (kI y.p)
def fX (t w:List It):List En:=t.foldl (KT w (iX t w)) (gX t (iX t w) w)
theorem zBG (p:List UInt8):(aR p).length≤p.length:=by
 by_cases h:aR p=[]
 ·rw [h];exact Nat.zero_le _
 ·exact Nat.le_of_lt (qY h)
theorem zJm (l:List En) (p:List UInt8):zMw l p≤l.length:=(List.takeWhile_sublist _).length_le
theorem zGn (l:List En) (e:En):(zFd l e).length=l.length+1:=by
 have:=zJm l e.p;simp only [zFd,List.length_append,List.length_cons,List.length_take,List.length_drop];omega
theorem zHf (t:List It) (os:List (List UInt8)) (x:It):(RY t os x).length≤1:=by
 unfold RY;split
 ·exact Nat.le_refl _
 ·split
  ·exact Nat.le_refl _
  ·exact Nat.zero_le _
theorem rU (t:List It) (os:List (List UInt8)):∀ w:List It,(gX t os w).length≤w.length
 | []=>Nat.le_refl _
 | x::w=>by
  have h1:=zHf t os x;have h2:=rU t os w;unfold gX at h2 ⊢;rw [List.flatMap_cons,List.length_append,List.length_cons];omega
theorem zAe {t:List It} {os:List (List UInt8)} {w:List It} {k:Nat} {x:It} (h:w[k]? = some x):gX t os (w.take (k+1))=gX t os (w.take k)++RY t os x:=by
 unfold gX;rw [List.take_add_one,h,List.flatMap_append];simp
theorem zCV (w:List It) (os:List (List UInt8)) (out:List En) (y:It):(KT w os out y).length≤out.length+1:=by
 unfold KT;split
 ·omega
 ·rw [zGn];omega
theorem xD {w:List It} {os:List (List UInt8)} {n:Nat} {q:List UInt8} (h:q≠[]):zFc w os (n+1) q=if (!(aQ w q).isSome || (((aQ w q).getD nd0).k != 2 || isB os q)) then true else zFc w os n (aR q):=by
 rw [zFc,if_neg (by simpa using h)]
theorem TZ {w:List It} {os:List (List UInt8)}:∀ n:Nat,zFc w os n []=false
 | 0=>rfl
 | n+1=>by rw [zFc];simp
end Go.Dm
end
