/- Part 23 of the proof of roomKnown_card. No condition. -/
import Derived.Test.YtbpblnmhlhpebaaGreatDoorB21
set_option linter.all false
namespace Go.Dm
open Go
section
abbrev AK (N:List Nm):Prop:=N.Pairwise fun x y=>bL x.n y.n=true
def jR (N:List Nm) (s:List UInt8):Nat:=(N.takeWhile fun x=>bL x.n s).length
def NF (N:List Nm) (s:List UInt8):Bool:=N.any fun x=>x.n == s
def sV (N:List Nm) (s:List UInt8):Option Nm:=N.find? fun x=>x.n == s
def bX (N:List Nm) (s:List UInt8) (id:Int):List Nm:=(N.takeWhile fun x=>bL x.n s)++⟨s,id⟩::(N.dropWhile fun x=>bL x.n s).filter fun x=>!(x.n == s)
def oB (N:List Nm) (s:List UInt8):List Nm:=N.filter fun x=>!(x.n == s)
theorem fC {N:List Nm} {s:List UInt8} {x:Nm} (h:sV N s=some x):x∈N∧x.n=s:=⟨List.mem_of_find?_eq_some h,eq_of_beq (List.find?_some (p:=fun z:Nm=>z.n == s) h)⟩
theorem DL (N:List Nm) (s:List UInt8):(sV N s).isSome=NF N s:=by
 unfold sV NF
 induction N with
 | nil=>rfl
 | cons x N ih =>
  rw [List.find?_cons,List.any_cons]
  cases x.n == s
  ·simpa using ih
  ·rfl
theorem TZ {N:List Nm} {s:List UInt8}:∀ x∈N.takeWhile (fun x=>bL x.n s),bL x.n s=true∧x∈N:=by
 induction N with
 | nil=>intro x hx;cases hx
 | cons y N ih =>
  intro x hx
  rw [List.takeWhile_cons] at hx
  split at hx
  ·rename_i hy
   rcases List.mem_cons.1 hx with rfl|hx
   ·exact ⟨hy,List.mem_cons_self⟩
   ·exact ⟨(ih x hx).1,List.mem_cons_of_mem _ (ih x hx).2⟩
  ·cases hx
theorem RW {N:List Nm} {s:List UInt8} (h:AK N):∀ x∈N.dropWhile (fun x=>bL x.n s),bL x.n s=false∧x∈N:=by
 induction N with
 | nil=>intro x hx;cases hx
 | cons y N ih =>
  have h2:=List.pairwise_cons.1 h
  intro x hx
  rw [List.dropWhile_cons] at hx
  split at hx
  ·exact ⟨(ih h2.2 x hx).1,List.mem_cons_of_mem _ (ih h2.2 x hx).2⟩
  ·rename_i hy
   have hy:bL y.n s=false:=by simpa using hy
   rcases List.mem_cons.1 hx with e|hx'
   ·exact ⟨e▸hy,e▸List.mem_cons_self⟩
   ·refine ⟨?_,List.mem_cons_of_mem _ hx'⟩
    cases hb:bL x.n s with
    | false=>rfl
    | true=>rw [cF (h2.1 x hx') hb] at hy;cases hy
theorem rB {N:List Nm} (h:AK N) {s:List UInt8} {id:Int} {x:Nm}:x∈bX N s id↔x=⟨s,id⟩∨(x∈N∧x.n≠s):=by
 unfold bX
 have hsp:N=N.takeWhile (fun x=>bL x.n s)++N.dropWhile (fun x=>bL x.n s):=(List.takeWhile_append_dropWhile).symm
 rw [List.mem_append,List.mem_cons,List.mem_filter]
 constructor
 ·rintro (h1|rfl|⟨h1,h2⟩)
  ·obtain ⟨h3,h4⟩:=TZ x h1
   refine .inr ⟨h4,fun e=>?_⟩
   rw [e,bY] at h3;cases h3
  ·exact .inl rfl
  ·exact .inr ⟨(RW h x h1).2,by simpa using h2⟩
 ·rintro (rfl|⟨h1,h2⟩)
  ·exact .inr (.inl rfl)
  ·rw [hsp] at h1
   rcases List.mem_append.1 h1 with h3|h3
   ·exact .inl h3
   ·exact .inr (.inr ⟨h3,by simpa using h2⟩)
theorem nK {N:List Nm} (h:AK N) (s:List UInt8) (id:Int):AK (bX N s id):=by
 unfold bX
 refine List.pairwise_append.2 ⟨List.Pairwise.sublist (List.takeWhile_sublist _) h,List.pairwise_cons.2 ⟨fun x hx=>?_,(List.Pairwise.sublist (List.dropWhile_sublist _) h).filter _⟩,fun x hx y hy=>?_⟩
 ·obtain ⟨h1,h2⟩:=List.mem_filter.1 hx
  have h3:=(RW h x h1).1
  cases hb:bL s x.n with
  | true=>rfl
  | false=>have:=dX hb h3;simp [this] at h2
 ·have h1:=(TZ x hx).1
  rcases List.mem_cons.1 hy with rfl|hy
  ·exact h1
  ·obtain ⟨h2,_⟩:=List.mem_filter.1 hy
   have h3:=(RW h y h2).1
   have h4:=(TZ x hx).2
   cases hb:bL s y.n with
   | true=>exact cF h1 hb
   | false=>have:=dX hb h3;rw [← this];exact h1
theorem hY (N:List Nm) (s:List UInt8) (id:Int):(bX N s id).length≤N.length+1:=by
 unfold bX
 have h1:=List.length_filter_le (fun x:Nm=>!(x.n == s)) (N.dropWhile fun x=>bL x.n s)
 have h2:N.length=(N.takeWhile fun x=>bL x.n s).length+(N.dropWhile fun x=>bL x.n s).length:=by
  rw [← List.length_append,List.takeWhile_append_dropWhile]
 rw [List.length_append,List.length_cons]
 omega
theorem zM {N:List Nm} {s:List UInt8} {x:Nm}:x∈oB N s↔x∈N∧x.n≠s:=by
 unfold oB
 rw [List.mem_filter]
 simp
theorem LV {N:List Nm} (h:AK N) (s:List UInt8):AK (oB N s):=h.filter _
theorem MP (N:List Nm) (s:List UInt8):(oB N s).length≤N.length:=List.length_filter_le _ _
theorem zCB (N:List Nm) (s:List UInt8):jR N s≤N.length:=List.Sublist.length_le (List.takeWhile_sublist _)
theorem zCq (N:List Nm) (s:List UInt8):N.take (jR N s)=N.takeWhile fun x=>bL x.n s:=by
 unfold jR
 induction N with
 | nil=>rfl
 | cons x N ih =>
  rw [List.takeWhile_cons]
  split
  ·simp only [List.length_cons,List.take_succ_cons,ih]
  ·rfl
theorem zAb (N:List Nm) (s:List UInt8):N.drop (jR N s)=N.dropWhile fun x=>bL x.n s:=by
 unfold jR
 induction N with
 | nil=>rfl
 | cons x N ih =>
  rw [List.takeWhile_cons,List.dropWhile_cons]
  split
  ·simp only [List.length_cons,List.drop_succ_cons,ih]
  ·rfl
theorem rL {l:List Nm} {s:List UInt8} (h:∀ x∈l,(x.n == s)=false):(l.filter fun x=>!(x.n == s))=l:=List.filter_eq_self.2 fun x hx=>by rw [h x hx];rfl
theorem zKr {l:List Nm} {y:Nm} {s:List UInt8} (h:∀ x∈l,bL y.n x.n=true) (e:y.n=s):∀ x∈l,(x.n == s)=false:=fun x hx=>by
 have:=h x hx
 rw [e] at this
 rw [Bool.eq_false_iff]
 intro h2
 rw [eq_of_beq h2,bY] at this;cases this
theorem zKW {N:List Nm} {s:List UInt8}:∀ x∈N.takeWhile (fun x=>bL x.n s),(x.n == s)=false:=fun x hx=>mM (TZ x hx).1
theorem ES {N:List Nm} (h:AK N) {x:Nm} (hx:x∈N):N[jR N x.n]? = some x:=by
 have h1:x∈N.dropWhile (fun y=>bL y.n x.n):=by
  have hsp:N=N.takeWhile (fun y=>bL y.n x.n)++N.dropWhile (fun y=>bL y.n x.n):=(List.takeWhile_append_dropWhile).symm
  rw [hsp] at hx
  rcases List.mem_append.1 hx with h2|h2
  ·have:=zKW x h2;simp at this
  ·exact h2
 have h2:(N.drop (jR N x.n))[0]? = some x:=by
  rw [zAb]
  cases hd:N.dropWhile (fun y=>bL y.n x.n) with
  | nil=>rw [hd] at h1;cases h1
  | cons y r =>
   have hs:AK (y::r):=by rw [← hd];exact List.Pairwise.sublist (List.dropWhile_sublist _) h
   have hy:=(RW h y (by rw [hd];exact List.mem_cons_self)).1
   rw [hd] at h1
   rcases List.mem_cons.1 h1 with e|h3
   ·rw [e];rfl
   ·have:=(List.pairwise_cons.1 hs).1 x h3
    rw [this] at hy;cases hy
 rw [List.getElem?_drop] at h2
 simpa using h2
theorem nY {N:List Nm} (h:AK N) {x:Nm} (hx:x∈N) (id:Int):bX N x.n id=N.set (jR N x.n) ⟨x.n,id⟩:=by
 have h1:=ES h hx
 have hlt:=(List.getElem?_eq_some_iff.1 h1).1
 rw [List.set_eq_take_append_cons_drop,if_pos hlt]
 unfold bX
 rw [← zCq,← zAb]
 have hd:N.drop (jR N x.n)=x::N.drop (jR N x.n+1):=by
  rw [List.drop_eq_getElem_cons hlt]
  rw [List.getElem?_eq_getElem hlt,Option.some.injEq] at h1
  rw [h1]
 have hs:AK (N.drop (jR N x.n)):=List.Pairwise.sublist (List.drop_sublist _ _) h
 rw [hd] at hs ⊢
 rw [List.filter_cons,if_neg (by simp),rL (zKr (List.pairwise_cons.1 hs).1 rfl)]
theorem MF {N:List Nm} {s:List UInt8} (hx:NF N s=false) (id:Int):bX N s id=N.take (jR N s)++⟨s,id⟩::N.drop (jR N s):=by
 unfold bX
 rw [zCq,zAb,rL fun y hy=>?_]
 unfold NF at hx
 rw [List.any_eq_false] at hx
 have:=hx y (List.Sublist.subset (List.dropWhile_sublist _) hy)
 simpa using this
theorem RA {N:List Nm} (h:AK N) {x:Nm} (hx:x∈N):oB N x.n=N.take (jR N x.n)++N.drop (jR N x.n+1):=by
 have h1:=ES h hx
 have hlt:=(List.getElem?_eq_some_iff.1 h1).1
 have hd:N.drop (jR N x.n)=x::N.drop (jR N x.n+1):=by
  rw [List.drop_eq_getElem_cons hlt]
  rw [List.getElem?_eq_getElem hlt,Option.some.injEq] at h1
  rw [h1]
 have hs:AK (N.drop (jR N x.n)):=List.Pairwise.sublist (List.drop_sublist _ _) h
 have e:oB N x.n=(N.take (jR N x.n)++N.drop (jR N x.n)).filter fun y=>!(y.n == x.n):=by rw [List.take_append_drop];rfl
 rw [e,List.filter_append]
 rw [hd] at hs ⊢
 rw [List.filter_cons,if_neg (by simp),rL (zKr (List.pairwise_cons.1 hs).1 rfl),rL (by rw [zCq];exact zKW)]
structure Dr where
 L:List (Ly × List It)
 N:List Nm
 x:Int
def Dr.G (d:Dr):List Ly:=d.L.map (·.1)
def pR (d:Dr) (id:Int):Option (Ly × List It):=d.L.find? fun y=>y.1.i == id
def cQ (d:Dr) (id:Int):List It:=match pR d id with
 | some y=>y.2
 | none=>[]
def bN (N:List Nm) (s:List UInt8):Int:=match sV N s with
 | some x=>x.l
 | none=>0
def gU (d:Dr) (id:Int):Bool:=match pR d id with
 | some y=>y.1.f
 | none=>false
def yM (id:Int) (t:List It):List (Ly × List It)→List (Ly × List It)
 | []=>[]
 | y::l=>if y.1.i == id then (y.1,t)::l else y::yM id t l
def oZ (d:Dr) (id:Int) (t:List It):Dr:=⟨yM id t d.L,d.N,d.x⟩
def yZ (id:Int):List (Ly × List It)→List (Ly × List It)
 | []=>[]
 | y::l=>if y.1.i == id then (⟨y.1.i,y.1.p,y.1.s,true⟩,y.2)::l else y::yZ id l
def kK (d:Dr) (s:List UInt8):Int:=if !bF s then 1 else if !(bN d.N s == 0) then 7 else if decide (20≤(d.N.length:Int)) || (decide (40≤(d.L.length:Int)) || decide (2147483647≤d.x)) then 16 else 0
def rJ (d:Dr) (on:Int):Bool:=decide (12<(((bO d.G on).length:Int)+1))
def WN (d:Dr):List (Ly × List It):=(jO d.G (d.N.map (·.l))).filterMap fun y=>pR d y.i
def uW (d:Dr):Dr:=⟨WN d,d.N,d.x⟩
def uY (d:Dr) (s:List UInt8) (p q:Int) (t:List It):Dr:=uW ⟨d.L++[(⟨d.x,p,q,false⟩,t)],bX d.N s d.x,d.x+1⟩
def doD (d:Dr) (s:List UInt8) (c:Cl):Dr × An :=
 if bN d.N s == 0 then (d,anE 6) else if gU d (bN d.N s) && lH c.k then (d,anE 14)
 else if !((doR (cQ d (bN d.N s)) c).2.e == 0) then (d,(doR (cQ d (bN d.N s)) c).2) else (oZ d (bN d.N s) (doR (cQ d (bN d.N s)) c).1,(doR (cQ d (bN d.N s)) c).2)
def lX (d:Dr) (s:List UInt8):List It × Int:=if bN d.N s == 0 then ([],6) else (cQ d (bN d.N s),0)
def fH (d:Dr) (s sn:List UInt8):Dr × Int :=
 if bN d.N s == 0 then (d,6) else if gU d (bN d.N s) then (d,14) else if !(kK d sn == 0) then (d,kK d sn) else if rJ d (bN d.N s) then (d,15)
 else (uY ⟨yZ (bN d.N s) d.L,bX d.N sn (bN d.N s),d.x⟩ s (bN d.N s) 0 (cQ d (bN d.N s)),0)
def XU (d:Dr) (sn s:List UInt8):Dr × Int :=
 if bN d.N sn == 0 then (d,6) else if !gU d (bN d.N sn) then (d,13) else if !(kK d s == 0) then (d,kK d s) else if rJ d (bN d.N sn) then (d,15)
 else (uY d s (bN d.N sn) 0 (cQ d (bN d.N sn)),0)
def ZA (d:Dr) (s:List UInt8):Dr × Int:=if bN d.N s == 0 then (d,6) else (uW ⟨d.L,oB d.N s,d.x⟩,0)
def GQ:Dr:=⟨[(⟨1,0,0,true⟩,[]),(⟨2,1,0,false⟩,[])],[⟨[109,97,105,110],2⟩],3⟩
theorem mE {d:Dr} {id:Int} {y:Ly × List It} (h:pR d id=some y):y∈d.L∧y.1.i=id:=⟨List.mem_of_find?_eq_some h,eq_of_beq (List.find?_some (p:=fun z:Ly × List It=>z.1.i == id) h)⟩
theorem FT {d:Dr} {id:Int} (h:pR d id=none):∀ y∈d.L,y.1.i≠id:=fun y hy e=>by
 have:=List.find?_eq_none.1 h y hy
 simp [e] at this
theorem nS {d:Dr} (hi:oL d.G) {y:Ly × List It} (hy:y∈d.L):pR d y.1.i=some y:=by
 have key:∀ {l:List (Ly × List It)},oL (l.map (·.1))→y∈l→l.find? (fun z=>z.1.i == y.1.i)=some y:=by
  intro l
  induction l with
  | nil=>intro _ h;cases h
  | cons z l ih =>
   intro hp hm
   have h2:=List.pairwise_cons.1 hp
   rw [List.find?_cons]
   rcases List.mem_cons.1 hm with rfl|hm
   ·rw [show (y.1.i == y.1.i)=true by simp]
   ·have:z.1.i<y.1.i:=h2.1 y.1 (List.mem_map.2 ⟨y,hm,rfl⟩)
    rw [show (z.1.i == y.1.i)=false by simp;omega]
    exact ih h2.2 hm
 exact key hi hy
theorem zG2 (d:Dr) (id:Int):eQ d.G id=(pR d id).map (·.1):=by
 unfold eQ pR Dr.G
 induction d.L with
 | nil=>rfl
 | cons y l ih =>
  rw [List.map_cons,List.find?_cons,List.find?_cons]
  cases y.1.i == id
  ·exact ih
  ·rfl
attribute [go_sem] gE
end
section
def DP (l:List Ly) (p:Int→Bool):Prop:=∀ x∈l,p x.i=true→∀ y∈l,(y.i=x.p∨y.i=x.s)→p y.i=true
def mS (l:List Ly) (p:Int→Bool):List Ly:=l.filter fun x=>p x.i
theorem eF {l:List Ly} {p:Int→Bool} {x:Ly}:x∈mS l p↔x∈l∧p x.i=true:=by unfold mS;rw [List.mem_filter]
theorem zA3 {l:List Ly} (h:oL l) {x y:Ly} (hx:x∈l) (hy:y∈l) (e:x.i=y.i):x=y:=by
 have h1:=mJ h hx
 have h2:=mJ h hy
 rw [e,h2] at h1
 exact (Option.some.inj h1).symm
theorem pO {l:List Ly} {p:Int→Bool} (hi:oL l) {k q:Nat} {x:Ly} {id:Int} (hx:l[k]? = some x) (hq:(mS l p)[q]? = some x) (hc:∀ y∈l,y.i=id→p y.i=true) (h:eS l k id):eS (mS l p) q id:=by
 rcases h with h|⟨j,y,h1,h2,h3,h4⟩
 ·exact .inl h
 ·right
  have hy:=List.mem_of_getElem? h2
  have hm:y∈mS l p:=eF.2 ⟨hy,hc y hy h3⟩
  obtain ⟨j',hj'⟩:=List.mem_iff_getElem?.1 hm
  refine ⟨j',y,?_,hj',h3,h4⟩
  have hlt:=TX hi h2 hx h1
  have hip:oL (mS l p):=List.Pairwise.sublist List.filter_sublist hi
  rcases Nat.lt_trichotomy j' q with h|h|h
  ·exact h
  ·subst h;rw [hq] at hj';cases hj';omega
  ·have:=TX hip hq hj' h;omega
theorem YU {l:List Ly} {p:Int→Bool} (hg:OkG l) (hc:DP l p):∀ (k:Nat) {x:Ly},l[k]? = some x→p x.i=true→bO (mS l p) x.i=bO l x.i:=by
 have hip:oL (mS l p):=List.Pairwise.sublist List.filter_sublist hg.inc
 have hlo:∀ x∈mS l p,1≤x.i:=fun x hx=>hg.lo1 x (eF.1 hx).1
 have hpar:∀ q x,(mS l p)[q]? = some x→eS (mS l p) q x.p:=fun q x hq=>by
  obtain ⟨h1,h2⟩:=eF.1 (List.mem_of_getElem? hq)
  obtain ⟨k,hk⟩:=List.mem_iff_getElem?.1 h1
  exact pO hg.inc hk hq (fun y hy e=>hc x h1 h2 y hy (.inl e)) (hg.par k x hk)
 intro k
 induction k using Nat.strongRecOn with
 | ind k ih =>
  intro x hx hp
  have hm:=List.mem_of_getElem? hx
  rw [tV hip hlo hpar (eF.2 ⟨hm,hp⟩),hg.step hm]
  congr 1
  rcases hg.par k x hx with h0|⟨j,y,h1,h2,h3,_⟩
  ·rw [h0,oQ hlo,oQ hg.lo1]
  ·rw [← h3]
   exact ih j h1 h2 (hc x hm hp y (List.mem_of_getElem? h2) (.inl h3))
theorem NG {l:List Ly} {p:Int→Bool} (hg:OkG l) (hc:DP l p):OkG (mS l p):=by
 have at_:∀ (q:Nat) (x:Ly),(mS l p)[q]? = some x→∃ k,l[k]? = some x∧p x.i=true:=fun q x hq=>by
  obtain ⟨h1,h2⟩:=eF.1 (List.mem_of_getElem? hq)
  obtain ⟨k,hk⟩:=List.mem_iff_getElem?.1 h1
  exact ⟨k,hk,h2⟩
 refine OkG.mk (List.Pairwise.sublist List.filter_sublist hg.inc) (fun x hx=>hg.lo x (eF.1 hx).1) (fun q x hq=>?_) (fun q x hq=>?_) (fun x hx=>hg.two x (eF.1 hx).1) (fun x hx=>?_)
 ·obtain ⟨k,hk,hp⟩:=at_ q x hq
  exact pO hg.inc hk hq (fun y hy e=>hc x (List.mem_of_getElem? hk) hp y hy (.inl e)) (hg.par k x hk)
 ·obtain ⟨k,hk,hp⟩:=at_ q x hq
  exact pO hg.inc hk hq (fun y hy e=>hc x (List.mem_of_getElem? hk) hp y hy (.inr e)) (hg.sec k x hk)
 ·obtain ⟨h1,h2⟩:=eF.1 hx
  obtain ⟨k,hk⟩:=List.mem_iff_getElem?.1 h1
  rw [YU hg hc k hk h2]
  exact hg.chn x h1
theorem zEb {l:List Ly} {p:Int→Bool} (hg:OkG l) (hc:DP l p) {id:Int} (hid:p id=true):oX (mS l p) id=oX l id:=by
 have hpg:=NG hg hc
 refine QT (FB hpg.inc id) (FB hg.inc id) fun a=>⟨fun ha=>?_,fun ha=>?_⟩
 ·refine oO (l:=mS l p) (C:=(·∈oX l id)) (fun x hx e=>?_) (fun x hx hcx y hy hp=>FA hg (eF.1 hx).1 (eF.1 hy).1 hcx hp) a ha
  rw [← e];exact rG (eF.1 hx).1
 ·refine oO (l:=l) (C:=(·∈oX (mS l p) id)) (fun x hx e=>?_) (fun x hx hcx y hy hp=>?_) a ha
  ·rw [← e]
   exact rG (eF.2 ⟨hx,by rw [e];exact hid⟩)
  ·obtain ⟨z,hz,e⟩:=zES hcx
   obtain rfl:=zA3 hg.inc (eF.1 hz).1 hx e
   exact FA hpg hz (eF.2 ⟨hy,hc z hx (eF.1 hz).2 y hy hp⟩) hcx hp
theorem VS {l:List Ly} (hg:OkG l) {id a:Int} (h:a∈oX l id):a=id∨∃ y∈l,y.i=a∧y.f=true:=by
 refine oO (l:=l) (C:=fun a=>a=id∨∃ y∈l,y.i=a∧y.f=true) (fun x _ e=>.inl e) (fun x hx _ y hy hp=>.inr ⟨y,hy,rfl,?_⟩) a h
 obtain ⟨k,hk⟩:=List.mem_iff_getElem?.1 hx
 have st:∀ q,eS l k q→y.i=q→y.f=true:=fun q hq e=>by
  rcases hq with hq|⟨j,z,_,h2,h3,h4⟩
  ·have:=hg.lo1 y hy;omega
  ·rw [zA3 hg.inc hy (List.mem_of_getElem? h2) (by omega)];exact h4
 rcases hp with hp|hp
 ·exact st _ (hg.par k x hk) hp
 ·exact st _ (hg.sec k x hk) hp
def sS (l:List Ly) (ids:List Int) (a:Int):Bool:=ids.any fun id=>(oX l id).contains a
theorem wB (l:List Ly) (ids:List Int):jO l ids=mS l (sS l ids):=rfl
theorem zI {l:List Ly} (hg:OkG l) (ids:List Int):DP l (sS l ids):=fun x hx hp y hy h=>by
 unfold sS at hp ⊢
 obtain ⟨id,h1,h2⟩:=List.any_eq_true.1 hp
 refine List.any_eq_true.2 ⟨id,h1,?_⟩
 rw [List.contains_iff_mem] at h2 ⊢
 exact FA hg hx hy h2 h
def zW (id:Int) (x:Ly):Ly:=⟨x.i,x.p,x.s,x.f || x.i == id⟩
def mX (l:List Ly) (id:Int):List Ly:=l.map (zW id)
theorem zF0 (l:List Ly) (id a:Int):eQ (mX l id) a=(eQ l a).map (zW id):=by
 unfold eQ mX
 induction l with
 | nil=>rfl
 | cons x l ih =>
  rw [List.map_cons,List.find?_cons,List.find?_cons]
  show (match (x.i == a) with|true=>_|false=>_)=_
  cases x.i == a
  ·exact ih
  ·rfl
theorem AY (l:List Ly) (id:Int):∀ (n:Nat) (a:Int),eL (mX l id) n a=eL l n a
 | 0,_=>rfl
 | n+1,a=>by
  simp only [eL,zF0]
  cases eQ l a with
  | none=>rfl
  | some x=>simp only [Option.map_some,zW];rw [AY l id n x.p]
theorem wL (l:List Ly) (id a:Int):bO (mX l id) a=bO l a:=by
 unfold bO
 rw [AY,show (mX l id).length=l.length by simp [mX]]
theorem CK {l:List Ly} {id:Int} {k:Nat} {a:Int} (h:eS l k a):eS (mX l id) k a:=by
 rcases h with h|⟨j,y,h1,h2,h3,h4⟩
 ·exact .inl h
 ·exact .inr ⟨j,zW id y,h1,by unfold mX;rw [List.getElem?_map,h2];rfl,h3,by show (y.f || _)=true;rw [h4];rfl⟩
theorem zG6 {l:List Ly} {id:Int} {k:Nat} {x:Ly} (h:(mX l id)[k]? = some x):∃ y,l[k]? = some y∧x=zW id y:=by
 unfold mX at h
 rw [List.getElem?_map] at h
 obtain ⟨y,h1,h2⟩:=Option.map_eq_some_iff.1 h
 exact ⟨y,h1,h2.symm⟩
theorem PW {l:List Ly} {id:Int} {x:Ly} (h:x∈mX l id):∃ y∈l,x=zW id y:=by
 unfold mX at h
 obtain ⟨y,h1,h2⟩:=List.mem_map.1 h
 exact ⟨y,h1,h2.symm⟩
theorem zGP {l:List Ly} (hg:OkG l) (id:Int):OkG (mX l id):=by
 refine ⟨?_,fun x hx=>?_,fun k x hx=>?_,fun k x hx=>?_,fun x hx=>?_,fun x hx=>?_⟩
 ·unfold oL mX
  rw [List.pairwise_map]
  exact hg.inc
 ·obtain ⟨y,h1,rfl⟩:=PW hx;exact hg.lo y h1
 ·obtain ⟨y,h1,rfl⟩:=zG6 hx;exact CK (hg.par k y h1)
 ·obtain ⟨y,h1,rfl⟩:=zG6 hx;exact CK (hg.sec k y h1)
 ·obtain ⟨y,h1,rfl⟩:=PW hx;exact hg.two y h1
 ·obtain ⟨y,h1,rfl⟩:=PW hx
  rw [wL]
  exact hg.chn y h1
theorem gV {l:List Ly} {z:Ly} {k:Nat} {a:Int} (h:eS l k a):eS (l++[z]) k a:=by
 rcases h with h|⟨j,y,h1,h2,h3,h4⟩
 ·exact .inl h
 ·exact .inr ⟨j,y,h1,by rw [List.getElem?_append_left (List.getElem?_eq_some_iff.1 h2).1];exact h2,h3,h4⟩
theorem GG {l:List Ly} {z:Ly} (h:oL l) (hz:∀ x∈l,x.i<z.i):oL (l++[z]) :=
 List.pairwise_append.2 ⟨h,List.pairwise_singleton _ _,fun a ha b hb=>by rw [List.mem_singleton] at hb;subst hb;exact hz a ha⟩
theorem CN {l:List Ly} {z:Ly} (hg:OkG l) (hz:∀ x∈l,x.i<z.i) (hz1:1≤z.i) (hzp:eS l l.length z.p) {x:Ly} (hx:x∈l):bO (l++[z]) x.i=bO l x.i:=by
 obtain ⟨k,hk⟩:=List.mem_iff_getElem?.1 hx
 have hlt:=(List.getElem?_eq_some_iff.1 hk).1
 have hi:=GG hg.inc hz
 have hlo:∀ x∈l++[z],1≤x.i:=fun x hx=>by
  rcases List.mem_append.1 hx with h|h
  ·exact hg.lo1 x h
  ·rw [List.mem_singleton] at h;subst h;exact hz1
 have hp:∀ k x,(l++[z])[k]? = some x→eS (l++[z]) k x.p:=fun k x hx=>by
  rcases Nat.lt_or_ge k l.length with h|h
  ·rw [List.getElem?_append_left h] at hx
   exact gV (hg.par k x hx)
  ·have hk2:k=l.length:=by
    have:=(List.getElem?_eq_some_iff.1 hx).1
    simp only [List.length_append,List.length_cons,List.length_nil] at this
    omega
   subst hk2
   rw [List.getElem?_append_right (Nat.le_refl _),Nat.sub_self] at hx
   cases hx
   exact gV hzp
 have h1:=oT hi hlo hp k (j:=l.length) (n:=l.length+1) (m:=(l++[z]).length+1) (by rw [List.getElem?_append_left hlt];exact hk) hlt (by omega) (by simp;omega)
 unfold bO
 rw [← h1,List.take_left']
 rfl
theorem zBa {l:List Ly} {z:Ly} (hg:OkG l) (hz:∀ x∈l,x.i<z.i) (hz1:1≤z.i∧z.i≤2147483647) (hzp:eS l l.length z.p) (hzs:eS l l.length z.s) (h2:z.s≠0→z.p≠0∧z.p≠z.s) (hc:(bO l z.p).length≤11):OkG (l++[z]):=by
 have at_:∀ {k:Nat} {x:Ly},(l++[z])[k]? = some x→l[k]? = some x∨(k=l.length∧x=z):=fun {k x} hx=>by
  rcases Nat.lt_or_ge k l.length with h|h
  ·rw [List.getElem?_append_left h] at hx;exact .inl hx
  ·have hk2:k=l.length:=by
    have:=(List.getElem?_eq_some_iff.1 hx).1
    simp only [List.length_append,List.length_cons,List.length_nil] at this
    omega
   subst hk2
   rw [List.getElem?_append_right (Nat.le_refl _),Nat.sub_self] at hx
   cases hx
   exact .inr ⟨rfl,rfl⟩
 have hi:=GG hg.inc hz
 have hlo:∀ x∈l++[z],1≤x.i∧x.i≤2147483647:=fun x hx=>by
  rcases List.mem_append.1 hx with h|h
  ·exact hg.lo x h
  ·rw [List.mem_singleton] at h;subst h;exact hz1
 have hp:∀ k x,(l++[z])[k]? = some x→eS (l++[z]) k x.p:=fun k x hx=>by
  rcases at_ hx with h|⟨rfl,rfl⟩
  ·exact gV (hg.par k x h)
  ·exact gV hzp
 refine ⟨hi,hlo,hp,fun k x hx=>?_,fun x hx=>?_,fun x hx=>?_⟩
 ·rcases at_ hx with h|⟨rfl,rfl⟩
  ·exact gV (hg.sec k x h)
  ·exact gV hzs
 ·rcases List.mem_append.1 hx with h|h
  ·exact hg.two x h
  ·rw [List.mem_singleton] at h;subst h;exact h2
 ·rcases List.mem_append.1 hx with h|h
  ·rw [CN hg hz hz1.1 hzp h];exact hg.chn x h
  ·rw [List.mem_singleton] at h;subst h
   rw [tV hi (fun x hx=>(hlo x hx).1) hp hx,List.length_append]
   have:(bO (l++[x]) x.p).length≤11:=by
    rcases hzp with h0|⟨j,y,_,h4,h5,_⟩
    ·rw [h0,oQ fun x hx=>(hlo x hx).1];simp
    ·rw [← h5,CN hg hz hz1.1 (.inr ⟨j,y,(List.getElem?_eq_some_iff.1 h4).1,h4,h5,by assumption⟩) (List.mem_of_getElem? h4),h5];exact hc
   simp only [List.length_cons,List.length_nil];omega
end
end Go.Dm
