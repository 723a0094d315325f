/- Part 26 of the proof of roomForks_card, set without needless blanks. No condition. -/
import Derived.Test.YtbpblnmhlhpebaaGreatDoorC24
set_option linter.unusedSimpArgs false
set_option linter.unusedVariables false
namespace Go.Dm
open Go
section
abbrev LI (N:List Nm):Prop:=N.Pairwise fun x y=>bO x.n y.n=true
def pR (N:List Nm) (s:List UInt8):Nat:=(N.takeWhile fun x=>bO x.n s).length
def TX (N:List Nm) (s:List UInt8):Bool:=N.any fun x=>x.n == s
def AP (N:List Nm) (s:List UInt8):Option Nm:=N.find? fun x=>x.n == s
def cA (N:List Nm) (s:List UInt8) (id:Int):List Nm:=(N.takeWhile fun x=>bO x.n s)++⟨s,id⟩::(N.dropWhile fun x=>bO x.n s).filter fun x=>!(x.n == s)
theorem gW {N:List Nm} {s:List UInt8} {x:Nm} (h:AP N s=some x):x∈N∧x.n=s:=⟨List.mem_of_find?_eq_some h,eq_of_beq (List.find?_some (p:=fun z:Nm=>z.n == s) h)⟩
theorem RM (N:List Nm) (s:List UInt8):(AP N s).isSome=TX N s:=by
 unfold AP TX
 induction N with
 | nil=>rfl
 | cons x N ih =>
  rw [List.find?_cons,List.any_cons]
  cases x.n == s
  ·simpa using ih
  ·rfl
theorem TB {N:List Nm} {s:List UInt8}:∀ x∈N.takeWhile (fun x=>bO x.n s),bO x.n s=true∧x∈N:=by
 induction N with
 | nil=>intro x hx;cases hx
 | cons y N ih =>
  intro x hx
  rw [List.takeWhile_cons] at hx
  split at hx
  ·rename_i hy
   rcases List.mem_cons.1 hx with rfl|hx
   ·exact ⟨hy,List.mem_cons_self⟩
   ·exact ⟨(ih x hx).1,List.mem_cons_of_mem _ (ih x hx).2⟩
  ·cases hx
theorem WA {N:List Nm} {s:List UInt8} (h:LI N):∀ x∈N.dropWhile (fun x=>bO x.n s),bO x.n s=false∧x∈N:=by
 induction N with
 | nil=>intro x hx;cases hx
 | cons y N ih =>
  have h2:=List.pairwise_cons.1 h
  intro x hx
  rw [List.dropWhile_cons] at hx
  split at hx
  ·exact ⟨(ih h2.2 x hx).1,List.mem_cons_of_mem _ (ih h2.2 x hx).2⟩
  ·rename_i hy
   have hy:bO y.n s=false:=by simpa using hy
   rcases List.mem_cons.1 hx with e|hx'
   ·exact ⟨e▸hy,e▸List.mem_cons_self⟩
   ·refine ⟨?_,List.mem_cons_of_mem _ hx'⟩
    cases hb:bO x.n s with
    | false=>rfl
    | true=>rw [cD (h2.1 x hx') hb] at hy;cases hy
theorem yX {N:List Nm} (h:LI N) {s:List UInt8} {id:Int} {x:Nm}:x∈cA N s id↔x=⟨s,id⟩∨(x∈N∧x.n≠s):=by
 unfold cA
 have hsp:N=N.takeWhile (fun x=>bO x.n s)++N.dropWhile (fun x=>bO x.n s):=(List.takeWhile_append_dropWhile).symm
 rw [List.mem_append,List.mem_cons,List.mem_filter]
 constructor
 ·rintro (h1|rfl|⟨h1,h2⟩)
  ·obtain ⟨h3,h4⟩:=TB x h1
   refine .inr ⟨h4,fun e=>?_⟩
   rw [e,cM] at h3;cases h3
  ·exact .inl rfl
  ·exact .inr ⟨(WA h x h1).2,by simpa using h2⟩
 ·rintro (rfl|⟨h1,h2⟩)
  ·exact .inr (.inl rfl)
  ·rw [hsp] at h1
   rcases List.mem_append.1 h1 with h3|h3
   ·exact .inl h3
   ·exact .inr (.inr ⟨h3,by simpa using h2⟩)
theorem mS {N:List Nm} (h:LI N) (s:List UInt8) (id:Int):LI (cA N s id):=by
 unfold cA
 refine List.pairwise_append.2 ⟨List.Pairwise.sublist (List.takeWhile_sublist _) h,List.pairwise_cons.2 ⟨fun x hx=>?_,(List.Pairwise.sublist (List.dropWhile_sublist _) h).filter _⟩,fun x hx y hy=>?_⟩
 ·obtain ⟨h1,h2⟩:=List.mem_filter.1 hx
  have h3:=(WA h x h1).1
  cases hb:bO s x.n with
  | true=>rfl
  | false=>have:=dS hb h3;simp [this] at h2
 ·have h1:=(TB x hx).1
  rcases List.mem_cons.1 hy with rfl|hy
  ·exact h1
  ·obtain ⟨h2,_⟩:=List.mem_filter.1 hy
   have h3:=(WA h y h2).1
   have h4:=(TB x hx).2
   cases hb:bO s y.n with
   | true=>exact cD h1 hb
   | false=>have:=dS hb h3;rw [← this];exact h1
theorem lG (N:List Nm) (s:List UInt8) (id:Int):(cA N s id).length≤N.length+1:=by
 unfold cA
 have h1:=List.length_filter_le (fun x:Nm=>!(x.n == s)) (N.dropWhile fun x=>bO x.n s)
 have h2:N.length=(N.takeWhile fun x=>bO x.n s).length+(N.dropWhile fun x=>bO x.n s).length:=by
  rw [← List.length_append,List.takeWhile_append_dropWhile]
 rw [List.length_append,List.length_cons]
 omega
theorem zCh (N:List Nm) (s:List UInt8):pR N s≤N.length:=List.Sublist.length_le (List.takeWhile_sublist _)
theorem zHk (N:List Nm) (s:List UInt8):N.take (pR N s)=N.takeWhile fun x=>bO x.n s:=by
 unfold pR
 induction N with
 | nil=>rfl
 | cons x N ih =>
  rw [List.takeWhile_cons]
  split
  ·simp only [List.length_cons,List.take_succ_cons,ih]
  ·rfl
theorem zAh (N:List Nm) (s:List UInt8):N.drop (pR N s)=N.dropWhile fun x=>bO x.n s:=by
 unfold pR
 induction N with
 | nil=>rfl
 | cons x N ih =>
  rw [List.takeWhile_cons,List.dropWhile_cons]
  split
  ·simp only [List.length_cons,List.drop_succ_cons,ih]
  ·rfl
theorem MA {l:List Nm} {s:List UInt8} (h:∀ x∈l,(x.n == s)=false):(l.filter fun x=>!(x.n == s))=l:=List.filter_eq_self.2 fun x hx=>by rw [h x hx];rfl
theorem zMr {l:List Nm} {y:Nm} {s:List UInt8} (h:∀ x∈l,bO y.n x.n=true) (e:y.n=s):∀ x∈l,(x.n == s)=false:=fun x hx=>by
 have:=h x hx
 rw [e] at this
 rw [Bool.eq_false_iff]
 intro h2
 rw [eq_of_beq h2,cM] at this;cases this
theorem zMg {N:List Nm} {s:List UInt8}:∀ x∈N.takeWhile (fun x=>bO x.n s),(x.n == s)=false:=fun x hx=>jP (TB x hx).1
theorem SE {N:List Nm} (h:LI N) {x:Nm} (hx:x∈N):N[pR N x.n]? = some x:=by
 have h1:x∈N.dropWhile (fun y=>bO y.n x.n):=by
  have hsp:N=N.takeWhile (fun y=>bO y.n x.n)++N.dropWhile (fun y=>bO y.n x.n):=(List.takeWhile_append_dropWhile).symm
  rw [hsp] at hx
  rcases List.mem_append.1 hx with h2|h2
  ·have:=zMg x h2;simp at this
  ·exact h2
 have h2:(N.drop (pR N x.n))[0]? = some x:=by
  rw [zAh]
  cases hd:N.dropWhile (fun y=>bO y.n x.n) with
  | nil=>rw [hd] at h1;cases h1
  | cons y r =>
   have hs:LI (y::r):=by rw [← hd];exact List.Pairwise.sublist (List.dropWhile_sublist _) h
   have hy:=(WA h y (by rw [hd];exact List.mem_cons_self)).1
   rw [hd] at h1
   rcases List.mem_cons.1 h1 with e|h3
   ·rw [e];rfl
   ·have:=(List.pairwise_cons.1 hs).1 x h3
    rw [this] at hy;cases hy
 rw [List.getElem?_drop] at h2
 simpa using h2
theorem wF {N:List Nm} (h:LI N) {x:Nm} (hx:x∈N) (id:Int):cA N x.n id=N.set (pR N x.n) ⟨x.n,id⟩:=by
 have h1:=SE h hx
 have hlt:=(List.getElem?_eq_some_iff.1 h1).1
 rw [List.set_eq_take_append_cons_drop,if_pos hlt]
 unfold cA
 rw [← zHk,← zAh]
 have hd:N.drop (pR N x.n)=x::N.drop (pR N x.n+1):=by
  rw [List.drop_eq_getElem_cons hlt]
  rw [List.getElem?_eq_getElem hlt,Option.some.injEq] at h1
  rw [h1]
 have hs:LI (N.drop (pR N x.n)):=List.Pairwise.sublist (List.drop_sublist _ _) h
 rw [hd] at hs ⊢
 rw [List.filter_cons,if_neg (by simp),MA (zMr (List.pairwise_cons.1 hs).1 rfl)]
theorem MC {N:List Nm} {s:List UInt8} (hx:TX N s=false) (id:Int):cA N s id=N.take (pR N s)++⟨s,id⟩::N.drop (pR N s):=by
 unfold cA
 rw [zHk,zAh,MA fun y hy=>?_]
 unfold TX at hx
 rw [List.any_eq_false] at hx
 have:=hx y (List.Sublist.subset (List.dropWhile_sublist _) hy)
 simpa using this
structure Dr where
 L:List (Ly × List It)
 N:List Nm
 x:Int
def Dr.G (d:Dr):List Ly:=d.L.map (·.1)
def sG (d:Dr) (id:Int):Option (Ly × List It):=d.L.find? fun y=>y.1.i == id
def dE (d:Dr) (id:Int):List It:=match sG d id with
 | some y=>y.2
 | none=>[]
def eH (N:List Nm) (s:List UInt8):Int:=match AP N s with
 | some x=>x.l
 | none=>0
def pT (d:Dr) (id:Int):Bool:=match sG d id with
 | some y=>y.1.f
 | none=>false
def zA (id:Int) (t:List It):List (Ly × List It)→List (Ly × List It)
 | []=>[]
 | y::l=>if y.1.i == id then (y.1,t)::l else y::zA id t l
def jZ (d:Dr) (id:Int) (t:List It):Dr:=⟨zA id t d.L,d.N,d.x⟩
def xC (id:Int):List (Ly × List It)→List (Ly × List It)
 | []=>[]
 | y::l=>if y.1.i == id then (⟨y.1.i,y.1.p,y.1.s,true⟩,y.2)::l else y::xC id l
def oZ (d:Dr) (s:List UInt8):Int:=if !aX s then 1 else if !(eH d.N s == 0) then 7 else if decide (20≤(d.N.length:Int)) || (decide (40≤(d.L.length:Int)) || decide (2147483647≤d.x)) then 16 else 0
def LG (d:Dr) (on:Int):Bool:=decide (12<(((bS d.G on).length:Int)+1))
def zCN (d:Dr):List (Ly × List It):=(iN d.G (d.N.map (·.l))).filterMap fun y=>sG d y.i
def yI (d:Dr):Dr:=⟨zCN d,d.N,d.x⟩
def zCv (d:Dr) (s:List UInt8) (p q:Int) (t:List It):Dr:=yI ⟨d.L++[(⟨d.x,p,q,false⟩,t)],cA d.N s d.x,d.x+1⟩
def doD (d:Dr) (s:List UInt8) (c:Cl):Dr × An :=
 if eH d.N s == 0 then (d,anE 6) else if pT d (eH d.N s) && lF c.k then (d,anE 14)
 else if !((doR (dE d (eH d.N s)) c).2.e == 0) then (d,(doR (dE d (eH d.N s)) c).2) else (jZ d (eH d.N s) (doR (dE d (eH d.N s)) c).1,(doR (dE d (eH d.N s)) c).2)
def zDI (d:Dr) (s:List UInt8):List It × Int:=if eH d.N s == 0 then ([],6) else (dE d (eH d.N s),0)
def kE (d:Dr) (s sn:List UInt8):Dr × Int :=
 if eH d.N s == 0 then (d,6) else if pT d (eH d.N s) then (d,14) else if !(oZ d sn == 0) then (d,oZ d sn) else if LG d (eH d.N s) then (d,15)
 else (zCv ⟨xC (eH d.N s) d.L,cA d.N sn (eH d.N s),d.x⟩ s (eH d.N s) 0 (dE d (eH d.N s)),0)
def zDA (d:Dr) (sn s:List UInt8):Dr × Int :=
 if eH d.N sn == 0 then (d,6) else if !pT d (eH d.N sn) then (d,13) else if !(oZ d s == 0) then (d,oZ d s) else if LG d (eH d.N sn) then (d,15)
 else (zCv d s (eH d.N sn) 0 (dE d (eH d.N sn)),0)
def NV:Dr:=⟨[(⟨1,0,0,true⟩,[]),(⟨2,1,0,false⟩,[])],[⟨[109,97,105,110],2⟩],3⟩
theorem lH {d:Dr} {id:Int} {y:Ly × List It} (h:sG d id=some y):y∈d.L∧y.1.i=id:=⟨List.mem_of_find?_eq_some h,eq_of_beq (List.find?_some (p:=fun z:Ly × List It=>z.1.i == id) h)⟩
theorem GH {d:Dr} {id:Int} (h:sG d id=none):∀ y∈d.L,y.1.i≠id:=fun y hy e=>by
 have:=List.find?_eq_none.1 h y hy
 simp [e] at this
theorem nP {d:Dr} (hi:oM d.G) {y:Ly × List It} (hy:y∈d.L):sG d y.1.i=some y:=by
 have key:∀ {l:List (Ly × List It)},oM (l.map (·.1))→y∈l→l.find? (fun z=>z.1.i == y.1.i)=some y:=by
  intro l
  induction l with
  | nil=>intro _ h;cases h
  | cons z l ih =>
   intro hp hm
   have h2:=List.pairwise_cons.1 hp
   rw [List.find?_cons]
   rcases List.mem_cons.1 hm with rfl|hm
   ·rw [show (y.1.i == y.1.i)=true by simp]
   ·have:z.1.i<y.1.i:=h2.1 y.1 (List.mem_map.2 ⟨y,hm,rfl⟩)
    rw [show (z.1.i == y.1.i)=false by simp;omega]
    exact ih h2.2 hm
 exact key hi hy
theorem zHJ (d:Dr) (id:Int):eC d.G id=(sG d id).map (·.1):=by
 unfold eC sG Dr.G
 induction d.L with
 | nil=>rfl
 | cons y l ih =>
  rw [List.map_cons,List.find?_cons,List.find?_cons]
  cases y.1.i == id
  ·exact ih
  ·rfl
attribute [go_sem] gL
end
section
def GL (l:List Ly) (p:Int→Bool):Prop:=∀ x∈l,p x.i=true→∀ y∈l,(y.i=x.p∨y.i=x.s)→p y.i=true
def mN (l:List Ly) (p:Int→Bool):List Ly:=l.filter fun x=>p x.i
theorem dU {l:List Ly} {p:Int→Bool} {x:Ly}:x∈mN l p↔x∈l∧p x.i=true:=by unfold mN;rw [List.mem_filter]
theorem zJv {l:List Ly} (h:oM l) {x y:Ly} (hx:x∈l) (hy:y∈l) (e:x.i=y.i):x=y:=by
 have h1:=lR h hx
 have h2:=lR h hy
 rw [e,h2] at h1
 exact (Option.some.inj h1).symm
theorem pN {l:List Ly} {p:Int→Bool} (hi:oM l) {k q:Nat} {x:Ly} {id:Int} (hx:l[k]? = some x) (hq:(mN l p)[q]? = some x) (hc:∀ y∈l,y.i=id→p y.i=true) (h:eV l k id):eV (mN l p) q id:=by
 rcases h with h|⟨j,y,h1,h2,h3,h4⟩
 ·exact .inl h
 ·right
  have hy:=List.mem_of_getElem? h2
  have hm:y∈mN l p:=dU.2 ⟨hy,hc y hy h3⟩
  obtain ⟨j',hj'⟩:=List.mem_iff_getElem?.1 hm
  refine ⟨j',y,?_,hj',h3,h4⟩
  have hlt:=SO hi h2 hx h1
  have hip:oM (mN l p):=List.Pairwise.sublist List.filter_sublist hi
  rcases Nat.lt_trichotomy j' q with h|h|h
  ·exact h
  ·subst h;rw [hq] at hj';cases hj';omega
  ·have:=SO hip hq hj' h;omega
theorem WH {l:List Ly} {p:Int→Bool} (hg:OkG l) (hc:GL l p):∀ (k:Nat) {x:Ly},l[k]? = some x→p x.i=true→bS (mN l p) x.i=bS l x.i:=by
 have hip:oM (mN l p):=List.Pairwise.sublist List.filter_sublist hg.inc
 have hlo:∀ x∈mN l p,1≤x.i:=fun x hx=>hg.lo1 x (dU.1 hx).1
 have hpar:∀ q x,(mN l p)[q]? = some x→eV (mN l p) q x.p:=fun q x hq=>by
  obtain ⟨h1,h2⟩:=dU.1 (List.mem_of_getElem? hq)
  obtain ⟨k,hk⟩:=List.mem_iff_getElem?.1 h1
  exact pN hg.inc hk hq (fun y hy e=>hc x h1 h2 y hy (.inl e)) (hg.par k x hk)
 intro k
 induction k using Nat.strongRecOn with
 | ind k ih =>
  intro x hx hp
  have hm:=List.mem_of_getElem? hx
  rw [sY hip hlo hpar (dU.2 ⟨hm,hp⟩),hg.step hm]
  congr 1
  rcases hg.par k x hx with h0|⟨j,y,h1,h2,h3,_⟩
  ·rw [h0,oF hlo,oF hg.lo1]
  ·rw [← h3]
   exact ih j h1 h2 (hc x hm hp y (List.mem_of_getElem? h2) (.inl h3))
theorem RS {l:List Ly} {p:Int→Bool} (hg:OkG l) (hc:GL l p):OkG (mN l p):=by
 have at_:∀ (q:Nat) (x:Ly),(mN l p)[q]? = some x→∃ k,l[k]? = some x∧p x.i=true:=fun q x hq=>by
  obtain ⟨h1,h2⟩:=dU.1 (List.mem_of_getElem? hq)
  obtain ⟨k,hk⟩:=List.mem_iff_getElem?.1 h1
  exact ⟨k,hk,h2⟩
 refine OkG.mk (List.Pairwise.sublist List.filter_sublist hg.inc) (fun x hx=>hg.lo x (dU.1 hx).1) (fun q x hq=>?_) (fun q x hq=>?_) (fun x hx=>hg.two x (dU.1 hx).1) (fun x hx=>?_)
 ·obtain ⟨k,hk,hp⟩:=at_ q x hq
  exact pN hg.inc hk hq (fun y hy e=>hc x (List.mem_of_getElem? hk) hp y hy (.inl e)) (hg.par k x hk)
 ·obtain ⟨k,hk,hp⟩:=at_ q x hq
  exact pN hg.inc hk hq (fun y hy e=>hc x (List.mem_of_getElem? hk) hp y hy (.inr e)) (hg.sec k x hk)
 ·obtain ⟨h1,h2⟩:=dU.1 hx
  obtain ⟨k,hk⟩:=List.mem_iff_getElem?.1 h1
  rw [WH hg hc k hk h2]
  exact hg.chn x h1
theorem zEM {l:List Ly} {p:Int→Bool} (hg:OkG l) (hc:GL l p) {id:Int} (hid:p id=true):sH (mN l p) id=sH l id:=by
 have hpg:=RS hg hc
 refine QK (FA hpg.inc id) (FA hg.inc id) fun a=>⟨fun ha=>?_,fun ha=>?_⟩
 ·refine tY (l:=mN l p) (C:=(·∈sH l id)) (fun x hx e=>?_) (fun x hx hcx y hy hp=>FT hg (dU.1 hx).1 (dU.1 hy).1 hcx hp) a ha
  rw [← e];exact rL (dU.1 hx).1
 ·refine tY (l:=l) (C:=(·∈sH (mN l p) id)) (fun x hx e=>?_) (fun x hx hcx y hy hp=>?_) a ha
  ·rw [← e]
   exact rL (dU.2 ⟨hx,by rw [e];exact hid⟩)
  ·obtain ⟨z,hz,e⟩:=zGX hcx
   obtain rfl:=zJv hg.inc (dU.1 hz).1 hx e
   exact FT hpg hz (dU.2 ⟨hy,hc z hx (dU.1 hz).2 y hy hp⟩) hcx hp
def yC (l:List Ly) (ids:List Int) (a:Int):Bool:=ids.any fun id=>(sH l id).contains a
theorem vZ (l:List Ly) (ids:List Int):iN l ids=mN l (yC l ids):=rfl
theorem yG {l:List Ly} (hg:OkG l) (ids:List Int):GL l (yC l ids):=fun x hx hp y hy h=>by
 unfold yC at hp ⊢
 obtain ⟨id,h1,h2⟩:=List.any_eq_true.1 hp
 refine List.any_eq_true.2 ⟨id,h1,?_⟩
 rw [List.contains_iff_mem] at h2 ⊢
 exact FT hg hx hy h2 h
def AF (id:Int) (x:Ly):Ly:=⟨x.i,x.p,x.s,x.f || x.i == id⟩
def mO (l:List Ly) (id:Int):List Ly:=l.map (AF id)
theorem zF6 (l:List Ly) (id a:Int):eC (mO l id) a=(eC l a).map (AF id):=by
 unfold eC mO
 induction l with
 | nil=>rfl
 | cons x l ih =>
  rw [List.map_cons,List.find?_cons,List.find?_cons]
  show (match (x.i == a) with|true=>_|false=>_)=_
  cases x.i == a
  ·exact ih
  ·rfl
theorem DK (l:List Ly) (id:Int):∀ (n:Nat) (a:Int),dX (mO l id) n a=dX l n a
 | 0,_=>rfl
 | n+1,a=>by
  simp only [dX,zF6]
  cases eC l a with
  | none=>rfl
  | some x=>simp only [Option.map_some,AF];rw [DK l id n x.p]
theorem zH (l:List Ly) (id a:Int):bS (mO l id) a=bS l a:=by
 unfold bS
 rw [DK,show (mO l id).length=l.length by simp [mO]]
theorem BC {l:List Ly} {id:Int} {k:Nat} {a:Int} (h:eV l k a):eV (mO l id) k a:=by
 rcases h with h|⟨j,y,h1,h2,h3,h4⟩
 ·exact .inl h
 ·exact .inr ⟨j,AF id y,h1,by unfold mO;rw [List.getElem?_map,h2];rfl,h3,by show (y.f || _)=true;rw [h4];rfl⟩
theorem zHS {l:List Ly} {id:Int} {k:Nat} {x:Ly} (h:(mO l id)[k]? = some x):∃ y,l[k]? = some y∧x=AF id y:=by
 unfold mO at h
 rw [List.getElem?_map] at h
 obtain ⟨y,h1,h2⟩:=Option.map_eq_some_iff.1 h
 exact ⟨y,h1,h2.symm⟩
theorem QW {l:List Ly} {id:Int} {x:Ly} (h:x∈mO l id):∃ y∈l,x=AF id y:=by
 unfold mO at h
 obtain ⟨y,h1,h2⟩:=List.mem_map.1 h
 exact ⟨y,h1,h2.symm⟩
theorem zHo {l:List Ly} (hg:OkG l) (id:Int):OkG (mO l id):=by
 refine ⟨?_,fun x hx=>?_,fun k x hx=>?_,fun k x hx=>?_,fun x hx=>?_,fun x hx=>?_⟩
 ·unfold oM mO
  rw [List.pairwise_map]
  exact hg.inc
 ·obtain ⟨y,h1,rfl⟩:=QW hx;exact hg.lo y h1
 ·obtain ⟨y,h1,rfl⟩:=zHS hx;exact BC (hg.par k y h1)
 ·obtain ⟨y,h1,rfl⟩:=zHS hx;exact BC (hg.sec k y h1)
 ·obtain ⟨y,h1,rfl⟩:=QW hx;exact hg.two y h1
 ·obtain ⟨y,h1,rfl⟩:=QW hx
  rw [zH]
  exact hg.chn y h1
theorem gC {l:List Ly} {z:Ly} {k:Nat} {a:Int} (h:eV l k a):eV (l++[z]) k a:=by
 rcases h with h|⟨j,y,h1,h2,h3,h4⟩
 ·exact .inl h
 ·exact .inr ⟨j,y,h1,by rw [List.getElem?_append_left (List.getElem?_eq_some_iff.1 h2).1];exact h2,h3,h4⟩
theorem FK {l:List Ly} {z:Ly} (h:oM l) (hz:∀ x∈l,x.i<z.i):oM (l++[z]) :=
 List.pairwise_append.2 ⟨h,List.pairwise_singleton _ _,fun a ha b hb=>by rw [List.mem_singleton] at hb;subst hb;exact hz a ha⟩
theorem CL {l:List Ly} {z:Ly} (hg:OkG l) (hz:∀ x∈l,x.i<z.i) (hz1:1≤z.i) (hzp:eV l l.length z.p) {x:Ly} (hx:x∈l):bS (l++[z]) x.i=bS l x.i:=by
 obtain ⟨k,hk⟩:=List.mem_iff_getElem?.1 hx
 have hlt:=(List.getElem?_eq_some_iff.1 hk).1
 have hi:=FK hg.inc hz
 have hlo:∀ x∈l++[z],1≤x.i:=fun x hx=>by
  rcases List.mem_append.1 hx with h|h
  ·exact hg.lo1 x h
  ·rw [List.mem_singleton] at h;subst h;exact hz1
 have hp:∀ k x,(l++[z])[k]? = some x→eV (l++[z]) k x.p:=fun k x hx=>by
  rcases Nat.lt_or_ge k l.length with h|h
  ·rw [List.getElem?_append_left h] at hx
   exact gC (hg.par k x hx)
  ·have hk2:k=l.length:=by
    have:=(List.getElem?_eq_some_iff.1 hx).1
    simp only [List.length_append,List.length_cons,List.length_nil] at this
    omega
   subst hk2
   rw [List.getElem?_append_right (Nat.le_refl _),Nat.sub_self] at hx
   cases hx
   exact gC hzp
 have h1:=oC hi hlo hp k (j:=l.length) (n:=l.length+1) (m:=(l++[z]).length+1) (by rw [List.getElem?_append_left hlt];exact hk) hlt (by omega) (by simp;omega)
 unfold bS
 rw [← h1,List.take_left']
 rfl
theorem zIg {l:List Ly} {z:Ly} (hg:OkG l) (hz:∀ x∈l,x.i<z.i) (hz1:1≤z.i∧z.i≤2147483647) (hzp:eV l l.length z.p) (hzs:eV l l.length z.s) (h2:z.s≠0→z.p≠0∧z.p≠z.s) (hc:(bS l z.p).length≤11):OkG (l++[z]):=by
 have at_:∀ {k:Nat} {x:Ly},(l++[z])[k]? = some x→l[k]? = some x∨(k=l.length∧x=z):=fun {k x} hx=>by
  rcases Nat.lt_or_ge k l.length with h|h
  ·rw [List.getElem?_append_left h] at hx;exact .inl hx
  ·have hk2:k=l.length:=by
    have:=(List.getElem?_eq_some_iff.1 hx).1
    simp only [List.length_append,List.length_cons,List.length_nil] at this
    omega
   subst hk2
   rw [List.getElem?_append_right (Nat.le_refl _),Nat.sub_self] at hx
   cases hx
   exact .inr ⟨rfl,rfl⟩
 have hi:=FK hg.inc hz
 have hlo:∀ x∈l++[z],1≤x.i∧x.i≤2147483647:=fun x hx=>by
  rcases List.mem_append.1 hx with h|h
  ·exact hg.lo x h
  ·rw [List.mem_singleton] at h;subst h;exact hz1
 have hp:∀ k x,(l++[z])[k]? = some x→eV (l++[z]) k x.p:=fun k x hx=>by
  rcases at_ hx with h|⟨rfl,rfl⟩
  ·exact gC (hg.par k x h)
  ·exact gC hzp
 refine ⟨hi,hlo,hp,fun k x hx=>?_,fun x hx=>?_,fun x hx=>?_⟩
 ·rcases at_ hx with h|⟨rfl,rfl⟩
  ·exact gC (hg.sec k x h)
  ·exact gC hzs
 ·rcases List.mem_append.1 hx with h|h
  ·exact hg.two x h
  ·rw [List.mem_singleton] at h;subst h;exact h2
 ·rcases List.mem_append.1 hx with h|h
  ·rw [CL hg hz hz1.1 hzp h];exact hg.chn x h
  ·rw [List.mem_singleton] at h;subst h
   rw [sY hi (fun x hx=>(hlo x hx).1) hp hx,List.length_append]
   have:(bS (l++[x]) x.p).length≤11:=by
    rcases hzp with h0|⟨j,y,_,h4,h5,_⟩
    ·rw [h0,oF fun x hx=>(hlo x hx).1];simp
    ·rw [← h5,CL hg hz hz1.1 (.inr ⟨j,y,(List.getElem?_eq_some_iff.1 h4).1,h4,h5,by assumption⟩) (List.mem_of_getElem? h4),h5];exact hc
   simp only [List.length_cons,List.length_nil];omega
end
end Go.Dm
