/- Part 11 of the proof of roomAsks_card, set without needless blanks. No condition. -/
import Derived.Test.YtlbfnbldeefgmaaGreatDoorA09
set_option linter.all false
section
section
namespace Go.Dm
open Go
theorem zH9:∀ a b:List UInt8,bL a b=decide (a<b)
 | a,[]=>by rw [EI];simp
 | [],y::b=>by show true=_;simp
 | x::a,y::b=>by
  rw [qR,zH9 a b];by_cases h1:x<y
  ·simp [h1,List.cons_lt_cons_iff]
  ·by_cases h2:x=y
   ·subst h2;simp [List.cons_lt_cons_iff]
   ·simp [h1,h2,List.cons_lt_cons_iff]
theorem zIm {a b:List UInt8}:a≤b↔bL b a=false:=by rw [zH9,decide_eq_false_iff_not,List.not_lt]
def leS (x y:List UInt8):Bool:=decide (x≤y)
theorem yK {a b:List UInt8}:leS a b = !bL b a:=by
 unfold leS;cases h:bL b a
 ·simpa using zIm.2 h
 ·have:¬ a≤b:=fun h2=>by rw [zIm.1 h2] at h;cases h
  simpa using this
theorem zDn {a b c:List UInt8} (h1:leS a b=true) (h2:leS b c=true):leS a c=true:=by
 rw [yK] at *;cases hc:bL c a
 ·rfl
 ·have h1':bL b a=false:=by simpa using h1
  have h2':bL c b=false:=by simpa using h2
  cases hb:bL a b
  ·have:=dV hb h1';subst this;rw [hc] at h2';cases h2'
  ·have:=cC hc hb;rw [this] at h2';cases h2'
theorem zDm {a b:List UInt8}:(leS a b || leS b a)=true:=by
 rw [yK,yK];cases h:bL b a
 ·rfl
 ·rw [eH h];rfl
theorem vE (l:List (List UInt8)):(l.mergeSort fun x y=>decide (x≤y)).Pairwise fun x y=>leS x y=true :=
 List.pairwise_mergeSort (le:=leS) (fun a b c=>zDn) (fun a b=>zDm) l
theorem kE {l:List (List UInt8)} (hl:l.Pairwise fun x y=>leS x y=true):∀ m,m≤l.length→(Lib.compactUpTo l.toArray m).Pairwise (fun x y=>bL x y=true)∧∀ x∈Lib.compactUpTo l.toArray m,∃ (j:Nat) (_:j<m) (h:j<l.length),x=l[j]
 | 0,_=>by simp [Lib.compactUpTo]
 | m+1,hm=>by
  obtain ⟨h1,h2⟩:=kE hl m (by omega);rw [Lib.compactUpTo_succ];have hg:l.toArray[m]! = l[m]:=by simp [getElem!_pos,show m<l.length by omega]
  split
  ·rename_i hk;rw [hg];refine ⟨List.pairwise_append.2 ⟨h1,by simp,fun x hx y hy=>?_⟩,fun x hx=>?_⟩
   ·obtain ⟨j,hj,hjl,rfl⟩:=h2 x hx;have:y=l[m]:=by simpa using hy
    subst this;have hm1:m-1<l.length:=by omega
    have hg1:l.toArray[m-1]! = l[m-1]:=by simp [getElem!_pos,hm1]
    unfold Lib.keeps at hk;rw [hg,hg1] at hk;simp only [decide_eq_true_eq] at hk;have hne:l[m]≠l[m-1]:=by rcases hk with hk|hk;omega;exact hk
    have a1:leS l[m-1] l[m]=true:=List.pairwise_iff_getElem.1 hl _ _ hm1 (by omega) (by omega);have a2:bL l[m-1] l[m]=true:=by
     cases h:bL l[m-1] l[m]
     ·rw [yK] at a1;exact absurd (dV h (by simpa using a1)).symm hne
     ·rfl
    rcases Nat.lt_or_ge j (m-1) with h|h
    ·have a3:leS l[j] l[m-1]=true:=List.pairwise_iff_getElem.1 hl _ _ hjl hm1 h;cases h5:bL l[j] l[m-1]
     ·rw [yK] at a3;rw [dV h5 (by simpa using a3)];exact a2
     ·exact cC h5 a2
    ·have:j=m-1:=by omega
     subst this;exact a2
   ·rcases List.mem_append.1 hx with hx|hx
    ·obtain ⟨j,hj,hjl,he⟩:=h2 x hx;exact ⟨j,by omega,hjl,he⟩
    ·have:x=l[m]:=by simpa using hx
     exact ⟨m,by omega,by omega,this⟩
  ·rw [List.append_nil];exact ⟨h1,fun x hx=>by obtain ⟨j,hj,hjl,he⟩:=h2 x hx;exact ⟨j,by omega,hjl,he⟩⟩
theorem uW (l:List (List UInt8)):(Lib.compact (l.mergeSort fun x y=>decide (x≤y))).Pairwise fun x y=>bL x y=true :=
 (kE (vE l) _ (Nat.le_refl _)).1
theorem EN {a b:List It} {p:List UInt8} {x:Ch} (h:x∈chF a b p):x=⟨p,iW (aQ a p).isSome (aQ b p).isSome ((aQ a p).getD nd0) ((aQ b p).getD nd0),(aQ a p).getD nd0,(aQ b p).getD nd0⟩∧iW (aQ a p).isSome (aQ b p).isSome ((aQ a p).getD nd0) ((aQ b p).getD nd0)≠0:=by
 unfold chF at h;split at h
 ·rename_i hb;exact ⟨by simpa using h,by simpa using hb⟩
 ·simp at h
theorem vT {a b:List It} {x:Ch}:∀ {l:List (List UInt8)},x∈zAU a b l→x.p∈l∧x∈chF a b x.p
 | [],h=>by simp [zAU] at h
 | p::r,h=>by
  rcases List.mem_append.1 h with h|h
  ·have:=(EN h).1;have hp:x.p=p:=by rw [this]
   rw [hp];exact ⟨List.mem_cons_self,h⟩
  ·obtain ⟨h1,h2⟩:=vT h;exact ⟨List.mem_cons_of_mem _ h1,h2⟩
theorem TW {a b:List It}:∀ {l:List (List UInt8)},l.Pairwise (fun x y=>bL x y=true)→(zAU a b l).Pairwise fun x y=>bL x.p y.p=true
 | [],_=>by simp [zAU]
 | p::r,h=>by
  obtain ⟨h1,h2⟩:=List.pairwise_cons.1 h;refine List.pairwise_append.2 ⟨?_,TW h2,fun x hx y hy=>?_⟩
  ·unfold chF;split <;> simp
  ·rw [(EN hx).1];exact h1 _ (vT hy).1
end Go.Dm
end
section
namespace Go.Dm
open Go
theorem pG {l:List (List UInt8)}:∀ m,m≤l.length→∀ j (hj:j<l.length),j<m→l[j]∈Lib.compactUpTo l.toArray m
 | 0,_,_,_,h=>by omega
 | m+1,hm,j,hj,h=>by
  rw [Lib.compactUpTo_succ];have hg:l.toArray[m]! = l[m]:=by simp [getElem!_pos,show m<l.length by omega]
  by_cases hjm:j<m
  ·exact List.mem_append_left _ (pG m (by omega) j hj hjm)
  ·have:j=m:=by omega
   subst this;cases hk:Lib.keeps l.toArray j
   ·have hg1:l.toArray[j-1]! = l[j-1]:=by simp [getElem!_pos,show j-1<l.length by omega]
    unfold Lib.keeps at hk;rw [hg,hg1] at hk;simp only [decide_eq_false_iff_not,not_or,Decidable.not_not] at hk;rw [hk.2];exact List.mem_append_left _ (pG j (by omega) (j-1) (by omega) (by omega))
   ·rw [hg];exact List.mem_append_right _ (by simp)
theorem PZ {l:List (List UInt8)} {p:List UInt8}:p∈Lib.compact (l.mergeSort fun x y=>decide (x≤y))↔p∈l:=by
 have hp:∀ q,q∈(l.mergeSort fun x y=>decide (x≤y))↔q∈l:=fun q=>List.mem_mergeSort;constructor
 ·intro h;obtain ⟨j,_,hj,rfl⟩:=(kE (vE l) _ (Nat.le_refl _)).2 p h;exact (hp _).1 (List.getElem_mem hj)
 ·intro h;obtain ⟨j,hj,rfl⟩:=List.mem_iff_getElem.1 ((hp p).2 h);exact pG _ (Nat.le_refl _) j hj hj
theorem sI {α:Type} {lt:α→α→Bool} (hirr:∀ a,lt a a=false) (hasm:∀ {a b},lt a b=true→lt b a=false):∀ {a b:List α},a.Pairwise (fun x y=>lt x y=true)→b.Pairwise (fun x y=>lt x y=true)→(∀ x,x∈a↔x∈b)→a=b
 | [],[],_,_,_=>rfl
 | [],y::b,_,_,h=>by have:=(h y).2 List.mem_cons_self;simp at this
 | x::a,[],_,_,h=>by have:=(h x).1 List.mem_cons_self;simp at this
 | x::a,y::b,ha,hb,h=>by
  obtain ⟨ha1,ha2⟩:=List.pairwise_cons.1 ha;obtain ⟨hb1,hb2⟩:=List.pairwise_cons.1 hb;have hxy:x=y:=by
   rcases List.mem_cons.1 ((h x).1 List.mem_cons_self) with e|e
   ·exact e
   ·rcases List.mem_cons.1 ((h y).2 List.mem_cons_self) with e2|e2
    ·exact e2.symm
    ·have h1:=hasm (hb1 x e);rw [ha1 y e2] at h1;cases h1
  subst hxy;rw [sI hirr hasm ha2 hb2 fun z=>?_];constructor
  ·intro hz;rcases List.mem_cons.1 ((h z).1 (List.mem_cons_of_mem _ hz)) with e|e
   ·subst e;have:=ha1 z hz;rw [hirr] at this;cases this
   ·exact e
  ·intro hz;rcases List.mem_cons.1 ((h z).2 (List.mem_cons_of_mem _ hz)) with e|e
   ·subst e;have:=hb1 z hz;rw [hirr] at this;cases this
   ·exact e
def yX (a b:List It):List (List UInt8):=Lib.compact (((a++b).map It.p).mergeSort fun x y=>decide (x≤y))
def gG (a b:List It):List Ch:=zAU a b (yX a b)
theorem tU {a b:List It} {p:List UInt8}:p∈yX a b↔(∃ x∈a,x.p=p)∨∃ x∈b,x.p=p:=by
 unfold yX;rw [PZ];simp only [List.mem_map,List.mem_append];constructor
 ·rintro ⟨x,h|h,rfl⟩
  ·exact .inl ⟨x,h,rfl⟩
  ·exact .inr ⟨x,h,rfl⟩
 ·rintro (⟨x,h,rfl⟩|⟨x,h,rfl⟩)
  ·exact ⟨x,.inl h,rfl⟩
  ·exact ⟨x,.inr h,rfl⟩
theorem pS {x:Nd} (h:x.wf):mI x x=true:=by rw [rP h h];exact qE x
theorem TV {a b:List It}:∀ l:List (List UInt8),(zAU a b l).length≤l.length
 | []=>by simp [zAU]
 | p::r=>by
  have:=TV (a:=a) (b:=b) r;have h2:(chF a b p).length≤1:=by unfold chF;split <;> simp
  rw [zAU,List.length_append,List.length_cons];omega
theorem YC (l:List (List UInt8)):(Lib.compact l).length≤l.length:=by
 unfold Lib.compact Lib.compactUpTo;rw [List.length_map];exact Nat.le_trans (List.length_filter_le ..) (by simp)
theorem zBC (a b:List It):(gG a b).length≤a.length+b.length:=by
 unfold gG yX;refine Nat.le_trans (TV _) (Nat.le_trans (YC _) ?_);rw [List.length_mergeSort,List.length_map,List.length_append];exact Nat.le_refl _
theorem mY {a b:List It} {x:Ch} (h:x∈gG a b):x.k=iW (aQ a x.p).isSome (aQ b x.p).isSome ((aQ a x.p).getD nd0) ((aQ b x.p).getD nd0)∧iW (aQ a x.p).isSome (aQ b x.p).isSome ((aQ a x.p).getD nd0) ((aQ b x.p).getD nd0)≠0:=by
 obtain ⟨h1,h2⟩:=EN (vT h).2;exact ⟨congrArg Ch.k h1,h2⟩
theorem gL {a b:List It} {x:Ch} (h:x∈gG a b):x.o=(aQ a x.p).getD nd0∧x.n=(aQ b x.p).getD nd0:=by
 obtain ⟨h1,_⟩:=EN (vT h).2;exact ⟨congrArg Ch.o h1,congrArg Ch.n h1⟩
theorem VC {a b:List It} (ha:OkT a) (hb:OkT b) {x:Ch} (h:x∈gG a b):x.o.wf∧x.n.wf:=by
 obtain ⟨h1,h2⟩:=gL h;rw [h1,h2];exact ⟨ha.gett _,hb.gett _⟩
theorem zBD (a b:List It):(gG a b).Pairwise fun x y=>bL x.p y.p=true:=TW (uW _)
theorem TU {a b:List It} {p:List UInt8}:∀ {l:List (List UInt8)},p∈l→iW (aQ a p).isSome (aQ b p).isSome ((aQ a p).getD nd0) ((aQ b p).getD nd0)≠0→∃ x∈zAU a b l,x.p=p
 | q::r,h,hk=>by
  rcases List.mem_cons.1 h with rfl|h
  ·refine ⟨⟨p,iW (aQ a p).isSome (aQ b p).isSome ((aQ a p).getD nd0) ((aQ b p).getD nd0),(aQ a p).getD nd0,(aQ b p).getD nd0⟩,List.mem_append_left _ ?_,rfl⟩;unfold chF;rw [if_pos (by simpa using hk)];simp
  ·obtain ⟨x,hx,he⟩:=TU h hk;exact ⟨x,List.mem_append_right _ hx,he⟩
theorem rF {x:It}:∀ {t:List It},x∈t→(aQ t x.p).isSome=true
 | y::r,h=>by
  rw [aQ];split
  ·rfl
  ·rename_i hy;rcases List.mem_cons.1 h with rfl|h
   ·simp at hy
   ·exact rF h
end Go.Dm
end
section
namespace Go.Dm
open Go
def CA (s:List UInt8):List (List UInt8)→List (List UInt8)
 | []=>[s]
 | x::l=>if bL x s then x::CA s l else if x == s then x::l else s::x::l
theorem FK {s q:List UInt8}:∀ {l:List (List UInt8)},q∈CA s l↔q=s∨q∈l
 | []=>by simp [CA]
 | x::l=>by
  rw [CA];split
  ·rw [List.mem_cons,FK,List.mem_cons];constructor
   ·rintro (h|h|h)
    ·exact .inr (.inl h)
    ·exact .inl h
    ·exact .inr (.inr h)
   ·rintro (h|h|h)
    ·exact .inr (.inl h)
    ·exact .inl h
    ·exact .inr (.inr h)
  ·split
   ·rename_i h;have h:=eq_of_beq h;subst h;simp
   ·simp
theorem VZ {s:List UInt8}:∀ {l:List (List UInt8)},l.Pairwise (fun x y=>bL x y=true)→(CA s l).Pairwise fun x y=>bL x y=true
 | [],_=>by simp [CA]
 | x::l,h=>by
  obtain ⟨h1,h2⟩:=List.pairwise_cons.1 h;rw [CA];split
  ·rename_i hb;refine List.pairwise_cons.2 ⟨fun y hy=>?_,VZ h2⟩;rcases FK.1 hy with rfl|hy
   ·exact hb
   ·exact h1 y hy
  ·rename_i hb;split
   ·exact h
   ·rename_i hn;have hs:bL s x=true:=by
     cases hc:bL s x
     ·have:=dV (by simpa using hb) hc;subst this;simp at hn
     ·rfl
    refine List.pairwise_cons.2 ⟨fun y hy=>?_,h⟩;rcases List.mem_cons.1 hy with rfl|hy
    ·exact hs
    ·exact cC hs (h1 y hy)
theorem RE {s:List UInt8}:∀ {l:List (List UInt8)} {k:Nat},k≤l.length→(∀ j x,l[j]? = some x→j<k→bL x s=true)→(∀ x,l[k]? = some x→bL x s=false) →
  CA s l=match l[k]? with
   | some x=>if x == s then l else l.take k++s::l.drop k
   | none=>l++[s]
 | [],k,hk,_,_=>by simp [CA]
 | x::l,0,_,_,h2=>by
  have:=h2 x rfl;simp only [CA,this,Bool.false_eq_true,if_false,List.getElem?_cons_zero,List.take_zero,List.nil_append,List.drop_zero]
 | x::l,k+1,hk,h1,h2=>by
  have h3:=h1 0 x rfl (by omega);have ih:=RE (s:=s) (l:=l) (k:=k) (by simpa using hk) (fun j y hy hj=>h1 (j+1) y (by simpa using hy) (by omega)) (fun y hy=>h2 y (by simpa using hy));rw [CA,if_pos h3,ih,List.getElem?_cons_succ];cases l[k]? with
  | none=>rfl
  | some y =>
   simp only [List.take_succ_cons,List.drop_succ_cons,List.cons_append];split <;> rfl
def dZ (o:List (List UInt8)) (t:List It):List (List UInt8):=t.foldl (fun o x=>CA x.p o) o
theorem tN:∀ {t:List It} {o:List (List UInt8)},o.Pairwise (fun x y=>bL x y=true)→(dZ o t).Pairwise fun x y=>bL x y=true
 | [],_,h=>h
 | _::t,_,h=>tN (t:=t) (VZ h)
theorem tM {q:List UInt8}:∀ {t:List It} {o:List (List UInt8)},q∈dZ o t↔q∈o∨∃ x∈t,x.p=q
 | [],o=>by simp [dZ]
 | x::t,o=>by
  show q∈dZ (CA x.p o) t↔_;rw [tM,FK];constructor
  ·rintro ((h|h)|⟨y,hy,h⟩)
   ·exact .inr ⟨x,List.mem_cons_self,h.symm⟩
   ·exact .inl h
   ·exact .inr ⟨y,List.mem_cons_of_mem _ hy,h⟩
  ·rintro (h|⟨y,hy,h⟩)
   ·exact .inl (.inr h)
   ·rcases List.mem_cons.1 hy with rfl|hy
    ·exact .inl (.inl h.symm)
    ·exact .inr ⟨y,hy,h⟩
theorem VY (s:List UInt8):∀ l:List (List UInt8),(CA s l).length≤l.length+1
 | []=>by simp [CA]
 | x::l=>by
  have:=VY s l;rw [CA];repeat' split
  all_goals simp only [List.length_cons];omega
theorem kX:∀ (t:List It) (o:List (List UInt8)),(dZ o t).length≤o.length+t.length
 | [],o=>by simp [dZ]
 | x::t,o=>by
  have h1:=kX t (CA x.p o);have h2:=VY x.p o;show (dZ (CA x.p o) t).length≤_;rw [List.length_cons];omega
def uV (a b:List It):List (List UInt8):=dZ (dZ [] a) b
theorem zDX (a b:List It):uV a b=yX a b :=
 sI (lt:=bL) cM (fun h=>eH h) (tN (tN (by simp))) (uW _) fun p=>by
  show p∈uV a b↔p∈yX a b;rw [tU];unfold uV;rw [tM,tM];simp
def AX (x y:Nd) (p q:Bool):Int:=if !p then 1 else if !q then 2 else if x.k != y.k then 4 else if !(x.d == y.d) then 3 else 5
def zHk (a b:List It) (p:List UInt8):List Ch :=
 if (aQ a p).isSome && (aQ b p).isSome && gE ((aQ a p).getD nd0) ((aQ b p).getD nd0) then [] else [⟨p,AX ((aQ a p).getD nd0) ((aQ b p).getD nd0) (aQ a p).isSome (aQ b p).isSome,(aQ a p).getD nd0,(aQ b p).getD nd0⟩]
def mL (a b:List It):List (List UInt8)→List Ch
 | []=>[]
 | p::r=>zHk a b p++mL a b r
def GQ (a b:List It):List Ch:=mL a b (uV a b)
theorem zHl {a b:List It} (ha:OkT a) (hb:OkT b) {p:List UInt8} (hp:(aQ a p).isSome=true∨(aQ b p).isSome=true):zHk a b p=chF a b p:=by
 have he:=rP (ha.gett p) (hb.gett p);unfold zHk chF iW AX;rw [he];generalize (aQ a p).isSome=u at *;generalize (aQ b p).isSome=v at *;generalize (aQ a p).getD nd0=x at *;generalize (aQ b p).getD nd0=y at *;cases u <;> cases v
 ·simp at hp
 ·rfl
 ·rfl
 ·simp only [Bool.not_true,Bool.true_and,if_true,Bool.false_eq_true,if_false];cases gE x y
  ·simp only [Bool.false_eq_true,if_false]
   repeat' split
   all_goals first|rfl|(rename_i h;exact absurd h (by decide))|(rename_i h _;exact absurd h (by decide))|(rename_i h _ _;exact absurd h (by decide))
  ·rfl
theorem MJ {a b:List It} (ha:OkT a) (hb:OkT b):∀ {l:List (List UInt8)},(∀ p∈l,(aQ a p).isSome=true∨(aQ b p).isSome=true)→mL a b l=zAU a b l
 | [],_=>rfl
 | p::r,h=>by rw [mL,zAU,zHl ha hb (h p List.mem_cons_self),MJ ha hb fun q hq=>h q (List.mem_cons_of_mem _ hq)]
theorem MD {a b:List It} {p:List UInt8} (h:p∈yX a b):(aQ a p).isSome=true∨(aQ b p).isSome=true:=by
 rcases tU.1 h with ⟨x,hx,rfl⟩|⟨x,hx,rfl⟩
 ·exact .inl (rF hx)
 ·exact .inr (rF hx)
theorem zAi {a b:List It} (ha:OkT a) (hb:OkT b):GQ a b=gG a b:=by
 unfold GQ gG;rw [zDX,MJ ha hb fun p hp=>MD hp]
end Go.Dm
end
section
namespace Go.Dm
open Go
theorem HW (x k:Nat):(vL x k).toNat=x / 2 ^ k % 256:=by
 have h:IntKind.u8.wrap ((x:Int).fdiv (2 ^ k))=((x / 2 ^ k % 256:Nat):Int):=by
  have h2:(x:Int).fdiv (2 ^ k)=((x / 2 ^ k:Nat):Int):=by
   rw [Int.fdiv_eq_ediv_of_nonneg _ (by exact Int.le_of_lt (Int.pow_pos (by decide)))];simp
  rw [h2];simp only [IntKind.wrap,IntKind.bits,IntKind.signed,Bool.false_and];split <;> rename_i h
  ·simp at h
  ·simp
 unfold vL;rw [h,Int.toNat_natCast];show _ % 256=_;exact Nat.mod_eq_of_lt (Nat.mod_lt _ (by decide))
theorem XX {x y:Nat} (hx:x<18446744073709551616) (hy:y<18446744073709551616) (h:HX x=HX y):x=y:=by
 simp only [HX,List.cons.injEq,and_true] at h;obtain ⟨h7,h6,h5,h4,h3,h2,h1,h0⟩:=h;have e:∀ k,vL x k=vL y k→x / 2 ^ k % 256=y / 2 ^ k % 256:=fun k h=>by rw [← HW,← HW,h]
 have e7:=e _ h7;have e6:=e _ h6;have e5:=e _ h5;have e4:=e _ h4;have e3:=e _ h3;have e2:=e _ h2;have e1:=e _ h1;have e0:=e _ h0;simp only [show (2:Nat) ^ 56=72057594037927936 from rfl,show (2:Nat) ^ 48=281474976710656 from rfl,show (2:Nat) ^ 40=1099511627776 from rfl,show (2:Nat) ^ 32=4294967296 from rfl,show (2:Nat) ^ 24=16777216 from rfl,show (2:Nat) ^ 16=65536 from rfl,show (2:Nat) ^ 8=256 from rfl,show (2:Nat) ^ 0=1 from rfl,Nat.div_one] at e7 e6 e5 e4 e3 e2 e1 e0
 omega
theorem ME {x:Nat} (hx:x<18446744073709551616):zA x=(cY x == x):=by
 unfold zA;rw [Bool.eq_iff_iff,beq_iff_eq,beq_iff_eq];exact ⟨fun h=>(XX hx (oF hx) h).symm,fun h=>by rw [h]⟩
def zBv (n:Nd):Bool:=if n.k == 1 then decide ((n.d.length:Int)≤2000) else if n.k == 2 then (n.d.length:Int) == 0 else if n.k == 3 then (decide ((1:Int)≤n.d.length) && decide ((n.d.length:Int)≤120)) && n.d.all fun b=>!(b == 0) else false
theorem zH4 (b:UInt8):((b.toNat:Int) == 0)=(b == 0):=by
 rw [Bool.eq_iff_iff];simp only [beq_iff_eq];exact ⟨fun h=>UInt8.toNat_inj.1 (by have:(0:UInt8).toNat=0:=rfl;omega),fun h=>by rw [h];rfl⟩
theorem zAK (d:List UInt8):jK d=((decide ((1:Int)≤d.length) && decide ((d.length:Int)≤120)) && d.all fun b=>!(b == 0)):=by
 unfold jK;simp only [zH4];rw [Bool.and_comm]
def oS (n:Nd):Bool:=zBv n && decide (0≤n.m) && decide (n.m≤4095) && (cY n.t == n.t)
theorem GG {n:Nd} (h:n.wf):oS n=aS n:=by
 unfold oS aS zBv;rw [ME h];simp only [zAK];have e1:decide (0≤n.m) = !decide (n.m<0):=by rw [Bool.eq_iff_iff];simp
 have e2:decide (n.m≤4095) = !decide (4095<n.m):=by rw [Bool.eq_iff_iff];simp
 rw [e1,e2];generalize (if n.k == 1 then decide ((n.d.length:Int)≤2000) else if n.k == 2 then (n.d.length:Int) == 0 else if n.k == 3 then (decide ((1:Int)≤n.d.length) && decide ((n.d.length:Int)≤120)) && n.d.all (fun b=>!(b == 0)) else false)=q
 cases q <;> cases decide (n.m<0) <;> cases decide (4095<n.m) <;> cases (cY n.t == n.t) <;> rfl
def sN (n:Nd):Bool:=n.k == 0 && n.m == 0 && n.t == 0 && n.d.length == 0
def zIn (c:Ch):Bool:=!(c.p == []) && bT c.p && (sN c.o || !(c.k == 1)) && (sN c.n || !(c.k == 2)) && (c.k == 1 || aS c.o) && (c.k == 2 || aS c.n) && !(c.k == 0) && (iW (!(c.k == 1)) (!(c.k == 2)) c.o c.n == c.k)
def sS:Option (List UInt8)→List UInt8→Bool
 | none,_=>true
 | some q,p=>bL q p
def eA:Option (List UInt8)→List Ch→Bool
 | _,[]=>true
 | q,c::l=>zIn c && sS q c.p && eA (some c.p) l
theorem MP {l:List Ch} (hm:∀ c∈l,zIn c=true):∀ {q:Option (List UInt8)},l.Pairwise (fun x y=>bL x.p y.p=true)→(∀ p,q=some p→∀ c∈l,bL p c.p=true)→eA q l=true:=by
 induction l with
 | nil=>intros;rfl
 | cons c l ih =>
  intro q hs hq;obtain ⟨h1,h2⟩:=List.pairwise_cons.1 hs;rw [eA,hm c List.mem_cons_self,ih (fun d hd=>hm d (List.mem_cons_of_mem _ hd)) h2 (fun p hp d hd=>by cases hp;exact h1 d hd)]
  cases q with
  | none=>rfl
  | some p=>simp [sS,hq p rfl c List.mem_cons_self]
theorem OkT.getok {t:List It} (h:OkT t) {p:List UInt8} (hs:(aQ t p).isSome=true):p≠[]∧bT p=true∧aS ((aQ t p).getD nd0)=true:=by
 cases hg:aQ t p with
 | none=>rw [hg] at hs;cases hs
 | some n =>
  obtain ⟨x,hx,rfl,rfl⟩:=bZ hg;have:=h.its x hx;exact ⟨this.1,this.2.1,this.2.2.1⟩
theorem JN {a b:List It} (ha:OkT a) (hb:OkT b):∀ c∈gG a b,zIn c=true:=by
 intro c hc;obtain ⟨h1,h2⟩:=mY hc;obtain ⟨h3,h4⟩:=gL hc;have ga:=ha.getok (p:=c.p);have gb:=hb.getok (p:=c.p);have na:(aQ a c.p).isSome=false→(aQ a c.p).getD nd0=nd0:=fun h=>by cases hg:aQ a c.p with
  | none=>rfl
  | some _=>rw [hg] at h;cases h
 have nb:(aQ b c.p).isSome=false→(aQ b c.p).getD nd0=nd0:=fun h=>by cases hg:aQ b c.p with
  | none=>rfl
  | some _=>rw [hg] at h;cases h
 rw [← h3] at h1 h2 ga na;rw [← h4] at h1 h2 gb nb;rw [← h1] at h2;generalize (aQ a c.p).isSome=u at *;generalize (aQ b c.p).isSome=v at *;have key:∀ (u v:Bool),c.k=iW u v c.o c.n→u=(!(c.k == 1))∧v=(!(c.k == 2)):=by
  intro u v h;have hk:iW u v c.o c.n≠0:=by rw [← h];exact h2
  rcases u with _|_ <;> rcases v with _|_
  ·exact absurd rfl hk
  ·rw [h];exact ⟨rfl,rfl⟩
  ·rw [h];exact ⟨rfl,rfl⟩
  ·rw [h];unfold iW at hk ⊢;simp only [if_true] at hk ⊢;split at hk
   ·exact absurd rfl hk
   ·rename_i hq;rw [if_neg hq]
    repeat' split
    all_goals exact ⟨rfl,rfl⟩
 obtain ⟨k1,k2⟩:=key u v h1;have k0:(c.k == 0)=false:=by simpa using h2
 have kk:(iW u v c.o c.n == c.k)=true:=by rw [← h1];simp
 have hp:c.p≠[]∧bT c.p=true:=by
  cases u
  ·cases v
   ·exact absurd h1 (by intro h;exact h2 (by rw [h];rfl))
   ·exact ⟨(gb rfl).1,(gb rfl).2.1⟩
  ·exact ⟨(ga rfl).1,(ga rfl).2.1⟩
 unfold zIn;rw [← k1,← k2,k0,kk,hp.2];have e1:(c.k == 1) = !u:=by rw [k1];simp
 have e2:(c.k == 2) = !v:=by rw [k2];simp
 rw [e1,e2];have e3:(c.p == [])=false:=by simpa using hp.1
 rw [e3];have z0:sN nd0=true:=by decide
 cases u <;> cases v
 ·exact absurd (h1.trans rfl) h2
 ·rw [na rfl,z0,(gb rfl).2.2];simp
 ·rw [nb rfl,z0,(ga rfl).2.2];simp
 ·rw [(ga rfl).2.2,(gb rfl).2.2];simp
theorem QJ {a b:List It} (ha:OkT a) (hb:OkT b):eA none (gG a b)=true :=
 MP (JN ha hb) (zBD a b) (fun p h=>by cases h)
end Go.Dm
end
section
namespace Go.Dm
open Go
theorem CD (a:List UInt8):∀ k,k≤a.length→Lib.lastIdx ⟨a.toArray⟩ 47 k=match dB a k with
  | some j=>(j:Int)
  | none=>-1
 | 0,_=>rfl
 | k+1,hk=>by
  have hlt:k<a.length:=by omega
  have e1:(ByteArray.mk a.toArray).data[k]! = a[k]:=by
   show a.toArray[k]! = _;simp [getElem!_pos,hlt]
  have e2:a.getD k 0=a[k]:=by simp [List.getD_eq_getElem?_getD,hlt]
  rw [Lib.lastIdx,dB,e1,e2];by_cases h:((a[k].toNat:Int)=47)
  ·rw [if_pos h,if_pos (by simpa using h)]
  ·rw [if_neg h,if_neg (by simpa using h),CD a k (by omega)]
theorem mH (a:List UInt8):Lib.lastIndexByte ⟨a.toArray⟩ 47=match dB a a.length with
  | some j=>(j:Int)
  | none=>-1:=by
 have:(ByteArray.mk a.toArray).size=a.length:=by simp [ByteArray.size]
 unfold Lib.lastIndexByte;rw [this];exact CD a _ (Nat.le_refl _)
theorem uR {p:List UInt8} {j:Nat} (h:dB p p.length=some j):j<p.length:=by
 rcases gQ p p.length (Nat.le_refl _) with ⟨h1,_⟩|⟨i,hi,h1,_⟩
 ·rw [h1] at h;cases h
 ·rw [h1] at h;cases h;exact hi
def vJ (p:List UInt8):List UInt8:=match dB p p.length with
 | some j=>p.drop (j+1)
 | none=>p
theorem HV {p q:List UInt8} (hp:p≠[]):(p++[47]).isPrefixOf q=aP p q:=by
 rw [Bool.eq_iff_iff,List.isPrefixOf_iff_prefix,zBc hp];constructor
 ·rintro ⟨r,hr⟩;exact ⟨r,by rw [← hr];simp⟩
 ·rintro ⟨r,hr⟩;exact ⟨r,by rw [hr];simp⟩
def iS (d n:List UInt8):List UInt8:=if d == [] then n else d++47::n
theorem zFB (p:List UInt8) (hd:aR p=[]→47 ∉ p):iS (aR p) (vJ p)=p:=by
 unfold iS vJ;rcases gQ p p.length (Nat.le_refl _) with ⟨h1,h2⟩|⟨i,h,h1,h2,h3,h4⟩
 ·have:aR p=[]:=by unfold aR;rw [h1]
  rw [this,h1];rfl
 ·have hdi:aR p=p.take i:=by unfold aR;rw [h1]
  have hi:aR p≠[]:=by
   intro h0;exact hd h0 (List.mem_iff_getElem.2 ⟨i,h,h3⟩)
  rw [if_neg (by simpa using hi),hdi,h1];have:=List.take_append_drop i p;rw [List.drop_eq_getElem_cons h,h3] at this;exact this
def vX (t:List It) (p:List UInt8):List (List UInt8):=(t.filter fun x=>aR x.p == p).map fun x=>vJ x.p
def fR (t:List It) (p:List UInt8):List (List UInt8):=(vX t p).mergeSort fun x y=>decide (x≤y)
theorem cI {y:It}:∀ {t:List It},Srt t→y∈t→aQ t y.p=some y.n
 | x::t,hs,hy=>by
  obtain ⟨h1,h2⟩:=List.pairwise_cons.1 hs;rw [aQ];rcases List.mem_cons.1 hy with rfl|hy
  ·rw [if_pos (by simp)]
  ·rw [if_neg (by rw [jT (h1 y hy)];decide)];exact cI h2 hy
theorem zBg (d:List UInt8) (b:UInt8) (n:List UInt8):bL d (d++b::n)=true:=by
 induction d with
 | nil=>rfl
 | cons x d ih=>rw [List.cons_append,qR,ih];simp
theorem CB {t:List It} (h:OkT t) {k:Nat} {x:It} (hx:t[k]? = some x):aV (t.take k) (aR x.p)=true:=by
 by_cases hd:aR x.p=[]
 ·rw [hd];rfl
 obtain ⟨m,h1,h2⟩:=cN hd (h.par x (List.mem_of_getElem? hx));obtain ⟨y,hy,hyp,hyn⟩:=bZ h1;obtain ⟨n,hn,_⟩:=qX hd;have hlt:bL y.p x.p=true:=by
  have:=zBg (aR x.p) 47 n;rw [← hn] at this;rw [hyp];exact this
 obtain ⟨j,hj,hje⟩:=List.mem_iff_getElem.1 hy;obtain ⟨hk,hxe⟩:=List.getElem?_eq_some_iff.1 hx;have hjk:j<k:=by
  rcases Nat.lt_trichotomy j k with h'|h'|h'
  ·exact h'
  ·subst h';rw [← hje,← hxe,cM] at hlt;cases hlt
  ·have:=List.pairwise_iff_getElem.1 h.srt k j hk hj h';rw [hje,hxe,eH hlt] at this;cases this
 have hyt:y∈t.take k:=List.mem_iff_getElem.2 ⟨j,by simp;omega,by rw [List.getElem_take];exact hje⟩
 have hst:Srt (t.take k):=h.srt.sublist (List.take_sublist k t);have:=cI hst hyt;rw [hyp] at this;exact eU this (by rw [hyn];exact h2)
end Go.Dm
end
section
namespace Go.Dm
open Go
theorem AW {p:List UInt8} (hp:bT p=true) (h0:p≠[]) (hd:aR p=[]):47 ∉ p:=by
 rcases vY p with ⟨_,h⟩|⟨n,h,_⟩
 ·exact h
 ·rw [hd,List.nil_append] at h;unfold bT at hp;have:(p == [])=false:=by simpa using h0
  rw [this,Bool.false_or,Bool.and_eq_true] at hp;rw [h] at hp;have h1:=hp.1;unfold oK at h1;rw [show (47::n:List UInt8)=[]++47::n from rfl,qT,List.all_append] at h1
  simp [vU,aW] at h1
theorem OkT.joined {t:List It} (h:OkT t) {x:It} (hx:x∈t):iS (aR x.p) (vJ x.p)=x.p :=
 zFB _ fun hd=>AW (h.its x hx).2.1 (h.its x hx).1 hd
theorem ZS (t:List It) (d:List UInt8):(fR t d).length=(t.filter fun x=>aR x.p == d).length:=by
 unfold fR vX;rw [List.length_mergeSort,List.length_map]
theorem eI {α:Type} {g:α→Bool} {t:List α} {i:Nat} {x:α} (hx:t[i]? = some x):(t.take (i+1)).filter g=(t.take i).filter g++(if g x then [x] else []):=by
 rw [List.take_add_one,hx,List.filter_append];show _++[x].filter g=_;rw [List.filter_cons];split <;> rfl
end Go.Dm
end
end
