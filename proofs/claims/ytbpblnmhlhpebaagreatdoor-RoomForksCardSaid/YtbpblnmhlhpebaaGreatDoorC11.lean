/- Part 12 of the proof of roomForks_card, set without needless blanks. No condition. -/
import Derived.Test.YtbpblnmhlhpebaaGreatDoorC09
set_option linter.unusedSimpArgs false
set_option linter.unusedVariables false
section
section
namespace Go.Dm
open Go
theorem zHt:∀ a b:List UInt8,bO a b=decide (a<b)
 | a,[]=>by rw [DW];simp
 | [],y::b=>by show true=_;simp
 | x::a,y::b=>by
  rw [qJ,zHt a b]
  by_cases h1:x<y
  ·simp [h1,List.cons_lt_cons_iff]
  ·by_cases h2:x=y
   ·subst h2;simp [List.cons_lt_cons_iff]
   ·simp [h1,h2,List.cons_lt_cons_iff]
theorem zHF {a b:List UInt8}:a≤b↔bO b a=false:=by rw [zHt,decide_eq_false_iff_not,List.not_lt]
def leS (x y:List UInt8):Bool:=decide (x≤y)
theorem zT {a b:List UInt8}:leS a b = !bO b a:=by
 unfold leS
 cases h:bO b a
 ·simpa using zHF.2 h
 ·have:¬ a≤b:=fun h2=>by rw [zHF.1 h2] at h;cases h
  simpa using this
theorem zDz {a b c:List UInt8} (h1:leS a b=true) (h2:leS b c=true):leS a c=true:=by
 rw [zT] at *
 cases hc:bO c a
 ·rfl
 ·have h1':bO b a=false:=by simpa using h1
  have h2':bO c b=false:=by simpa using h2
  cases hb:bO a b
  ·have:=dS hb h1';subst this;rw [hc] at h2';cases h2'
  ·have:=cD hc hb;rw [this] at h2';cases h2'
theorem zEk {a b:List UInt8}:(leS a b || leS b a)=true:=by
 rw [zT,zT]
 cases h:bO b a
 ·rfl
 ·rw [eE h];rfl
theorem uR (l:List (List UInt8)):(l.mergeSort fun x y=>decide (x≤y)).Pairwise fun x y=>leS x y=true :=
 List.pairwise_mergeSort (le:=leS) (fun a b c=>zDz) (fun a b=>zEk) l
theorem jR {l:List (List UInt8)} (hl:l.Pairwise fun x y=>leS x y=true):∀ m,m≤l.length→(Lib.compactUpTo l.toArray m).Pairwise (fun x y=>bO x y=true)∧∀ x∈Lib.compactUpTo l.toArray m,∃ (j:Nat) (_:j<m) (h:j<l.length),x=l[j]
 | 0,_=>by simp [Lib.compactUpTo]
 | m+1,hm=>by
  obtain ⟨h1,h2⟩:=jR hl m (by omega)
  rw [Lib.compactUpTo_succ]
  have hg:l.toArray[m]! = l[m]:=by simp [getElem!_pos,show m<l.length by omega]
  split
  ·rename_i hk
   rw [hg]
   refine ⟨List.pairwise_append.2 ⟨h1,by simp,fun x hx y hy=>?_⟩,fun x hx=>?_⟩
   ·obtain ⟨j,hj,hjl,rfl⟩:=h2 x hx
    have:y=l[m]:=by simpa using hy
    subst this
    have hm1:m-1<l.length:=by omega
    have hg1:l.toArray[m-1]! = l[m-1]:=by simp [getElem!_pos,hm1]
    unfold Lib.keeps at hk
    rw [hg,hg1] at hk
    simp only [decide_eq_true_eq] at hk
    have hne:l[m]≠l[m-1]:=by rcases hk with hk|hk;omega;exact hk
    have a1:leS l[m-1] l[m]=true:=List.pairwise_iff_getElem.1 hl _ _ hm1 (by omega) (by omega)
    have a2:bO l[m-1] l[m]=true:=by
     cases h:bO l[m-1] l[m]
     ·rw [zT] at a1
      exact absurd (dS h (by simpa using a1)).symm hne
     ·rfl
    rcases Nat.lt_or_ge j (m-1) with h|h
    ·have a3:leS l[j] l[m-1]=true:=List.pairwise_iff_getElem.1 hl _ _ hjl hm1 h
     cases h5:bO l[j] l[m-1]
     ·rw [zT] at a3
      rw [dS h5 (by simpa using a3)];exact a2
     ·exact cD h5 a2
    ·have:j=m-1:=by omega
     subst this;exact a2
   ·rcases List.mem_append.1 hx with hx|hx
    ·obtain ⟨j,hj,hjl,he⟩:=h2 x hx
     exact ⟨j,by omega,hjl,he⟩
    ·have:x=l[m]:=by simpa using hx
     exact ⟨m,by omega,by omega,this⟩
  ·rw [List.append_nil]
   exact ⟨h1,fun x hx=>by obtain ⟨j,hj,hjl,he⟩:=h2 x hx;exact ⟨j,by omega,hjl,he⟩⟩
theorem uQ (l:List (List UInt8)):(Lib.compact (l.mergeSort fun x y=>decide (x≤y))).Pairwise fun x y=>bO x y=true :=
 (jR (uR l) _ (Nat.le_refl _)).1
theorem EI {a b:List It} {p:List UInt8} {x:Ch} (h:x∈chF a b p):x=⟨p,iQ (aR a p).isSome (aR b p).isSome ((aR a p).getD nd0) ((aR b p).getD nd0),(aR a p).getD nd0,(aR b p).getD nd0⟩∧iQ (aR a p).isSome (aR b p).isSome ((aR a p).getD nd0) ((aR b p).getD nd0)≠0:=by
 unfold chF at h
 split at h
 ·rename_i hb;exact ⟨by simpa using h,by simpa using hb⟩
 ·simp at h
theorem vQ {a b:List It} {x:Ch}:∀ {l:List (List UInt8)},x∈zAe a b l→x.p∈l∧x∈chF a b x.p
 | [],h=>by simp [zAe] at h
 | p::r,h=>by
  rcases List.mem_append.1 h with h|h
  ·have:=(EI h).1
   have hp:x.p=p:=by rw [this]
   rw [hp];exact ⟨List.mem_cons_self,h⟩
  ·obtain ⟨h1,h2⟩:=vQ h
   exact ⟨List.mem_cons_of_mem _ h1,h2⟩
theorem VV {a b:List It}:∀ {l:List (List UInt8)},l.Pairwise (fun x y=>bO x y=true)→(zAe a b l).Pairwise fun x y=>bO x.p y.p=true
 | [],_=>by simp [zAe]
 | p::r,h=>by
  obtain ⟨h1,h2⟩:=List.pairwise_cons.1 h
  refine List.pairwise_append.2 ⟨?_,VV h2,fun x hx y hy=>?_⟩
  ·unfold chF;split <;> simp
  ·rw [(EI hx).1];exact h1 _ (vQ hy).1
end Go.Dm
end
section
namespace Go.Dm
open Go
theorem pZ {l:List (List UInt8)}:∀ m,m≤l.length→∀ j (hj:j<l.length),j<m→l[j]∈Lib.compactUpTo l.toArray m
 | 0,_,_,_,h=>by omega
 | m+1,hm,j,hj,h=>by
  rw [Lib.compactUpTo_succ]
  have hg:l.toArray[m]! = l[m]:=by simp [getElem!_pos,show m<l.length by omega]
  by_cases hjm:j<m
  ·exact List.mem_append_left _ (pZ m (by omega) j hj hjm)
  ·have:j=m:=by omega
   subst this
   cases hk:Lib.keeps l.toArray j
   ·have hg1:l.toArray[j-1]! = l[j-1]:=by simp [getElem!_pos,show j-1<l.length by omega]
    unfold Lib.keeps at hk
    rw [hg,hg1] at hk
    simp only [decide_eq_false_iff_not,not_or,Decidable.not_not] at hk
    rw [hk.2]
    exact List.mem_append_left _ (pZ j (by omega) (j-1) (by omega) (by omega))
   ·rw [hg];exact List.mem_append_right _ (by simp)
theorem PA {l:List (List UInt8)} {p:List UInt8}:p∈Lib.compact (l.mergeSort fun x y=>decide (x≤y))↔p∈l:=by
 have hp:∀ q,q∈(l.mergeSort fun x y=>decide (x≤y))↔q∈l:=fun q=>List.mem_mergeSort
 constructor
 ·intro h
  obtain ⟨j,_,hj,rfl⟩:=(jR (uR l) _ (Nat.le_refl _)).2 p h
  exact (hp _).1 (List.getElem_mem hj)
 ·intro h
  obtain ⟨j,hj,rfl⟩:=List.mem_iff_getElem.1 ((hp p).2 h)
  exact pZ _ (Nat.le_refl _) j hj hj
theorem rR {α:Type} {lt:α→α→Bool} (hirr:∀ a,lt a a=false) (hasm:∀ {a b},lt a b=true→lt b a=false):∀ {a b:List α},a.Pairwise (fun x y=>lt x y=true)→b.Pairwise (fun x y=>lt x y=true)→(∀ x,x∈a↔x∈b)→a=b
 | [],[],_,_,_=>rfl
 | [],y::b,_,_,h=>by have:=(h y).2 List.mem_cons_self;simp at this
 | x::a,[],_,_,h=>by have:=(h x).1 List.mem_cons_self;simp at this
 | x::a,y::b,ha,hb,h=>by
  obtain ⟨ha1,ha2⟩:=List.pairwise_cons.1 ha
  obtain ⟨hb1,hb2⟩:=List.pairwise_cons.1 hb
  have hxy:x=y:=by
   rcases List.mem_cons.1 ((h x).1 List.mem_cons_self) with e|e
   ·exact e
   ·rcases List.mem_cons.1 ((h y).2 List.mem_cons_self) with e2|e2
    ·exact e2.symm
    ·have h1:=hasm (hb1 x e)
     rw [ha1 y e2] at h1;cases h1
  subst hxy
  rw [rR hirr hasm ha2 hb2 fun z=>?_]
  constructor
  ·intro hz
   rcases List.mem_cons.1 ((h z).1 (List.mem_cons_of_mem _ hz)) with e|e
   ·subst e;have:=ha1 z hz;rw [hirr] at this;cases this
   ·exact e
  ·intro hz
   rcases List.mem_cons.1 ((h z).2 (List.mem_cons_of_mem _ hz)) with e|e
   ·subst e;have:=hb1 z hz;rw [hirr] at this;cases this
   ·exact e
def yP (a b:List It):List (List UInt8):=Lib.compact (((a++b).map It.p).mergeSort fun x y=>decide (x≤y))
def eX (a b:List It):List Ch:=zAe a b (yP a b)
theorem tP {a b:List It} {p:List UInt8}:p∈yP a b↔(∃ x∈a,x.p=p)∨∃ x∈b,x.p=p:=by
 unfold yP
 rw [PA]
 simp only [List.mem_map,List.mem_append]
 constructor
 ·rintro ⟨x,h|h,rfl⟩
  ·exact .inl ⟨x,h,rfl⟩
  ·exact .inr ⟨x,h,rfl⟩
 ·rintro (⟨x,h,rfl⟩|⟨x,h,rfl⟩)
  ·exact ⟨x,.inl h,rfl⟩
  ·exact ⟨x,.inr h,rfl⟩
theorem xX {x:Nd} (h:x.wf):mQ x x=true:=by rw [qN h h];exact pP x
theorem SL {a b:List It}:∀ l:List (List UInt8),(zAe a b l).length≤l.length
 | []=>by simp [zAe]
 | p::r=>by
  have:=SL (a:=a) (b:=b) r
  have h2:(chF a b p).length≤1:=by unfold chF;split <;> simp
  rw [zAe,List.length_append,List.length_cons];omega
theorem YR (l:List (List UInt8)):(Lib.compact l).length≤l.length:=by
 unfold Lib.compact Lib.compactUpTo
 rw [List.length_map]
 exact Nat.le_trans (List.length_filter_le ..) (by simp)
theorem zDu (a b:List It):(eX a b).length≤a.length+b.length:=by
 unfold eX yP
 refine Nat.le_trans (SL _) (Nat.le_trans (YR _) ?_)
 rw [List.length_mergeSort,List.length_map,List.length_append];exact Nat.le_refl _
theorem nN {a b:List It} {x:Ch} (h:x∈eX a b):x.k=iQ (aR a x.p).isSome (aR b x.p).isSome ((aR a x.p).getD nd0) ((aR b x.p).getD nd0)∧iQ (aR a x.p).isSome (aR b x.p).isSome ((aR a x.p).getD nd0) ((aR b x.p).getD nd0)≠0:=by
 obtain ⟨h1,h2⟩:=EI (vQ h).2
 exact ⟨congrArg Ch.k h1,h2⟩
theorem gA {a b:List It} {x:Ch} (h:x∈eX a b):x.o=(aR a x.p).getD nd0∧x.n=(aR b x.p).getD nd0:=by
 obtain ⟨h1,_⟩:=EI (vQ h).2
 exact ⟨congrArg Ch.o h1,congrArg Ch.n h1⟩
theorem VT {a b:List It} (ha:OkT a) (hb:OkT b) {x:Ch} (h:x∈eX a b):x.o.wf∧x.n.wf:=by
 obtain ⟨h1,h2⟩:=gA h
 rw [h1,h2];exact ⟨ha.gett _,hb.gett _⟩
theorem zB4 (a b:List It):(eX a b).Pairwise fun x y=>bO x.p y.p=true:=VV (uQ _)
theorem VH {a b:List It} {p:List UInt8}:∀ {l:List (List UInt8)},p∈l→iQ (aR a p).isSome (aR b p).isSome ((aR a p).getD nd0) ((aR b p).getD nd0)≠0→∃ x∈zAe a b l,x.p=p
 | q::r,h,hk=>by
  rcases List.mem_cons.1 h with rfl|h
  ·refine ⟨⟨p,iQ (aR a p).isSome (aR b p).isSome ((aR a p).getD nd0) ((aR b p).getD nd0),(aR a p).getD nd0,(aR b p).getD nd0⟩,List.mem_append_left _ ?_,rfl⟩
   unfold chF;rw [if_pos (by simpa using hk)];simp
  ·obtain ⟨x,hx,he⟩:=VH h hk
   exact ⟨x,List.mem_append_right _ hx,he⟩
theorem rN {x:It}:∀ {t:List It},x∈t→(aR t x.p).isSome=true
 | y::r,h=>by
  rw [aR]
  split
  ·rfl
  ·rename_i hy
   rcases List.mem_cons.1 h with rfl|h
   ·simp at hy
   ·exact rN h
end Go.Dm
end
section
namespace Go.Dm
open Go
def CM (s:List UInt8):List (List UInt8)→List (List UInt8)
 | []=>[s]
 | x::l=>if bO x s then x::CM s l else if x == s then x::l else s::x::l
theorem GQ {s q:List UInt8}:∀ {l:List (List UInt8)},q∈CM s l↔q=s∨q∈l
 | []=>by simp [CM]
 | x::l=>by
  rw [CM]
  split
  ·rw [List.mem_cons,GQ,List.mem_cons]
   constructor
   ·rintro (h|h|h)
    ·exact .inr (.inl h)
    ·exact .inl h
    ·exact .inr (.inr h)
   ·rintro (h|h|h)
    ·exact .inr (.inl h)
    ·exact .inl h
    ·exact .inr (.inr h)
  ·split
   ·rename_i h
    have h:=eq_of_beq h
    subst h
    simp
   ·simp
theorem VI {s:List UInt8}:∀ {l:List (List UInt8)},l.Pairwise (fun x y=>bO x y=true)→(CM s l).Pairwise fun x y=>bO x y=true
 | [],_=>by simp [CM]
 | x::l,h=>by
  obtain ⟨h1,h2⟩:=List.pairwise_cons.1 h
  rw [CM]
  split
  ·rename_i hb
   refine List.pairwise_cons.2 ⟨fun y hy=>?_,VI h2⟩
   rcases GQ.1 hy with rfl|hy
   ·exact hb
   ·exact h1 y hy
  ·rename_i hb
   split
   ·exact h
   ·rename_i hn
    have hs:bO s x=true:=by
     cases hc:bO s x
     ·have:=dS (by simpa using hb) hc
      subst this;simp at hn
     ·rfl
    refine List.pairwise_cons.2 ⟨fun y hy=>?_,h⟩
    rcases List.mem_cons.1 hy with rfl|hy
    ·exact hs
    ·exact cD hs (h1 y hy)
theorem PS {s:List UInt8}:∀ {l:List (List UInt8)} {k:Nat},k≤l.length→(∀ j x,l[j]? = some x→j<k→bO x s=true)→(∀ x,l[k]? = some x→bO x s=false) →
  CM s l=match l[k]? with
   | some x=>if x == s then l else l.take k++s::l.drop k
   | none=>l++[s]
 | [],k,hk,_,_=>by simp [CM]
 | x::l,0,_,_,h2=>by
  have:=h2 x rfl
  simp only [CM,this,Bool.false_eq_true,if_false,List.getElem?_cons_zero,List.take_zero,List.nil_append,List.drop_zero]
 | x::l,k+1,hk,h1,h2=>by
  have h3:=h1 0 x rfl (by omega)
  have ih:=PS (s:=s) (l:=l) (k:=k) (by simpa using hk) (fun j y hy hj=>h1 (j+1) y (by simpa using hy) (by omega)) (fun y hy=>h2 y (by simpa using hy))
  rw [CM,if_pos h3,ih,List.getElem?_cons_succ]
  cases l[k]? with
  | none=>rfl
  | some y =>
   simp only [List.take_succ_cons,List.drop_succ_cons,List.cons_append]
   split <;> rfl
def dW (o:List (List UInt8)) (t:List It):List (List UInt8):=t.foldl (fun o x=>CM x.p o) o
theorem sQ:∀ {t:List It} {o:List (List UInt8)},o.Pairwise (fun x y=>bO x y=true)→(dW o t).Pairwise fun x y=>bO x y=true
 | [],_,h=>h
 | _::t,_,h=>sQ (t:=t) (VI h)
theorem sZ {q:List UInt8}:∀ {t:List It} {o:List (List UInt8)},q∈dW o t↔q∈o∨∃ x∈t,x.p=q
 | [],o=>by simp [dW]
 | x::t,o=>by
  show q∈dW (CM x.p o) t↔_
  rw [sZ,GQ]
  constructor
  ·rintro ((h|h)|⟨y,hy,h⟩)
   ·exact .inr ⟨x,List.mem_cons_self,h.symm⟩
   ·exact .inl h
   ·exact .inr ⟨y,List.mem_cons_of_mem _ hy,h⟩
  ·rintro (h|⟨y,hy,h⟩)
   ·exact .inl (.inr h)
   ·rcases List.mem_cons.1 hy with rfl|hy
    ·exact .inl (.inl h.symm)
    ·exact .inr ⟨y,hy,h⟩
theorem SR (s:List UInt8):∀ l:List (List UInt8),(CM s l).length≤l.length+1
 | []=>by simp [CM]
 | x::l=>by
  have:=SR s l
  rw [CM];repeat' split
  all_goals simp only [List.length_cons];omega
theorem kZ:∀ (t:List It) (o:List (List UInt8)),(dW o t).length≤o.length+t.length
 | [],o=>by simp [dW]
 | x::t,o=>by
  have h1:=kZ t (CM x.p o)
  have h2:=SR x.p o
  show (dW (CM x.p o) t).length≤_
  rw [List.length_cons];omega
def uE (a b:List It):List (List UInt8):=dW (dW [] a) b
theorem zAD (a b:List It):uE a b=yP a b :=
 rR (lt:=bO) cM (fun h=>eE h) (sQ (sQ (by simp))) (uQ _) fun p=>by
  show p∈uE a b↔p∈yP a b
  rw [tP];unfold uE;rw [sZ,sZ];simp
def AG (x y:Nd) (p q:Bool):Int:=if !p then 1 else if !q then 2 else if x.k != y.k then 4 else if !(x.d == y.d) then 3 else 5
def zF9 (a b:List It) (p:List UInt8):List Ch :=
 if (aR a p).isSome && (aR b p).isSome && fS ((aR a p).getD nd0) ((aR b p).getD nd0) then [] else [⟨p,AG ((aR a p).getD nd0) ((aR b p).getD nd0) (aR a p).isSome (aR b p).isSome,(aR a p).getD nd0,(aR b p).getD nd0⟩]
def mF (a b:List It):List (List UInt8)→List Ch
 | []=>[]
 | p::r=>zF9 a b p++mF a b r
def EK (a b:List It):List Ch:=mF a b (uE a b)
theorem zGM {a b:List It} (ha:OkT a) (hb:OkT b) {p:List UInt8} (hp:(aR a p).isSome=true∨(aR b p).isSome=true):zF9 a b p=chF a b p:=by
 have he:=qN (ha.gett p) (hb.gett p)
 unfold zF9 chF iQ AG
 rw [he]
 generalize (aR a p).isSome=u at *
 generalize (aR b p).isSome=v at *
 generalize (aR a p).getD nd0=x at *
 generalize (aR b p).getD nd0=y at *
 cases u <;> cases v
 ·simp at hp
 ·rfl
 ·rfl
 ·simp only [Bool.not_true,Bool.true_and,if_true,Bool.false_eq_true,if_false]
  cases fS x y
  ·simp only [Bool.false_eq_true,if_false]
   repeat' split
   all_goals first|rfl|(rename_i h;exact absurd h (by decide))|(rename_i h _;exact absurd h (by decide))|(rename_i h _ _;exact absurd h (by decide))
  ·rfl
theorem KZ {a b:List It} (ha:OkT a) (hb:OkT b):∀ {l:List (List UInt8)},(∀ p∈l,(aR a p).isSome=true∨(aR b p).isSome=true)→mF a b l=zAe a b l
 | [],_=>rfl
 | p::r,h=>by rw [mF,zAe,zGM ha hb (h p List.mem_cons_self),KZ ha hb fun q hq=>h q (List.mem_cons_of_mem _ hq)]
theorem LQ {a b:List It} {p:List UInt8} (h:p∈yP a b):(aR a p).isSome=true∨(aR b p).isSome=true:=by
 rcases tP.1 h with ⟨x,hx,rfl⟩|⟨x,hx,rfl⟩
 ·exact .inl (rN hx)
 ·exact .inr (rN hx)
theorem WX {a b:List It} (ha:OkT a) (hb:OkT b):EK a b=eX a b:=by
 unfold EK eX
 rw [zAD,KZ ha hb fun p hp=>LQ hp]
end Go.Dm
end
section
namespace Go.Dm
open Go
theorem MF (x k:Nat):(vA x k).toNat=x / 2 ^ k % 256:=by
 have h:IntKind.u8.wrap ((x:Int).fdiv (2 ^ k))=((x / 2 ^ k % 256:Nat):Int):=by
  have h2:(x:Int).fdiv (2 ^ k)=((x / 2 ^ k:Nat):Int):=by
   rw [Int.fdiv_eq_ediv_of_nonneg _ (by exact Int.le_of_lt (Int.pow_pos (by decide)))]
   simp
  rw [h2]
  simp only [IntKind.wrap,IntKind.bits,IntKind.signed,Bool.false_and]
  split <;> rename_i h
  ·simp at h
  ·simp
 unfold vA
 rw [h,Int.toNat_natCast]
 show _ % 256=_
 exact Nat.mod_eq_of_lt (Nat.mod_lt _ (by decide))
theorem WJ {x y:Nat} (hx:x<18446744073709551616) (hy:y<18446744073709551616) (h:MG x=MG y):x=y:=by
 simp only [MG,List.cons.injEq,and_true] at h
 obtain ⟨h7,h6,h5,h4,h3,h2,h1,h0⟩:=h
 have e:∀ k,vA x k=vA y k→x / 2 ^ k % 256=y / 2 ^ k % 256:=fun k h=>by rw [← MF,← MF,h]
 have e7:=e _ h7;have e6:=e _ h6;have e5:=e _ h5;have e4:=e _ h4;have e3:=e _ h3;have e2:=e _ h2;have e1:=e _ h1;have e0:=e _ h0
 simp only [show (2:Nat) ^ 56=72057594037927936 from rfl,show (2:Nat) ^ 48=281474976710656 from rfl,show (2:Nat) ^ 40=1099511627776 from rfl,show (2:Nat) ^ 32=4294967296 from rfl,show (2:Nat) ^ 24=16777216 from rfl,show (2:Nat) ^ 16=65536 from rfl,show (2:Nat) ^ 8=256 from rfl,show (2:Nat) ^ 0=1 from rfl,Nat.div_one] at e7 e6 e5 e4 e3 e2 e1 e0
 omega
theorem LK {x:Nat} (hx:x<18446744073709551616):zL x=(dA x == x):=by
 unfold zL
 rw [Bool.eq_iff_iff,beq_iff_eq,beq_iff_eq]
 exact ⟨fun h=>(WJ hx (lU hx) h).symm,fun h=>by rw [h]⟩
def zD0 (n:Nd):Bool:=if n.k == 1 then decide ((n.d.length:Int)≤2000) else if n.k == 2 then (n.d.length:Int) == 0 else if n.k == 3 then (decide ((1:Int)≤n.d.length) && decide ((n.d.length:Int)≤120)) && n.d.all fun b=>!(b == 0) else false
theorem zED (b:UInt8):((b.toNat:Int) == 0)=(b == 0):=by
 rw [Bool.eq_iff_iff];simp only [beq_iff_eq]
 exact ⟨fun h=>UInt8.toNat_inj.1 (by have:(0:UInt8).toNat=0:=rfl;omega),fun h=>by rw [h];rfl⟩
theorem YI (d:List UInt8):iZ d=((decide ((1:Int)≤d.length) && decide ((d.length:Int)≤120)) && d.all fun b=>!(b == 0)):=by
 unfold iZ
 simp only [zED]
 rw [Bool.and_comm]
def oH (n:Nd):Bool:=zD0 n && decide (0≤n.m) && decide (n.m≤4095) && (dA n.t == n.t)
theorem EJ {n:Nd} (h:n.wf):oH n=aU n:=by
 unfold oH aU zD0
 rw [LK h]
 simp only [YI]
 have e1:decide (0≤n.m) = !decide (n.m<0):=by rw [Bool.eq_iff_iff];simp
 have e2:decide (n.m≤4095) = !decide (4095<n.m):=by rw [Bool.eq_iff_iff];simp
 rw [e1,e2]
 generalize (if n.k == 1 then decide ((n.d.length:Int)≤2000) else if n.k == 2 then (n.d.length:Int) == 0 else if n.k == 3 then (decide ((1:Int)≤n.d.length) && decide ((n.d.length:Int)≤120)) && n.d.all (fun b=>!(b == 0)) else false)=q
 cases q <;> cases decide (n.m<0) <;> cases decide (4095<n.m) <;> cases (dA n.t == n.t) <;> rfl
def rB (n:Nd):Bool:=n.k == 0 && n.m == 0 && n.t == 0 && n.d.length == 0
def zHj (c:Ch):Bool:=!(c.p == []) && bV c.p && (rB c.o || !(c.k == 1)) && (rB c.n || !(c.k == 2)) && (c.k == 1 || aU c.o) && (c.k == 2 || aU c.n) && !(c.k == 0) && (iQ (!(c.k == 1)) (!(c.k == 2)) c.o c.n == c.k)
def tM:Option (List UInt8)→List UInt8→Bool
 | none,_=>true
 | some q,p=>bO q p
def dY:Option (List UInt8)→List Ch→Bool
 | _,[]=>true
 | q,c::l=>zHj c && tM q c.p && dY (some c.p) l
theorem NK {l:List Ch} (hm:∀ c∈l,zHj c=true):∀ {q:Option (List UInt8)},l.Pairwise (fun x y=>bO x.p y.p=true)→(∀ p,q=some p→∀ c∈l,bO p c.p=true)→dY q l=true:=by
 induction l with
 | nil=>intros;rfl
 | cons c l ih =>
  intro q hs hq
  obtain ⟨h1,h2⟩:=List.pairwise_cons.1 hs
  rw [dY,hm c List.mem_cons_self,ih (fun d hd=>hm d (List.mem_cons_of_mem _ hd)) h2 (fun p hp d hd=>by cases hp;exact h1 d hd)]
  cases q with
  | none=>rfl
  | some p=>simp [tM,hq p rfl c List.mem_cons_self]
theorem OkT.getok {t:List It} (h:OkT t) {p:List UInt8} (hs:(aR t p).isSome=true):p≠[]∧bV p=true∧aU ((aR t p).getD nd0)=true:=by
 cases hg:aR t p with
 | none=>rw [hg] at hs;cases hs
 | some n =>
  obtain ⟨x,hx,rfl,rfl⟩:=bZ hg
  have:=h.its x hx
  exact ⟨this.1,this.2.1,this.2.2.1⟩
theorem JR {a b:List It} (ha:OkT a) (hb:OkT b):∀ c∈eX a b,zHj c=true:=by
 intro c hc
 obtain ⟨h1,h2⟩:=nN hc
 obtain ⟨h3,h4⟩:=gA hc
 have ga:=ha.getok (p:=c.p)
 have gb:=hb.getok (p:=c.p)
 have na:(aR a c.p).isSome=false→(aR a c.p).getD nd0=nd0:=fun h=>by cases hg:aR a c.p with
  | none=>rfl
  | some _=>rw [hg] at h;cases h
 have nb:(aR b c.p).isSome=false→(aR b c.p).getD nd0=nd0:=fun h=>by cases hg:aR b c.p with
  | none=>rfl
  | some _=>rw [hg] at h;cases h
 rw [← h3] at h1 h2 ga na
 rw [← h4] at h1 h2 gb nb
 rw [← h1] at h2
 generalize (aR a c.p).isSome=u at *
 generalize (aR b c.p).isSome=v at *
 have key:∀ (u v:Bool),c.k=iQ u v c.o c.n→u=(!(c.k == 1))∧v=(!(c.k == 2)):=by
  intro u v h
  have hk:iQ u v c.o c.n≠0:=by rw [← h];exact h2
  rcases u with _|_ <;> rcases v with _|_
  ·exact absurd rfl hk
  ·rw [h];exact ⟨rfl,rfl⟩
  ·rw [h];exact ⟨rfl,rfl⟩
  ·rw [h]
   unfold iQ at hk ⊢
   simp only [if_true] at hk ⊢
   split at hk
   ·exact absurd rfl hk
   ·rename_i hq
    rw [if_neg hq]
    repeat' split
    all_goals exact ⟨rfl,rfl⟩
 obtain ⟨k1,k2⟩:=key u v h1
 have k0:(c.k == 0)=false:=by simpa using h2
 have kk:(iQ u v c.o c.n == c.k)=true:=by rw [← h1];simp
 have hp:c.p≠[]∧bV c.p=true:=by
  cases u
  ·cases v
   ·exact absurd h1 (by intro h;exact h2 (by rw [h];rfl))
   ·exact ⟨(gb rfl).1,(gb rfl).2.1⟩
  ·exact ⟨(ga rfl).1,(ga rfl).2.1⟩
 unfold zHj
 rw [← k1,← k2,k0,kk,hp.2]
 have e1:(c.k == 1) = !u:=by rw [k1];simp
 have e2:(c.k == 2) = !v:=by rw [k2];simp
 rw [e1,e2]
 have e3:(c.p == [])=false:=by simpa using hp.1
 rw [e3]
 have z0:rB nd0=true:=by decide
 cases u <;> cases v
 ·exact absurd (h1.trans rfl) h2
 ·rw [na rfl,z0,(gb rfl).2.2];simp
 ·rw [nb rfl,z0,(ga rfl).2.2];simp
 ·rw [(ga rfl).2.2,(gb rfl).2.2];simp
theorem PZ {a b:List It} (ha:OkT a) (hb:OkT b):dY none (eX a b)=true :=
 NK (JR ha hb) (zB4 a b) (fun p h=>by cases h)
end Go.Dm
end
section
namespace Go.Dm
open Go
theorem BI (a:List UInt8):∀ k,k≤a.length→Lib.lastIdx ⟨a.toArray⟩ 47 k=match cZ a k with
  | some j=>(j:Int)
  | none=>-1
 | 0,_=>rfl
 | k+1,hk=>by
  have hlt:k<a.length:=by omega
  have e1:(ByteArray.mk a.toArray).data[k]! = a[k]:=by
   show a.toArray[k]! = _
   simp [getElem!_pos,hlt]
  have e2:a.getD k 0=a[k]:=by simp [List.getD_eq_getElem?_getD,hlt]
  rw [Lib.lastIdx,cZ,e1,e2]
  by_cases h:((a[k].toNat:Int)=47)
  ·rw [if_pos h,if_pos (by simpa using h)]
  ·rw [if_neg h,if_neg (by simpa using h),BI a k (by omega)]
theorem mE (a:List UInt8):Lib.lastIndexByte ⟨a.toArray⟩ 47=match cZ a a.length with
  | some j=>(j:Int)
  | none=>-1:=by
 have:(ByteArray.mk a.toArray).size=a.length:=by simp [ByteArray.size]
 unfold Lib.lastIndexByte
 rw [this];exact BI a _ (Nat.le_refl _)
theorem uG {p:List UInt8} {j:Nat} (h:cZ p p.length=some j):j<p.length:=by
 rcases gG p p.length (Nat.le_refl _) with ⟨h1,_⟩|⟨i,hi,h1,_⟩
 ·rw [h1] at h;cases h
 ·rw [h1] at h;cases h;exact hi
def uW (p:List UInt8):List UInt8:=match cZ p p.length with
 | some j=>p.drop (j+1)
 | none=>p
theorem MD {p q:List UInt8} (hp:p≠[]):(p++[47]).isPrefixOf q=aO p q:=by
 rw [Bool.eq_iff_iff,List.isPrefixOf_iff_prefix,zAg hp]
 constructor
 ·rintro ⟨r,hr⟩;exact ⟨r,by rw [← hr];simp⟩
 ·rintro ⟨r,hr⟩;exact ⟨r,by rw [hr];simp⟩
def iS (d n:List UInt8):List UInt8:=if d == [] then n else d++47::n
theorem zFv (p:List UInt8) (hd:aS p=[]→47 ∉ p):iS (aS p) (uW p)=p:=by
 unfold iS uW
 rcases gG p p.length (Nat.le_refl _) with ⟨h1,h2⟩|⟨i,h,h1,h2,h3,h4⟩
 ·have:aS p=[]:=by unfold aS;rw [h1]
  rw [this,h1];rfl
 ·have hdi:aS p=p.take i:=by unfold aS;rw [h1]
  have hi:aS p≠[]:=by
   intro h0
   exact hd h0 (List.mem_iff_getElem.2 ⟨i,h,h3⟩)
  rw [if_neg (by simpa using hi),hdi,h1]
  have:=List.take_append_drop i p
  rw [List.drop_eq_getElem_cons h,h3] at this
  exact this
def EO (t:List It) (p:List UInt8):List (List UInt8):=(t.filter fun x=>aS x.p == p).map fun x=>uW x.p
def fX (t:List It) (p:List UInt8):List (List UInt8):=(EO t p).mergeSort fun x y=>decide (x≤y)
theorem cL {y:It}:∀ {t:List It},Srt t→y∈t→aR t y.p=some y.n
 | x::t,hs,hy=>by
  obtain ⟨h1,h2⟩:=List.pairwise_cons.1 hs
  rw [aR]
  rcases List.mem_cons.1 hy with rfl|hy
  ·rw [if_pos (by simp)]
  ·rw [if_neg (by rw [jP (h1 y hy)];decide)]
   exact cL h2 hy
theorem zDP (d:List UInt8) (b:UInt8) (n:List UInt8):bO d (d++b::n)=true:=by
 induction d with
 | nil=>rfl
 | cons x d ih=>rw [List.cons_append,qJ,ih];simp
theorem BP {t:List It} (h:OkT t) {k:Nat} {x:It} (hx:t[k]? = some x):aW (t.take k) (aS x.p)=true:=by
 by_cases hd:aS x.p=[]
 ·rw [hd];rfl
 obtain ⟨m,h1,h2⟩:=cO hd (h.par x (List.mem_of_getElem? hx))
 obtain ⟨y,hy,hyp,hyn⟩:=bZ h1
 obtain ⟨n,hn,_⟩:=qM hd
 have hlt:bO y.p x.p=true:=by
  have:=zDP (aS x.p) 47 n
  rw [← hn] at this
  rw [hyp];exact this
 obtain ⟨j,hj,hje⟩:=List.mem_iff_getElem.1 hy
 obtain ⟨hk,hxe⟩:=List.getElem?_eq_some_iff.1 hx
 have hjk:j<k:=by
  rcases Nat.lt_trichotomy j k with h'|h'|h'
  ·exact h'
  ·subst h'
   rw [← hje,← hxe,cM] at hlt;cases hlt
  ·have:=List.pairwise_iff_getElem.1 h.srt k j hk hj h'
   rw [hje,hxe,eE hlt] at this;cases this
 have hyt:y∈t.take k:=List.mem_iff_getElem.2 ⟨j,by simp;omega,by rw [List.getElem_take];exact hje⟩
 have hst:Srt (t.take k):=h.srt.sublist (List.take_sublist k t)
 have:=cL hst hyt
 rw [hyp] at this
 exact eR this (by rw [hyn];exact h2)
end Go.Dm
end
section
namespace Go.Dm
open Go
theorem AR {p:List UInt8} (hp:bV p=true) (h0:p≠[]) (hd:aS p=[]):47 ∉ p:=by
 rcases wC p with ⟨_,h⟩|⟨n,h,_⟩
 ·exact h
 ·rw [hd,List.nil_append] at h
  unfold bV at hp
  have:(p == [])=false:=by simpa using h0
  rw [this,Bool.false_or,Bool.and_eq_true] at hp
  rw [h] at hp
  have h1:=hp.1
  unfold oL at h1
  rw [show (47::n:List UInt8)=[]++47::n from rfl,rF,List.all_append] at h1
  simp [vS,aX] at h1
theorem OkT.joined {t:List It} (h:OkT t) {x:It} (hx:x∈t):iS (aS x.p) (uW x.p)=x.p :=
 zFv _ fun hd=>AR (h.its x hx).2.1 (h.its x hx).1 hd
theorem YC (t:List It) (d:List UInt8):(fX t d).length=(t.filter fun x=>aS x.p == d).length:=by
 unfold fX EO
 rw [List.length_mergeSort,List.length_map]
theorem eJ {α:Type} {g:α→Bool} {t:List α} {i:Nat} {x:α} (hx:t[i]? = some x):(t.take (i+1)).filter g=(t.take i).filter g++(if g x then [x] else []):=by
 rw [List.take_add_one,hx,List.filter_append]
 show _++[x].filter g=_
 rw [List.filter_cons];split <;> rfl
end Go.Dm
end
end
