/- Part 11 of the proof of roomKnown_card. No condition. -/
import Derived.Test.YtbpblnmhlhpebaaGreatDoorB08
set_option linter.all false
section
section
namespace Go.Dm
open Go
theorem zGZ:∀ a b:List UInt8,bL a b=decide (a<b)
 | a,[]=>by rw [EY];simp
 | [],y::b=>by show true=_;simp
 | x::a,y::b=>by
  rw [qK,zGZ a b]
  by_cases h1:x<y
  ·simp [h1,List.cons_lt_cons_iff]
  ·by_cases h2:x=y
   ·subst h2;simp [List.cons_lt_cons_iff]
   ·simp [h1,h2,List.cons_lt_cons_iff]
theorem zG3 {a b:List UInt8}:a≤b↔bL b a=false:=by rw [zGZ,decide_eq_false_iff_not,List.not_lt]
def leS (x y:List UInt8):Bool:=decide (x≤y)
theorem xF {a b:List UInt8}:leS a b = !bL b a:=by
 unfold leS
 cases h:bL b a
 ·simpa using zG3.2 h
 ·have:¬ a≤b:=fun h2=>by rw [zG3.1 h2] at h;cases h
  simpa using this
theorem zCz {a b c:List UInt8} (h1:leS a b=true) (h2:leS b c=true):leS a c=true:=by
 rw [xF] at *
 cases hc:bL c a
 ·rfl
 ·have h1':bL b a=false:=by simpa using h1
  have h2':bL c b=false:=by simpa using h2
  cases hb:bL a b
  ·have:=dX hb h1';subst this;rw [hc] at h2';cases h2'
  ·have:=cF hc hb;rw [this] at h2';cases h2'
theorem zBv {a b:List UInt8}:(leS a b || leS b a)=true:=by
 rw [xF,xF]
 cases h:bL b a
 ·rfl
 ·rw [eI h];rfl
theorem uI (l:List (List UInt8)):(l.mergeSort fun x y=>decide (x≤y)).Pairwise fun x y=>leS x y=true :=
 List.pairwise_mergeSort (le:=leS) (fun a b c=>zCz) (fun a b=>zBv) l
theorem kM {l:List (List UInt8)} (hl:l.Pairwise fun x y=>leS x y=true):∀ m,m≤l.length→(Lib.compactUpTo l.toArray m).Pairwise (fun x y=>bL x y=true)∧∀ x∈Lib.compactUpTo l.toArray m,∃ (j:Nat) (_:j<m) (h:j<l.length),x=l[j]
 | 0,_=>by simp [Lib.compactUpTo]
 | m+1,hm=>by
  obtain ⟨h1,h2⟩:=kM hl m (by omega)
  rw [Lib.compactUpTo_succ]
  have hg:l.toArray[m]! = l[m]:=by simp [getElem!_pos,show m<l.length by omega]
  split
  ·rename_i hk
   rw [hg]
   refine ⟨List.pairwise_append.2 ⟨h1,by simp,fun x hx y hy=>?_⟩,fun x hx=>?_⟩
   ·obtain ⟨j,hj,hjl,rfl⟩:=h2 x hx
    have:y=l[m]:=by simpa using hy
    subst this
    have hm1:m-1<l.length:=by omega
    have hg1:l.toArray[m-1]! = l[m-1]:=by simp [getElem!_pos,hm1]
    unfold Lib.keeps at hk
    rw [hg,hg1] at hk
    simp only [decide_eq_true_eq] at hk
    have hne:l[m]≠l[m-1]:=by rcases hk with hk|hk;omega;exact hk
    have a1:leS l[m-1] l[m]=true:=List.pairwise_iff_getElem.1 hl _ _ hm1 (by omega) (by omega)
    have a2:bL l[m-1] l[m]=true:=by
     cases h:bL l[m-1] l[m]
     ·rw [xF] at a1
      exact absurd (dX h (by simpa using a1)).symm hne
     ·rfl
    rcases Nat.lt_or_ge j (m-1) with h|h
    ·have a3:leS l[j] l[m-1]=true:=List.pairwise_iff_getElem.1 hl _ _ hjl hm1 h
     cases h5:bL l[j] l[m-1]
     ·rw [xF] at a3
      rw [dX h5 (by simpa using a3)];exact a2
     ·exact cF h5 a2
    ·have:j=m-1:=by omega
     subst this;exact a2
   ·rcases List.mem_append.1 hx with hx|hx
    ·obtain ⟨j,hj,hjl,he⟩:=h2 x hx
     exact ⟨j,by omega,hjl,he⟩
    ·have:x=l[m]:=by simpa using hx
     exact ⟨m,by omega,by omega,this⟩
  ·rw [List.append_nil]
   exact ⟨h1,fun x hx=>by obtain ⟨j,hj,hjl,he⟩:=h2 x hx;exact ⟨j,by omega,hjl,he⟩⟩
theorem jY (l:List (List UInt8)):(Lib.compact (l.mergeSort fun x y=>decide (x≤y))).Pairwise fun x y=>bL x y=true :=
 (kM (uI l) _ (Nat.le_refl _)).1
theorem GB {a b:List It} {p:List UInt8} {x:Ch} (h:x∈chF a b p):x=⟨p,oY (aQ a p).isSome (aQ b p).isSome ((aQ a p).getD nd0) ((aQ b p).getD nd0),(aQ a p).getD nd0,(aQ b p).getD nd0⟩∧oY (aQ a p).isSome (aQ b p).isSome ((aQ a p).getD nd0) ((aQ b p).getD nd0)≠0:=by
 unfold chF at h
 split at h
 ·rename_i hb;exact ⟨by simpa using h,by simpa using hb⟩
 ·simp at h
theorem rS {a b:List It} {x:Ch}:∀ {l:List (List UInt8)},x∈QS a b l→x.p∈l∧x∈chF a b x.p
 | [],h=>by simp [QS] at h
 | p::r,h=>by
  rcases List.mem_append.1 h with h|h
  ·have:=(GB h).1
   have hp:x.p=p:=by rw [this]
   rw [hp];exact ⟨List.mem_cons_self,h⟩
  ·obtain ⟨h1,h2⟩:=rS h
   exact ⟨List.mem_cons_of_mem _ h1,h2⟩
theorem SB {a b:List It}:∀ {l:List (List UInt8)},l.Pairwise (fun x y=>bL x y=true)→(QS a b l).Pairwise fun x y=>bL x.p y.p=true
 | [],_=>by simp [QS]
 | p::r,h=>by
  obtain ⟨h1,h2⟩:=List.pairwise_cons.1 h
  refine List.pairwise_append.2 ⟨?_,SB h2,fun x hx y hy=>?_⟩
  ·unfold chF;split <;> simp
  ·rw [(GB hx).1];exact h1 _ (rS hy).1
end Go.Dm
end
section
namespace Go.Dm
open Go
theorem pG {l:List (List UInt8)}:∀ m,m≤l.length→∀ j (hj:j<l.length),j<m→l[j]∈Lib.compactUpTo l.toArray m
 | 0,_,_,_,h=>by omega
 | m+1,hm,j,hj,h=>by
  rw [Lib.compactUpTo_succ]
  have hg:l.toArray[m]! = l[m]:=by simp [getElem!_pos,show m<l.length by omega]
  by_cases hjm:j<m
  ·exact List.mem_append_left _ (pG m (by omega) j hj hjm)
  ·have:j=m:=by omega
   subst this
   cases hk:Lib.keeps l.toArray j
   ·have hg1:l.toArray[j-1]! = l[j-1]:=by simp [getElem!_pos,show j-1<l.length by omega]
    unfold Lib.keeps at hk
    rw [hg,hg1] at hk
    simp only [decide_eq_false_iff_not,not_or,Decidable.not_not] at hk
    rw [hk.2]
    exact List.mem_append_left _ (pG j (by omega) (j-1) (by omega) (by omega))
   ·rw [hg];exact List.mem_append_right _ (by simp)
theorem qF {l:List (List UInt8)} {p:List UInt8}:p∈Lib.compact (l.mergeSort fun x y=>decide (x≤y))↔p∈l:=by
 have hp:∀ q,q∈(l.mergeSort fun x y=>decide (x≤y))↔q∈l:=fun q=>List.mem_mergeSort
 constructor
 ·intro h
  obtain ⟨j,_,hj,rfl⟩:=(kM (uI l) _ (Nat.le_refl _)).2 p h
  exact (hp _).1 (List.getElem_mem hj)
 ·intro h
  obtain ⟨j,hj,rfl⟩:=List.mem_iff_getElem.1 ((hp p).2 h)
  exact pG _ (Nat.le_refl _) j hj hj
theorem lR {α:Type} {lt:α→α→Bool} (hirr:∀ a,lt a a=false) (hasm:∀ {a b},lt a b=true→lt b a=false):∀ {a b:List α},a.Pairwise (fun x y=>lt x y=true)→b.Pairwise (fun x y=>lt x y=true)→(∀ x,x∈a↔x∈b)→a=b
 | [],[],_,_,_=>rfl
 | [],y::b,_,_,h=>by have:=(h y).2 List.mem_cons_self;simp at this
 | x::a,[],_,_,h=>by have:=(h x).1 List.mem_cons_self;simp at this
 | x::a,y::b,ha,hb,h=>by
  obtain ⟨ha1,ha2⟩:=List.pairwise_cons.1 ha
  obtain ⟨hb1,hb2⟩:=List.pairwise_cons.1 hb
  have hxy:x=y:=by
   rcases List.mem_cons.1 ((h x).1 List.mem_cons_self) with e|e
   ·exact e
   ·rcases List.mem_cons.1 ((h y).2 List.mem_cons_self) with e2|e2
    ·exact e2.symm
    ·have h1:=hasm (hb1 x e)
     rw [ha1 y e2] at h1;cases h1
  subst hxy
  rw [lR hirr hasm ha2 hb2 fun z=>?_]
  constructor
  ·intro hz
   rcases List.mem_cons.1 ((h z).1 (List.mem_cons_of_mem _ hz)) with e|e
   ·subst e;have:=ha1 z hz;rw [hirr] at this;cases this
   ·exact e
  ·intro hz
   rcases List.mem_cons.1 ((h z).2 (List.mem_cons_of_mem _ hz)) with e|e
   ·subst e;have:=hb1 z hz;rw [hirr] at this;cases this
   ·exact e
def uL (a b:List It):List (List UInt8):=Lib.compact (((a++b).map It.p).mergeSort fun x y=>decide (x≤y))
def dO (a b:List It):List Ch:=QS a b (uL a b)
theorem tS {a b:List It} {p:List UInt8}:p∈uL a b↔(∃ x∈a,x.p=p)∨∃ x∈b,x.p=p:=by
 unfold uL
 rw [qF]
 simp only [List.mem_map,List.mem_append]
 constructor
 ·rintro ⟨x,h|h,rfl⟩
  ·exact .inl ⟨x,h,rfl⟩
  ·exact .inr ⟨x,h,rfl⟩
 ·rintro (⟨x,h,rfl⟩|⟨x,h,rfl⟩)
  ·exact ⟨x,.inl h,rfl⟩
  ·exact ⟨x,.inr h,rfl⟩
theorem PF {x:Nd} (h:x.wf):rC x x=true:=by rw [qT h h];exact xJ x
theorem SX {a b:List It}:∀ l:List (List UInt8),(QS a b l).length≤l.length
 | []=>by simp [QS]
 | p::r=>by
  have:=SX (a:=a) (b:=b) r
  have h2:(chF a b p).length≤1:=by unfold chF;split <;> simp
  rw [QS,List.length_append,List.length_cons];omega
theorem CI (l:List (List UInt8)):(Lib.compact l).length≤l.length:=by
 unfold Lib.compact Lib.compactUpTo
 rw [List.length_map]
 exact Nat.le_trans (List.length_filter_le ..) (by simp)
theorem xR (a b:List It):(dO a b).length≤a.length+b.length:=by
 unfold dO uL
 refine Nat.le_trans (SX _) (Nat.le_trans (CI _) ?_)
 rw [List.length_mergeSort,List.length_map,List.length_append];exact Nat.le_refl _
theorem zAR {a b:List It} {x:Ch} (h:x∈dO a b):x.k=oY (aQ a x.p).isSome (aQ b x.p).isSome ((aQ a x.p).getD nd0) ((aQ b x.p).getD nd0)∧oY (aQ a x.p).isSome (aQ b x.p).isSome ((aQ a x.p).getD nd0) ((aQ b x.p).getD nd0)≠0:=by
 obtain ⟨h1,h2⟩:=GB (rS h).2
 exact ⟨congrArg Ch.k h1,h2⟩
theorem yB {a b:List It} {x:Ch} (h:x∈dO a b):x.o=(aQ a x.p).getD nd0∧x.n=(aQ b x.p).getD nd0:=by
 obtain ⟨h1,_⟩:=GB (rS h).2
 exact ⟨congrArg Ch.o h1,congrArg Ch.n h1⟩
theorem zDU (a b:List It):(dO a b).Pairwise fun x y=>bL x.p y.p=true:=SB (jY _)
theorem oP {x:It}:∀ {t:List It},x∈t→(aQ t x.p).isSome=true
 | y::r,h=>by
  rw [aQ]
  split
  ·rfl
  ·rename_i hy
   rcases List.mem_cons.1 h with rfl|h
   ·simp at hy
   ·exact oP h
end Go.Dm
end
section
namespace Go.Dm
open Go
def zEq (s:List UInt8):List (List UInt8)→List (List UInt8)
 | []=>[s]
 | x::l=>if bL x s then x::zEq s l else if x == s then x::l else s::x::l
theorem DO {s q:List UInt8}:∀ {l:List (List UInt8)},q∈zEq s l↔q=s∨q∈l
 | []=>by simp [zEq]
 | x::l=>by
  rw [zEq]
  split
  ·rw [List.mem_cons,DO,List.mem_cons]
   constructor
   ·rintro (h|h|h)
    ·exact .inr (.inl h)
    ·exact .inl h
    ·exact .inr (.inr h)
   ·rintro (h|h|h)
    ·exact .inr (.inl h)
    ·exact .inl h
    ·exact .inr (.inr h)
  ·split
   ·rename_i h
    have h:=eq_of_beq h
    subst h
    simp
   ·simp
theorem TJ {s:List UInt8}:∀ {l:List (List UInt8)},l.Pairwise (fun x y=>bL x y=true)→(zEq s l).Pairwise fun x y=>bL x y=true
 | [],_=>by simp [zEq]
 | x::l,h=>by
  obtain ⟨h1,h2⟩:=List.pairwise_cons.1 h
  rw [zEq]
  split
  ·rename_i hb
   refine List.pairwise_cons.2 ⟨fun y hy=>?_,TJ h2⟩
   rcases DO.1 hy with rfl|hy
   ·exact hb
   ·exact h1 y hy
  ·rename_i hb
   split
   ·exact h
   ·rename_i hn
    have hs:bL s x=true:=by
     cases hc:bL s x
     ·have:=dX (by simpa using hb) hc
      subst this;simp at hn
     ·rfl
    refine List.pairwise_cons.2 ⟨fun y hy=>?_,h⟩
    rcases List.mem_cons.1 hy with rfl|hy
    ·exact hs
    ·exact cF hs (h1 y hy)
def mQ (o:List (List UInt8)) (t:List It):List (List UInt8):=t.foldl (fun o x=>zEq x.p o) o
theorem iW:∀ {t:List It} {o:List (List UInt8)},o.Pairwise (fun x y=>bL x y=true)→(mQ o t).Pairwise fun x y=>bL x y=true
 | [],_,h=>h
 | _::t,_,h=>iW (t:=t) (TJ h)
theorem iV {q:List UInt8}:∀ {t:List It} {o:List (List UInt8)},q∈mQ o t↔q∈o∨∃ x∈t,x.p=q
 | [],o=>by simp [mQ]
 | x::t,o=>by
  show q∈mQ (zEq x.p o) t↔_
  rw [iV,DO]
  constructor
  ·rintro ((h|h)|⟨y,hy,h⟩)
   ·exact .inr ⟨x,List.mem_cons_self,h.symm⟩
   ·exact .inl h
   ·exact .inr ⟨y,List.mem_cons_of_mem _ hy,h⟩
  ·rintro (h|⟨y,hy,h⟩)
   ·exact .inl (.inr h)
   ·rcases List.mem_cons.1 hy with rfl|hy
    ·exact .inl (.inl h.symm)
    ·exact .inr ⟨y,hy,h⟩
def TW (a b:List It):List (List UInt8):=mQ (mQ [] a) b
theorem zAN (a b:List It):TW a b=uL a b :=
 lR (lt:=bL) bY (fun h=>eI h) (iW (iW (by simp))) (jY _) fun p=>by
  show p∈TW a b↔p∈uL a b
  rw [tS];unfold TW;rw [iV,iV];simp
def zKn (x y:Nd) (p q:Bool):Int:=if !p then 1 else if !q then 2 else if x.k != y.k then 4 else if !(x.d == y.d) then 3 else 5
def zIN (a b:List It) (p:List UInt8):List Ch :=
 if (aQ a p).isSome && (aQ b p).isSome && jF ((aQ a p).getD nd0) ((aQ b p).getD nd0) then [] else [⟨p,zKn ((aQ a p).getD nd0) ((aQ b p).getD nd0) (aQ a p).isSome (aQ b p).isSome,(aQ a p).getD nd0,(aQ b p).getD nd0⟩]
def TV (a b:List It):List (List UInt8)→List Ch
 | []=>[]
 | p::r=>zIN a b p++TV a b r
def zCh (a b:List It):List Ch:=TV a b (TW a b)
theorem zGt {a b:List It} (ha:OkT a) (hb:OkT b) {p:List UInt8} (hp:(aQ a p).isSome=true∨(aQ b p).isSome=true):zIN a b p=chF a b p:=by
 have he:=qT (ha.gett p) (hb.gett p)
 unfold zIN chF oY zKn
 rw [he]
 generalize (aQ a p).isSome=u at *
 generalize (aQ b p).isSome=v at *
 generalize (aQ a p).getD nd0=x at *
 generalize (aQ b p).getD nd0=y at *
 cases u <;> cases v
 ·simp at hp
 ·rfl
 ·rfl
 ·simp only [Bool.not_true,Bool.true_and,if_true,Bool.false_eq_true,if_false]
  cases jF x y
  ·simp only [Bool.false_eq_true,if_false]
   repeat' split
   all_goals first|rfl|(rename_i h;exact absurd h (by decide))|(rename_i h _;exact absurd h (by decide))|(rename_i h _ _;exact absurd h (by decide))
  ·rfl
theorem GW {a b:List It} (ha:OkT a) (hb:OkT b):∀ {l:List (List UInt8)},(∀ p∈l,(aQ a p).isSome=true∨(aQ b p).isSome=true)→TV a b l=QS a b l
 | [],_=>rfl
 | p::r,h=>by rw [TV,QS,zGt ha hb (h p List.mem_cons_self),GW ha hb fun q hq=>h q (List.mem_cons_of_mem _ hq)]
theorem HD {a b:List It} {p:List UInt8} (h:p∈uL a b):(aQ a p).isSome=true∨(aQ b p).isSome=true:=by
 rcases tS.1 h with ⟨x,hx,rfl⟩|⟨x,hx,rfl⟩
 ·exact .inl (oP hx)
 ·exact .inr (oP hx)
theorem kZ {a b:List It} (ha:OkT a) (hb:OkT b):zCh a b=dO a b:=by
 unfold zCh dO
 rw [zAN,GW ha hb fun p hp=>HD hp]
end Go.Dm
end
section
namespace Go.Dm
open Go
theorem JV (x k:Nat):(vC x k).toNat=x / 2 ^ k % 256:=by
 have h:IntKind.u8.wrap ((x:Int).fdiv (2 ^ k))=((x / 2 ^ k % 256:Nat):Int):=by
  have h2:(x:Int).fdiv (2 ^ k)=((x / 2 ^ k:Nat):Int):=by
   rw [Int.fdiv_eq_ediv_of_nonneg _ (by exact Int.le_of_lt (Int.pow_pos (by decide)))]
   simp
  rw [h2]
  simp only [IntKind.wrap,IntKind.bits,IntKind.signed,Bool.false_and]
  split <;> rename_i h
  ·simp at h
  ·simp
 unfold vC
 rw [h,Int.toNat_natCast]
 show _ % 256=_
 exact Nat.mod_eq_of_lt (Nat.mod_lt _ (by decide))
theorem WL {x y:Nat} (hx:x<18446744073709551616) (hy:y<18446744073709551616) (h:KU x=KU y):x=y:=by
 simp only [KU,List.cons.injEq,and_true] at h
 obtain ⟨h7,h6,h5,h4,h3,h2,h1,h0⟩:=h
 have e:∀ k,vC x k=vC y k→x / 2 ^ k % 256=y / 2 ^ k % 256:=fun k h=>by rw [← JV,← JV,h]
 have e7:=e _ h7;have e6:=e _ h6;have e5:=e _ h5;have e4:=e _ h4;have e3:=e _ h3;have e2:=e _ h2;have e1:=e _ h1;have e0:=e _ h0
 simp only [show (2:Nat) ^ 56=72057594037927936 from rfl,show (2:Nat) ^ 48=281474976710656 from rfl,show (2:Nat) ^ 40=1099511627776 from rfl,show (2:Nat) ^ 32=4294967296 from rfl,show (2:Nat) ^ 24=16777216 from rfl,show (2:Nat) ^ 16=65536 from rfl,show (2:Nat) ^ 8=256 from rfl,show (2:Nat) ^ 0=1 from rfl,Nat.div_one] at e7 e6 e5 e4 e3 e2 e1 e0
 omega
theorem HM {x:Nat} (hx:x<18446744073709551616):CA x=(dD x == x):=by
 unfold CA
 rw [Bool.eq_iff_iff,beq_iff_eq,beq_iff_eq]
 exact ⟨fun h=>(WL hx (rN hx) h).symm,fun h=>by rw [h]⟩
def YZ (n:Nd):Bool:=if n.k == 1 then decide ((n.d.length:Int)≤2000) else if n.k == 2 then (n.d.length:Int) == 0 else if n.k == 3 then (decide ((1:Int)≤n.d.length) && decide ((n.d.length:Int)≤120)) && n.d.all fun b=>!(b == 0) else false
theorem zEB (b:UInt8):((b.toNat:Int) == 0)=(b == 0):=by
 rw [Bool.eq_iff_iff];simp only [beq_iff_eq]
 exact ⟨fun h=>UInt8.toNat_inj.1 (by have:(0:UInt8).toNat=0:=rfl;omega),fun h=>by rw [h];rfl⟩
theorem WT (d:List UInt8):nQ d=((decide ((1:Int)≤d.length) && decide ((d.length:Int)≤120)) && d.all fun b=>!(b == 0)):=by
 unfold nQ
 simp only [zEB]
 rw [Bool.and_comm]
def kV (n:Nd):Bool:=YZ n && decide (0≤n.m) && decide (n.m≤4095) && (dD n.t == n.t)
theorem iP {n:Nd} (h:n.wf):kV n=aT n:=by
 unfold kV aT YZ
 rw [HM h]
 simp only [WT]
 have e1:decide (0≤n.m) = !decide (n.m<0):=by rw [Bool.eq_iff_iff];simp
 have e2:decide (n.m≤4095) = !decide (4095<n.m):=by rw [Bool.eq_iff_iff];simp
 rw [e1,e2]
 generalize (if n.k == 1 then decide ((n.d.length:Int)≤2000) else if n.k == 2 then (n.d.length:Int) == 0 else if n.k == 3 then (decide ((1:Int)≤n.d.length) && decide ((n.d.length:Int)≤120)) && n.d.all (fun b=>!(b == 0)) else false)=q
 cases q <;> cases decide (n.m<0) <;> cases decide (4095<n.m) <;> cases (dD n.t == n.t) <;> rfl
def sC (n:Nd):Bool:=n.k == 0 && n.m == 0 && n.t == 0 && n.d.length == 0
def zHw (c:Ch):Bool:=!(c.p == []) && cG c.p && (sC c.o || !(c.k == 1)) && (sC c.n || !(c.k == 2)) && (c.k == 1 || aT c.o) && (c.k == 2 || aT c.n) && !(c.k == 0) && (oY (!(c.k == 1)) (!(c.k == 2)) c.o c.n == c.k)
def yU:Option (List UInt8)→List UInt8→Bool
 | none,_=>true
 | some q,p=>bL q p
def fM:Option (List UInt8)→List Ch→Bool
 | _,[]=>true
 | q,c::l=>zHw c && yU q c.p && fM (some c.p) l
theorem MD {l:List Ch} (hm:∀ c∈l,zHw c=true):∀ {q:Option (List UInt8)},l.Pairwise (fun x y=>bL x.p y.p=true)→(∀ p,q=some p→∀ c∈l,bL p c.p=true)→fM q l=true:=by
 induction l with
 | nil=>intros;rfl
 | cons c l ih =>
  intro q hs hq
  obtain ⟨h1,h2⟩:=List.pairwise_cons.1 hs
  rw [fM,hm c List.mem_cons_self,ih (fun d hd=>hm d (List.mem_cons_of_mem _ hd)) h2 (fun p hp d hd=>by cases hp;exact h1 d hd)]
  cases q with
  | none=>rfl
  | some p=>simp [yU,hq p rfl c List.mem_cons_self]
theorem OkT.getok {t:List It} (h:OkT t) {p:List UInt8} (hs:(aQ t p).isSome=true):p≠[]∧cG p=true∧aT ((aQ t p).getD nd0)=true:=by
 cases hg:aQ t p with
 | none=>rw [hg] at hs;cases hs
 | some n =>
  obtain ⟨x,hx,rfl,rfl⟩:=cH hg
  have:=h.its x hx
  exact ⟨this.1,this.2.1,this.2.2.1⟩
theorem zCO {a b:List It} (ha:OkT a) (hb:OkT b):∀ c∈dO a b,zHw c=true:=by
 intro c hc
 obtain ⟨h1,h2⟩:=zAR hc
 obtain ⟨h3,h4⟩:=yB hc
 have ga:=ha.getok (p:=c.p)
 have gb:=hb.getok (p:=c.p)
 have na:(aQ a c.p).isSome=false→(aQ a c.p).getD nd0=nd0:=fun h=>by cases hg:aQ a c.p with
  | none=>rfl
  | some _=>rw [hg] at h;cases h
 have nb:(aQ b c.p).isSome=false→(aQ b c.p).getD nd0=nd0:=fun h=>by cases hg:aQ b c.p with
  | none=>rfl
  | some _=>rw [hg] at h;cases h
 rw [← h3] at h1 h2 ga na
 rw [← h4] at h1 h2 gb nb
 rw [← h1] at h2
 generalize (aQ a c.p).isSome=u at *
 generalize (aQ b c.p).isSome=v at *
 have key:∀ (u v:Bool),c.k=oY u v c.o c.n→u=(!(c.k == 1))∧v=(!(c.k == 2)):=by
  intro u v h
  have hk:oY u v c.o c.n≠0:=by rw [← h];exact h2
  rcases u with _|_ <;> rcases v with _|_
  ·exact absurd rfl hk
  ·rw [h];exact ⟨rfl,rfl⟩
  ·rw [h];exact ⟨rfl,rfl⟩
  ·rw [h]
   unfold oY at hk ⊢
   simp only [if_true] at hk ⊢
   split at hk
   ·exact absurd rfl hk
   ·rename_i hq
    rw [if_neg hq]
    repeat' split
    all_goals exact ⟨rfl,rfl⟩
 obtain ⟨k1,k2⟩:=key u v h1
 have k0:(c.k == 0)=false:=by simpa using h2
 have kk:(oY u v c.o c.n == c.k)=true:=by rw [← h1];simp
 have hp:c.p≠[]∧cG c.p=true:=by
  cases u
  ·cases v
   ·exact absurd h1 (by intro h;exact h2 (by rw [h];rfl))
   ·exact ⟨(gb rfl).1,(gb rfl).2.1⟩
  ·exact ⟨(ga rfl).1,(ga rfl).2.1⟩
 unfold zHw
 rw [← k1,← k2,k0,kk,hp.2]
 have e1:(c.k == 1) = !u:=by rw [k1];simp
 have e2:(c.k == 2) = !v:=by rw [k2];simp
 rw [e1,e2]
 have e3:(c.p == [])=false:=by simpa using hp.1
 rw [e3]
 have z0:sC nd0=true:=by decide
 cases u <;> cases v
 ·exact absurd (h1.trans rfl) h2
 ·rw [na rfl,z0,(gb rfl).2.2];simp
 ·rw [nb rfl,z0,(ga rfl).2.2];simp
 ·rw [(ga rfl).2.2,(gb rfl).2.2];simp
theorem NO {a b:List It} (ha:OkT a) (hb:OkT b):fM none (dO a b)=true :=
 MD (zCO ha hb) (zDU a b) (fun p h=>by cases h)
end Go.Dm
end
section
namespace Go.Dm
open Go
theorem CQ (a:List UInt8):∀ k,k≤a.length→Lib.lastIdx ⟨a.toArray⟩ 47 k=match eG a k with
  | some j=>(j:Int)
  | none=>-1
 | 0,_=>rfl
 | k+1,hk=>by
  have hlt:k<a.length:=by omega
  have e1:(ByteArray.mk a.toArray).data[k]! = a[k]:=by
   show a.toArray[k]! = _
   simp [getElem!_pos,hlt]
  have e2:a.getD k 0=a[k]:=by simp [List.getD_eq_getElem?_getD,hlt]
  rw [Lib.lastIdx,eG,e1,e2]
  by_cases h:((a[k].toNat:Int)=47)
  ·rw [if_pos h,if_pos (by simpa using h)]
  ·rw [if_neg h,if_neg (by simpa using h),CQ a k (by omega)]
theorem mP (a:List UInt8):Lib.lastIndexByte ⟨a.toArray⟩ 47=match eG a a.length with
  | some j=>(j:Int)
  | none=>-1:=by
 have:(ByteArray.mk a.toArray).size=a.length:=by simp [ByteArray.size]
 unfold Lib.lastIndexByte
 rw [this];exact CQ a _ (Nat.le_refl _)
theorem uB {p:List UInt8} {j:Nat} (h:eG p p.length=some j):j<p.length:=by
 rcases hD p p.length (Nat.le_refl _) with ⟨h1,_⟩|⟨i,hi,h1,_⟩
 ·rw [h1] at h;cases h
 ·rw [h1] at h;cases h;exact hi
def uX (p:List UInt8):List UInt8:=match eG p p.length with
 | some j=>p.drop (j+1)
 | none=>p
theorem HK {p q:List UInt8} (hp:p≠[]):(p++[47]).isPrefixOf q=aP p q:=by
 rw [Bool.eq_iff_iff,List.isPrefixOf_iff_prefix,zB8 hp]
 constructor
 ·rintro ⟨r,hr⟩;exact ⟨r,by rw [← hr];simp⟩
 ·rintro ⟨r,hr⟩;exact ⟨r,by rw [hr];simp⟩
def jL (d n:List UInt8):List UInt8:=if d == [] then n else d++47::n
theorem zD9 (p:List UInt8) (hd:aR p=[]→47 ∉ p):jL (aR p) (uX p)=p:=by
 unfold jL uX
 rcases hD p p.length (Nat.le_refl _) with ⟨h1,h2⟩|⟨i,h,h1,h2,h3,h4⟩
 ·have:aR p=[]:=by unfold aR;rw [h1]
  rw [this,h1];rfl
 ·have hdi:aR p=p.take i:=by unfold aR;rw [h1]
  have hi:aR p≠[]:=by
   intro h0
   exact hd h0 (List.mem_iff_getElem.2 ⟨i,h,h3⟩)
  rw [if_neg (by simpa using hi),hdi,h1]
  have:=List.take_append_drop i p
  rw [List.drop_eq_getElem_cons h,h3] at this
  exact this
def EU (t:List It) (p:List UInt8):List (List UInt8):=(t.filter fun x=>aR x.p == p).map fun x=>uX x.p
def gP (t:List It) (p:List UInt8):List (List UInt8):=(EU t p).mergeSort fun x y=>decide (x≤y)
theorem cW {y:It}:∀ {t:List It},Srt t→y∈t→aQ t y.p=some y.n
 | x::t,hs,hy=>by
  obtain ⟨h1,h2⟩:=List.pairwise_cons.1 hs
  rw [aQ]
  rcases List.mem_cons.1 hy with rfl|hy
  ·rw [if_pos (by simp)]
  ·rw [if_neg (by rw [mM (h1 y hy)];decide)]
   exact cW h2 hy
theorem zCa (d:List UInt8) (b:UInt8) (n:List UInt8):bL d (d++b::n)=true:=by
 induction d with
 | nil=>rfl
 | cons x d ih=>rw [List.cons_append,qK,ih];simp
theorem CD {t:List It} (h:OkT t) {k:Nat} {x:It} (hx:t[k]? = some x):aY (t.take k) (aR x.p)=true:=by
 by_cases hd:aR x.p=[]
 ·rw [hd];rfl
 obtain ⟨m,h1,h2⟩:=cN hd (h.par x (List.mem_of_getElem? hx))
 obtain ⟨y,hy,hyp,hyn⟩:=cH h1
 obtain ⟨n,hn,_⟩:=qO hd
 have hlt:bL y.p x.p=true:=by
  have:=zCa (aR x.p) 47 n
  rw [← hn] at this
  rw [hyp];exact this
 obtain ⟨j,hj,hje⟩:=List.mem_iff_getElem.1 hy
 obtain ⟨hk,hxe⟩:=List.getElem?_eq_some_iff.1 hx
 have hjk:j<k:=by
  rcases Nat.lt_trichotomy j k with h'|h'|h'
  ·exact h'
  ·subst h'
   rw [← hje,← hxe,bY] at hlt;cases hlt
  ·have:=List.pairwise_iff_getElem.1 h.srt k j hk hj h'
   rw [hje,hxe,eI hlt] at this;cases this
 have hyt:y∈t.take k:=List.mem_iff_getElem.2 ⟨j,by simp;omega,by rw [List.getElem_take];exact hje⟩
 have hst:Srt (t.take k):=h.srt.sublist (List.take_sublist k t)
 have:=cW hst hyt
 rw [hyp] at this
 exact fD this (by rw [hyn];exact h2)
end Go.Dm
end
section
namespace Go.Dm
open Go
theorem zZ {p:List UInt8} (hp:cG p=true) (h0:p≠[]) (hd:aR p=[]):47 ∉ p:=by
 rcases vI p with ⟨_,h⟩|⟨n,h,_⟩
 ·exact h
 ·rw [hd,List.nil_append] at h
  unfold cG at hp
  have:(p == [])=false:=by simpa using h0
  rw [this,Bool.false_or,Bool.and_eq_true] at hp
  rw [h] at hp
  have h1:=hp.1
  unfold GO at h1
  rw [show (47::n:List UInt8)=[]++47::n from rfl,rQ,List.all_append] at h1
  simp [AN,bF] at h1
theorem OkT.joined {t:List It} (h:OkT t) {x:It} (hx:x∈t):jL (aR x.p) (uX x.p)=x.p :=
 zD9 _ fun hd=>zZ (h.its x hx).2.1 (h.its x hx).1 hd
theorem YH (t:List It) (d:List UInt8):(gP t d).length=(t.filter fun x=>aR x.p == d).length:=by
 unfold gP EU
 rw [List.length_mergeSort,List.length_map]
theorem eV {α:Type} {g:α→Bool} {t:List α} {i:Nat} {x:α} (hx:t[i]? = some x):(t.take (i+1)).filter g=(t.take i).filter g++(if g x then [x] else []):=by
 rw [List.take_add_one,hx,List.filter_append]
 show _++[x].filter g=_
 rw [List.filter_cons];split <;> rfl
end Go.Dm
end
end
section
section
namespace Go.Dm
open Go
def zLO (b:List UInt8):Nat:=b.foldl (fun v c=>v*256+c.toNat) 0
structure Rd where
 b:List UInt8
 l:Bool
def Rd.raw (r:Rd) (n:Nat):List UInt8 × Rd:=if r.l || decide (r.b.length<n) then ([],⟨[],true⟩) else (r.b.take n,⟨r.b.drop n,false⟩)
def Rd.num (r:Rd) (n:Nat):Nat × Rd:=(zLO (r.raw n).1,(r.raw n).2)
def Rd.text (r:Rd):List UInt8 × Rd:=(r.num 2).2.raw (r.num 2).1
def Rd.node (r:Rd):Nd × Rd :=
 let k:=r.num 1
 let m:=k.2.num 2
 let t:=m.2.num 8
 let d:=t.2.text
 (⟨k.1,m.1,t.1,d.1⟩,d.2)
def Rd.items:Nat→Rd→List It × Rd
 | 0,r=>([],r)
 | n+1,r =>
  if r.l then ([],r) else
   let p:=r.text
   let x:=p.2.node
   let y:=Rd.items n x.2
   (⟨p.1,x.1⟩::y.1,y.2)
end Go.Dm
end
section
namespace Go.Dm
open Go
def pC (pre:List It) (p:List UInt8):Bool:=match pre.getLast? with
 | some y=>bL y.p p
 | none=>true
def lG (pre:List It) (x:It):Bool:=!(x.p == []) && (cG x.p && (pC pre x.p && (aT x.n && aY pre (aR x.p))))
def eW:List It→List It→Bool
 | _,[]=>true
 | pre,x::r=>lG pre x && eW (pre++[x]) r
def mO (t:List It):Bool:=eW [] t && decide ((t.length:Int)≤120)
theorem getLast_take {t:List It} {k:Nat} (hk:0<k) (hl:k≤t.length):(t.take k).getLast? = t[k-1]? := by
 rw [List.getLast?_eq_getElem?,List.length_take,Nat.min_eq_left hl,List.getElem?_take,if_pos (by omega)]
theorem RR {t:List It} {x:It} (h:Srt t) (ha:pC t x.p=true):Srt (t++[x]):=by
 refine List.pairwise_append.2 ⟨h,by simp,fun y hy z hz=>?_⟩
 have:z=x:=by simpa using hz
 subst this
 unfold pC at ha
 cases hl:t.getLast? with
 | none =>
  have:t=[]:=by simpa using hl
  subst this;cases hy
 | some w =>
  rw [hl] at ha
  simp only at ha
  obtain ⟨s,rfl⟩:=List.getLast?_eq_some_iff.1 hl
  rcases List.mem_append.1 hy with hy|hy
  ·have:=(List.pairwise_append.1 h).2.2 y hy w (by simp)
   exact cF this ha
  ·have:y=w:=by simpa using hy
   rw [this];exact ha
theorem CS:∀ {r pre:List It},Srt pre→(∀ x∈pre,OkI x)→(∀ x∈r,x.n.t<18446744073709551616)→(∀ x∈pre,aY pre (aR x.p)=true)→eW pre r=true→Srt (pre++r)∧(∀ x∈pre++r,OkI x)∧∀ x∈pre++r,aY (pre++r) (aR x.p)=true
 | [],pre,hs,ho,_,hp,_=>by rw [List.append_nil];exact ⟨hs,ho,hp⟩
 | x::r,pre,hs,ho,ht,hp,h=>by
  rw [eW,Bool.and_eq_true] at h
  obtain ⟨h1,h2⟩:=h
  simp only [lG,Bool.and_eq_true,Bool.not_eq_true'] at h1
  obtain ⟨a1,a2,a3,a4,a5⟩:=h1
  have hs2:Srt (pre++[x]):=RR hs a3
  have up:∀ p,aY pre p=true→aY (pre++[x]) p=true:=by
   intro p hd
   by_cases hp0:p=[]
   ·subst hp0;rfl
   ·obtain ⟨m,k1,k2⟩:=cN hp0 hd
    obtain ⟨y,hy,hyp,hyn⟩:=cH k1
    have:=cW hs2 (List.mem_append_left [x] hy)
    rw [hyp] at this
    exact fD this (by rw [hyn];exact k2)
  have:=CS (r:=r) (pre:=pre++[x]) hs2 (fun y hy=>by
   rcases List.mem_append.1 hy with hy|hy
   ·exact ho y hy
   ·have:y=x:=by simpa using hy
    subst this
    exact ⟨by simpa using a1,a2,a4,ht y List.mem_cons_self⟩) (fun y hy=>ht y (List.mem_cons_of_mem _ hy)) (fun y hy=>by
   rcases List.mem_append.1 hy with hy|hy
   ·exact up _ (hp y hy)
   ·have:y=x:=by simpa using hy
    subst this;exact up _ a5) h2
  rw [List.append_assoc] at this
  exact this
theorem zAz {t:List It} (ht:∀ x∈t,x.n.t<18446744073709551616) (h:mO t=true):OkT t:=by
 unfold mO at h
 rw [Bool.and_eq_true,decide_eq_true_eq] at h
 obtain ⟨h1,h2⟩:=h
 have:=CS (r:=t) (pre:=[]) List.Pairwise.nil (fun x hx=>by cases hx) ht (fun x hx=>by cases hx) h1
 rw [List.nil_append] at this
 exact ⟨⟨this.1,this.2.1,by omega⟩,this.2.2⟩
theorem YT {t:List It} (h:OkT t):∀ k,k≤t.length→eW (t.take k) (t.drop k)=true:=by
 have key:∀ n k,t.length-k≤n→k≤t.length→eW (t.take k) (t.drop k)=true:=by
  intro n
  induction n with
  | zero =>
   intro k h1 h2
   rw [List.drop_of_length_le (by omega)];rfl
  | succ n ih =>
   intro k h1 h2
   by_cases hlt:k<t.length
   ·have hx:t[k]? = some t[k]:=List.getElem?_eq_getElem hlt
    rw [List.drop_eq_getElem_cons hlt,eW]
    have hn:=ih (k+1) (by omega) (by omega)
    rw [List.take_add_one,hx] at hn
    obtain ⟨i1,i2,i3,_⟩:=h.its _ (List.getElem_mem hlt)
    have hd:=CD h hx
    have ha:pC (t.take k) t[k].p=true:=by
     unfold pC
     by_cases h0:0<k
     ·rw [getLast_take h0 (by omega),List.getElem?_eq_getElem (by omega)]
      exact List.pairwise_iff_getElem.1 h.srt (k-1) k (by omega) hlt (by omega)
     ·have:k=0:=by omega
      subst this;rfl
    have i1':(t[k].p == [])=false:=by simpa using i1
    rw [lG,i1',i2,ha,i3,hd]
    exact hn
   ·rw [List.drop_of_length_le (by omega)];rfl
 exact fun k hk=>key _ k (Nat.le_refl _) hk
theorem zAa {t:List It} (h:OkT t):mO t=true:=by
 have:=YT h 0 (Nat.zero_le _)
 have hl:=h.len
 simp only [List.take_zero,List.drop_zero] at this
 rw [mO,this,Bool.true_and]
 exact decide_eq_true (by omega)
end Go.Dm
end
section
namespace Go.Dm
open Go
def Rd.take (r:Rd):Nd × Bool:=if r.node.2.l || !aT r.node.1 then (⟨0,0,0,[]⟩,false) else (r.node.1,true)
end Go.Dm
end
section
namespace Go.Dm
open Go
end Go.Dm
end
section
namespace Go.Dm
open Go
end Go.Dm
end
section
namespace Go.Dm
open Go
def mH (l:List Ch):Bool:=fM none l
end Go.Dm
end
end
