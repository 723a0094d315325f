/- Part 11 of the proof of roomDeep_card, set without needless blanks. No condition. -/
import Derived.Test.YtlbfnbldeefgmaaGreatDoorC09
set_option linter.all false
section
section
namespace Go.Dm
open Go
end Go.Dm
end
section
namespace Go.Dm
open Go
theorem wB {x:Nd} (h:x.wf):sH x x=true:=by rw [wA h h];exact oM x
theorem BR {x:It}:∀ {t:List It},x∈t→(aW t x.p).isSome=true
 | y::r,h=>by
  rw [aW];split
  ·rfl
  ·rename_i hy;rcases List.mem_cons.1 h with rfl|h
   ·simp at hy
   ·exact BR h
end Go.Dm
end
section
namespace Go.Dm
open Go
end Go.Dm
end
section
namespace Go.Dm
open Go
theorem EE (x k:Nat):(sV x k).toNat=x / 2 ^ k % 256:=by
 have h:IntKind.u8.wrap ((x:Int).fdiv (2 ^ k))=((x / 2 ^ k % 256:Nat):Int):=by
  have h2:(x:Int).fdiv (2 ^ k)=((x / 2 ^ k:Nat):Int):=by
   rw [Int.fdiv_eq_ediv_of_nonneg _ (by exact Int.le_of_lt (Int.pow_pos (by decide)))];simp
  rw [h2];simp only [IntKind.wrap,IntKind.bits,IntKind.signed,Bool.false_and];split <;> rename_i h
  ·simp at h
  ·simp
 unfold sV;rw [h,Int.toNat_natCast];show _ % 256=_;exact Nat.mod_eq_of_lt (Nat.mod_lt _ (by decide))
theorem QR {x y:Nat} (hx:x<18446744073709551616) (hy:y<18446744073709551616) (h:EG x=EG y):x=y:=by
 simp only [EG,List.cons.injEq,and_true] at h;obtain ⟨h7,h6,h5,h4,h3,h2,h1,h0⟩:=h;have e:∀ k,sV x k=sV y k→x / 2 ^ k % 256=y / 2 ^ k % 256:=fun k h=>by rw [← EE,← EE,h]
 have e7:=e _ h7;have e6:=e _ h6;have e5:=e _ h5;have e4:=e _ h4;have e3:=e _ h3;have e2:=e _ h2;have e1:=e _ h1;have e0:=e _ h0;simp only [show (2:Nat) ^ 56=72057594037927936 from rfl,show (2:Nat) ^ 48=281474976710656 from rfl,show (2:Nat) ^ 40=1099511627776 from rfl,show (2:Nat) ^ 32=4294967296 from rfl,show (2:Nat) ^ 24=16777216 from rfl,show (2:Nat) ^ 16=65536 from rfl,show (2:Nat) ^ 8=256 from rfl,show (2:Nat) ^ 0=1 from rfl,Nat.div_one] at e7 e6 e5 e4 e3 e2 e1 e0
 omega
theorem HI {x:Nat} (hx:x<18446744073709551616):zI x=(cW x == x):=by
 unfold zI;rw [Bool.eq_iff_iff,beq_iff_eq,beq_iff_eq];exact ⟨fun h=>(QR hx (pB hx) h).symm,fun h=>by rw [h]⟩
def XK (n:Nd):Bool:=if n.k == 1 then decide ((n.d.length:Int)≤2000) else if n.k == 2 then (n.d.length:Int) == 0 else if n.k == 3 then (decide ((1:Int)≤n.d.length) && decide ((n.d.length:Int)≤120)) && n.d.all fun b=>!(b == 0) else false
theorem zFh (b:UInt8):((b.toNat:Int) == 0)=(b == 0):=by
 rw [Bool.eq_iff_iff];simp only [beq_iff_eq];exact ⟨fun h=>UInt8.toNat_inj.1 (by have:(0:UInt8).toNat=0:=rfl;omega),fun h=>by rw [h];rfl⟩
theorem VN (d:List UInt8):mQ d=((decide ((1:Int)≤d.length) && decide ((d.length:Int)≤120)) && d.all fun b=>!(b == 0)):=by
 unfold mQ;simp only [zFh];rw [Bool.and_comm]
def nH (n:Nd):Bool:=XK n && decide (0≤n.m) && decide (n.m≤4095) && (cW n.t == n.t)
theorem CL {n:Nd} (h:n.wf):nH n=aV n:=by
 unfold nH aV XK;rw [HI h];simp only [VN];have e1:decide (0≤n.m) = !decide (n.m<0):=by rw [Bool.eq_iff_iff];simp
 have e2:decide (n.m≤4095) = !decide (4095<n.m):=by rw [Bool.eq_iff_iff];simp
 rw [e1,e2];generalize (if n.k == 1 then decide ((n.d.length:Int)≤2000) else if n.k == 2 then (n.d.length:Int) == 0 else if n.k == 3 then (decide ((1:Int)≤n.d.length) && decide ((n.d.length:Int)≤120)) && n.d.all (fun b=>!(b == 0)) else false)=q
 cases q <;> cases decide (n.m<0) <;> cases decide (4095<n.m) <;> cases (cW n.t == n.t) <;> rfl
def VY (n:Nd):Bool:=n.k == 0 && n.m == 0 && n.t == 0 && n.d.length == 0
theorem OkT.getok {t:List It} (h:OkT t) {p:List UInt8} (hs:(aW t p).isSome=true):p≠[]∧cJ p=true∧aV ((aW t p).getD nd0)=true:=by
 cases hg:aW t p with
 | none=>rw [hg] at hs;cases hs
 | some n =>
  obtain ⟨x,hx,rfl,rfl⟩:=cD hg;have:=h.its x hx;exact ⟨this.1,this.2.1,this.2.2.1⟩
end Go.Dm
end
section
namespace Go.Dm
open Go
theorem yW (a:List UInt8):∀ k,k≤a.length→Lib.lastIdx ⟨a.toArray⟩ 47 k=match dX a k with
  | some j=>(j:Int)
  | none=>-1
 | 0,_=>rfl
 | k+1,hk=>by
  have hlt:k<a.length:=by omega
  have e1:(ByteArray.mk a.toArray).data[k]! = a[k]:=by
   show a.toArray[k]! = _;simp [getElem!_pos,hlt]
  have e2:a.getD k 0=a[k]:=by simp [List.getD_eq_getElem?_getD,hlt]
  rw [Lib.lastIdx,dX,e1,e2];by_cases h:((a[k].toNat:Int)=47)
  ·rw [if_pos h,if_pos (by simpa using h)]
  ·rw [if_neg h,if_neg (by simpa using h),yW a k (by omega)]
theorem lE (a:List UInt8):Lib.lastIndexByte ⟨a.toArray⟩ 47=match dX a a.length with
  | some j=>(j:Int)
  | none=>-1:=by
 have:(ByteArray.mk a.toArray).size=a.length:=by simp [ByteArray.size]
 unfold Lib.lastIndexByte;rw [this];exact yW a _ (Nat.le_refl _)
theorem sG {p:List UInt8} {j:Nat} (h:dX p p.length=some j):j<p.length:=by
 rcases gG p p.length (Nat.le_refl _) with ⟨h1,_⟩|⟨i,hi,h1,_⟩
 ·rw [h1] at h;cases h
 ·rw [h1] at h;cases h;exact hi
def sS (p:List UInt8):List UInt8:=match dX p p.length with
 | some j=>p.drop (j+1)
 | none=>p
theorem EC {p q:List UInt8} (hp:p≠[]):(p++[47]).isPrefixOf q=aM p q:=by
 rw [Bool.eq_iff_iff,List.isPrefixOf_iff_prefix,WO hp];constructor
 ·rintro ⟨r,hr⟩;exact ⟨r,by rw [← hr];simp⟩
 ·rintro ⟨r,hr⟩;exact ⟨r,by rw [hr];simp⟩
def iE (d n:List UInt8):List UInt8:=if d == [] then n else d++47::n
theorem zCU (p:List UInt8) (hd:aP p=[]→47 ∉ p):iE (aP p) (sS p)=p:=by
 unfold iE sS;rcases gG p p.length (Nat.le_refl _) with ⟨h1,h2⟩|⟨i,h,h1,h2,h3,h4⟩
 ·have:aP p=[]:=by unfold aP;rw [h1]
  rw [this,h1];rfl
 ·have hdi:aP p=p.take i:=by unfold aP;rw [h1]
  have hi:aP p≠[]:=by
   intro h0;exact hd h0 (List.mem_iff_getElem.2 ⟨i,h,h3⟩)
  rw [if_neg (by simpa using hi),hdi,h1];have:=List.take_append_drop i p;rw [List.drop_eq_getElem_cons h,h3] at this;exact this
def BD (t:List It) (p:List UInt8):List (List UInt8):=(t.filter fun x=>aP x.p == p).map fun x=>sS x.p
def gA (t:List It) (p:List UInt8):List (List UInt8):=(BD t p).mergeSort fun x y=>decide (x≤y)
theorem cP {y:It}:∀ {t:List It},Srt t→y∈t→aW t y.p=some y.n
 | x::t,hs,hy=>by
  obtain ⟨h1,h2⟩:=List.pairwise_cons.1 hs;rw [aW];rcases List.mem_cons.1 hy with rfl|hy
  ·rw [if_pos (by simp)]
  ·rw [if_neg (by rw [lC (h1 y hy)];decide)];exact cP h2 hy
theorem WU (d:List UInt8) (b:UInt8) (n:List UInt8):bZ d (d++b::n)=true:=by
 induction d with
 | nil=>rfl
 | cons x d ih=>rw [List.cons_append,tD,ih];simp
theorem yV {t:List It} (h:OkT t) {k:Nat} {x:It} (hx:t[k]? = some x):aU (t.take k) (aP x.p)=true:=by
 by_cases hd:aP x.p=[]
 ·rw [hd];rfl
 obtain ⟨m,h1,h2⟩:=cG hd (h.par x (List.mem_of_getElem? hx));obtain ⟨y,hy,hyp,hyn⟩:=cD h1;obtain ⟨n,hn,_⟩:=pH hd;have hlt:bZ y.p x.p=true:=by
  have:=WU (aP x.p) 47 n;rw [← hn] at this;rw [hyp];exact this
 obtain ⟨j,hj,hje⟩:=List.mem_iff_getElem.1 hy;obtain ⟨hk,hxe⟩:=List.getElem?_eq_some_iff.1 hx;have hjk:j<k:=by
  rcases Nat.lt_trichotomy j k with h'|h'|h'
  ·exact h'
  ·subst h';rw [← hje,← hxe,cR] at hlt;cases hlt
  ·have:=List.pairwise_iff_getElem.1 h.srt k j hk hj h';rw [hje,hxe,gJ hlt] at this;cases this
 have hyt:y∈t.take k:=List.mem_iff_getElem.2 ⟨j,by simp;omega,by rw [List.getElem_take];exact hje⟩
 have hst:Srt (t.take k):=h.srt.sublist (List.take_sublist k t);have:=cP hst hyt;rw [hyp] at this;exact eO this (by rw [hyn];exact h2)
end Go.Dm
end
section
namespace Go.Dm
open Go
theorem xT {p:List UInt8} (hp:cJ p=true) (h0:p≠[]) (hd:aP p=[]):47 ∉ p:=by
 rcases tH p with ⟨_,h⟩|⟨n,h,_⟩
 ·exact h
 ·rw [hd,List.nil_append] at h;unfold cJ at hp;have:(p == [])=false:=by simpa using h0
  rw [this,Bool.false_or,Bool.and_eq_true] at hp;rw [h] at hp;have h1:=hp.1;unfold DP at h1;rw [show (47::n:List UInt8)=[]++47::n from rfl,pD,List.all_append] at h1
  simp [xO,bE] at h1
theorem OkT.joined {t:List It} (h:OkT t) {x:It} (hx:x∈t):iE (aP x.p) (sS x.p)=x.p :=
 zCU _ fun hd=>xT (h.its x hx).2.1 (h.its x hx).1 hd
theorem SS (t:List It) (d:List UInt8):(gA t d).length=(t.filter fun x=>aP x.p == d).length:=by
 unfold gA BD;rw [List.length_mergeSort,List.length_map]
theorem eB {α:Type} {g:α→Bool} {t:List α} {i:Nat} {x:α} (hx:t[i]? = some x):(t.take (i+1)).filter g=(t.take i).filter g++(if g x then [x] else []):=by
 rw [List.take_add_one,hx,List.filter_append];show _++[x].filter g=_;rw [List.filter_cons];split <;> rfl
end Go.Dm
end
end
section
section
namespace Go.Dm
open Go
def zJ1 (b:List UInt8):Nat:=b.foldl (fun v c=>v*256+c.toNat) 0
structure Rd where
 b:List UInt8
 l:Bool
def Rd.raw (r:Rd) (n:Nat):List UInt8 × Rd:=if r.l || decide (r.b.length<n) then ([],⟨[],true⟩) else (r.b.take n,⟨r.b.drop n,false⟩)
def Rd.num (r:Rd) (n:Nat):Nat × Rd:=(zJ1 (r.raw n).1,(r.raw n).2)
def Rd.text (r:Rd):List UInt8 × Rd:=(r.num 2).2.raw (r.num 2).1
def Rd.node (r:Rd):Nd × Rd :=
 let k:=r.num 1
 let m:=k.2.num 2
 let t:=m.2.num 8
 let d:=t.2.text
 (⟨k.1,m.1,t.1,d.1⟩,d.2)
def Rd.items:Nat→Rd→List It × Rd
 | 0,r=>([],r)
 | n+1,r =>
  if r.l then ([],r) else
   let p:=r.text
   let x:=p.2.node
   let y:=Rd.items n x.2
   (⟨p.1,x.1⟩::y.1,y.2)
end Go.Dm
end
section
namespace Go.Dm
open Go
def nP (pre:List It) (p:List UInt8):Bool:=match pre.getLast? with
 | some y=>bZ y.p p
 | none=>true
def jV (pre:List It) (x:It):Bool:=!(x.p == []) && (cJ x.p && (nP pre x.p && (aV x.n && aU pre (aP x.p))))
def eD:List It→List It→Bool
 | _,[]=>true
 | pre,x::r=>jV pre x && eD (pre++[x]) r
def lG (t:List It):Bool:=eD [] t && decide ((t.length:Int)≤120)
theorem getLast_take {t:List It} {k:Nat} (hk:0<k) (hl:k≤t.length):(t.take k).getLast? = t[k-1]? := by
 rw [List.getLast?_eq_getElem?,List.length_take,Nat.min_eq_left hl,List.getElem?_take,if_pos (by omega)]
theorem QD {t:List It} {x:It} (h:Srt t) (ha:nP t x.p=true):Srt (t++[x]):=by
 refine List.pairwise_append.2 ⟨h,by simp,fun y hy z hz=>?_⟩
 have:z=x:=by simpa using hz
 subst this;unfold nP at ha;cases hl:t.getLast? with
 | none =>
  have:t=[]:=by simpa using hl
  subst this;cases hy
 | some w =>
  rw [hl] at ha;simp only at ha;obtain ⟨s,rfl⟩:=List.getLast?_eq_some_iff.1 hl;rcases List.mem_append.1 hy with hy|hy
  ·have:=(List.pairwise_append.1 h).2.2 y hy w (by simp);exact cO this ha
  ·have:y=w:=by simpa using hy
   rw [this];exact ha
theorem zR:∀ {r pre:List It},Srt pre→(∀ x∈pre,OkI x)→(∀ x∈r,x.n.t<18446744073709551616)→(∀ x∈pre,aU pre (aP x.p)=true)→eD pre r=true→Srt (pre++r)∧(∀ x∈pre++r,OkI x)∧∀ x∈pre++r,aU (pre++r) (aP x.p)=true
 | [],pre,hs,ho,_,hp,_=>by rw [List.append_nil];exact ⟨hs,ho,hp⟩
 | x::r,pre,hs,ho,ht,hp,h=>by
  rw [eD,Bool.and_eq_true] at h;obtain ⟨h1,h2⟩:=h;simp only [jV,Bool.and_eq_true,Bool.not_eq_true'] at h1;obtain ⟨a1,a2,a3,a4,a5⟩:=h1;have hs2:Srt (pre++[x]):=QD hs a3;have up:∀ p,aU pre p=true→aU (pre++[x]) p=true:=by
   intro p hd;by_cases hp0:p=[]
   ·subst hp0;rfl
   ·obtain ⟨m,k1,k2⟩:=cG hp0 hd;obtain ⟨y,hy,hyp,hyn⟩:=cD k1;have:=cP hs2 (List.mem_append_left [x] hy);rw [hyp] at this;exact eO this (by rw [hyn];exact k2)
  have:=zR (r:=r) (pre:=pre++[x]) hs2 (fun y hy=>by
   rcases List.mem_append.1 hy with hy|hy
   ·exact ho y hy
   ·have:y=x:=by simpa using hy
    subst this;exact ⟨by simpa using a1,a2,a4,ht y List.mem_cons_self⟩) (fun y hy=>ht y (List.mem_cons_of_mem _ hy)) (fun y hy=>by
   rcases List.mem_append.1 hy with hy|hy
   ·exact up _ (hp y hy)
   ·have:y=x:=by simpa using hy
    subst this;exact up _ a5) h2
  rw [List.append_assoc] at this;exact this
theorem zBI {t:List It} (ht:∀ x∈t,x.n.t<18446744073709551616) (h:lG t=true):OkT t:=by
 unfold lG at h;rw [Bool.and_eq_true,decide_eq_true_eq] at h;obtain ⟨h1,h2⟩:=h;have:=zR (r:=t) (pre:=[]) List.Pairwise.nil (fun x hx=>by cases hx) ht (fun x hx=>by cases hx) h1
 rw [List.nil_append] at this;exact ⟨⟨this.1,this.2.1,by omega⟩,this.2.2⟩
theorem TQ {t:List It} (h:OkT t):∀ k,k≤t.length→eD (t.take k) (t.drop k)=true:=by
 have key:∀ n k,t.length-k≤n→k≤t.length→eD (t.take k) (t.drop k)=true:=by
  intro n
  induction n with
  | zero =>
   intro k h1 h2;rw [List.drop_of_length_le (by omega)];rfl
  | succ n ih =>
   intro k h1 h2;by_cases hlt:k<t.length
   ·have hx:t[k]? = some t[k]:=List.getElem?_eq_getElem hlt;rw [List.drop_eq_getElem_cons hlt,eD];have hn:=ih (k+1) (by omega) (by omega);rw [List.take_add_one,hx] at hn;obtain ⟨i1,i2,i3,_⟩:=h.its _ (List.getElem_mem hlt);have hd:=yV h hx;have ha:nP (t.take k) t[k].p=true:=by
     unfold nP;by_cases h0:0<k
     ·rw [getLast_take h0 (by omega),List.getElem?_eq_getElem (by omega)];exact List.pairwise_iff_getElem.1 h.srt (k-1) k (by omega) hlt (by omega)
     ·have:k=0:=by omega
      subst this;rfl
    have i1':(t[k].p == [])=false:=by simpa using i1
    rw [jV,i1',i2,ha,i3,hd];exact hn
   ·rw [List.drop_of_length_le (by omega)];rfl
 exact fun k hk=>key _ k (Nat.le_refl _) hk
theorem zBH {t:List It} (h:OkT t):lG t=true:=by
 have:=TQ h 0 (Nat.zero_le _);have hl:=h.len;simp only [List.take_zero,List.drop_zero] at this;rw [lG,this,Bool.true_and];exact decide_eq_true (by omega)
end Go.Dm
end
section
namespace Go.Dm
open Go
def Rd.take (r:Rd):Nd × Bool:=if r.node.2.l || !aV r.node.1 then (⟨0,0,0,[]⟩,false) else (r.node.1,true)
end Go.Dm
end
section
namespace Go.Dm
open Go
end Go.Dm
end
section
namespace Go.Dm
open Go
end Go.Dm
end
section
namespace Go.Dm
open Go
end Go.Dm
end
end
section
namespace Go.Dm
open Go
def zV (x y:It):Bool:=x.p == y.p && sH x.n y.n
def fW:List It→List It→Bool
 | [],[]=>true
 | x::a,y::b=>zV x y && fW a b
 | _,_=>false
theorem MY {a b:List It} {k:Nat} {x y:It} (ha:a[k]? = some x) (hb:b[k]? = some y):fW (a.drop k) (b.drop k)=(zV x y && fW (a.drop (k+1)) (b.drop (k+1))):=by
 obtain ⟨h1,rfl⟩:=List.getElem?_eq_some_iff.1 ha;obtain ⟨h2,rfl⟩:=List.getElem?_eq_some_iff.1 hb;rw [List.drop_eq_getElem_cons h1,List.drop_eq_getElem_cons h2,fW]
theorem zW:∀ {a b:List It},a.length≠b.length→fW a b=false
 | [],[],h=>absurd rfl h
 | [],_::_,_=>rfl
 | _::_,[],_=>rfl
 | x::a,y::b,h=>by
  rw [fW,zW (a:=a) (b:=b) fun e=>h (by simp [e]),Bool.and_false]
theorem wV:∀ {a:List It},(∀ x∈a,x.n.wf)→fW a a=true
 | [],_=>rfl
 | x::a,h=>by
  rw [fW,wV fun y hy=>h y (List.mem_cons_of_mem _ hy),zV,wB (h x List.mem_cons_self)];simp
def zH (n:Nd):Prop:=n.wf∧cW n.t=n.t
theorem iO {n:Nd} (h:aV n=true) (hw:n.wf):zH n:=by
 refine ⟨hw,?_⟩;unfold aV at h;simp only [Bool.and_eq_true,Bool.not_eq_true',Bool.or_eq_false_iff,decide_eq_false_iff_not] at h;obtain ⟨⟨⟨_,_⟩,h2⟩,_⟩:=h;rw [Bool.not_eq_false',HI hw,beq_iff_eq] at h2;exact h2
theorem SU {x y:Nd} (hx:zH x) (hy:zH y) (h:sH x y=true):x=y:=by
 rw [wA hx.1 hy.1] at h;unfold iS at h;simp only [Bool.and_eq_true,beq_iff_eq] at h;obtain ⟨⟨⟨h1,h2⟩,h3⟩,h4⟩:=h;rw [hx.2,hy.2] at h4;cases x;cases y;simp only at h1 h2 h3 h4;subst h1 h2 h3 h4;rfl
theorem HZ:∀ {a b:List It},(∀ x∈a,zH x.n)→(∀ x∈b,zH x.n)→fW a b=true→a=b
 | [],[],_,_,_=>rfl
 | [],_::_,_,_,h=>by cases h
 | _::_,[],_,_,h=>by cases h
 | x::a,y::b,ha,hb,h=>by
  rw [fW,Bool.and_eq_true,zV,Bool.and_eq_true,beq_iff_eq] at h;obtain ⟨⟨h1,h2⟩,h3⟩:=h;have e1:=SU (ha x List.mem_cons_self) (hb y List.mem_cons_self) h2;have e2:=HZ (fun z hz=>ha z (List.mem_cons_of_mem _ hz)) (fun z hz=>hb z (List.mem_cons_of_mem _ hz)) h3;cases x;cases y;simp only at h1 e1;subst h1 e1 e2;rfl
theorem OkT.plain {t:List It} (h:OkT t):∀ x∈t,zH x.n:=fun x hx=>by
 obtain ⟨_,_,h3,h4⟩:=h.its x hx;exact iO h3 h4
end Go.Dm
end
