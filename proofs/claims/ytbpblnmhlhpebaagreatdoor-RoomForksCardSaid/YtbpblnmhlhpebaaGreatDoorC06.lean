/- Part 7 of the proof of roomForks_card, set without needless blanks. No condition. -/
import Derived.Test.YtbpblnmhlhpebaaGreatDoorC03
set_option linter.unusedSimpArgs false
set_option linter.unusedVariables false
section
section
namespace Go.Dm
open Go
def rg (w:Nat):Nat:=w % 9223372036854775808
def sn (w:Nat):Bool:=w / 9223372036854775808 % 2 == 1
def mgn (r:Nat):Nat:=if r<4503599627370496 then r else 4503599627370496+r % 4503599627370496
def plc (r:Nat):Nat:=if r<4503599627370496 then 0 else r / 4503599627370496-1
def mv (r:Nat):Nat:=mgn r*2 ^ plc r
def sg (s:Bool) (v:Nat):Int:=if s then -(v:Int) else v
theorem zCn (r:Nat):mv r<mv (r+1):=by
 unfold mv mgn plc
 by_cases h1:r+1<4503599627370496
 ·rw [if_pos (by omega),if_pos (by omega),if_pos h1,if_pos h1];simp
 ·by_cases h2:r<4503599627370496
  ·have:r+1=4503599627370496:=by omega
   rw [if_pos h2,if_pos h2,this];simp;omega
  ·rw [if_neg h2,if_neg h2,if_neg h1,if_neg h1]
   have he:1≤r / 4503599627370496:=by omega
   by_cases h3:r % 4503599627370496+1<4503599627370496
   ·have e1:(r+1) / 4503599627370496=r / 4503599627370496:=by omega
    have e2:(r+1) % 4503599627370496=r % 4503599627370496+1:=by omega
    rw [e1,e2]
    exact Nat.mul_lt_mul_of_pos_right (by omega) (Nat.two_pow_pos _)
   ·have e1:(r+1) / 4503599627370496-1=(r / 4503599627370496-1)+1:=by omega
    have e2:(r+1) % 4503599627370496=0:=by omega
    rw [e1,e2,Nat.pow_succ]
    have hp:=Nat.two_pow_pos (r / 4503599627370496-1)
    generalize 2 ^ (r / 4503599627370496-1)=p at hp ⊢
    generalize hm:r % 4503599627370496=m at h3
    have hm':m<4503599627370496:=by omega
    have:(4503599627370496+m)*p<(4503599627370496+4503599627370496)*p:=Nat.mul_lt_mul_of_pos_right (by omega) hp
    have e3:(4503599627370496+0)*(p*2)=(4503599627370496+4503599627370496)*p:=by rw [Nat.add_zero,Nat.mul_comm p 2,← Nat.mul_assoc]
    rw [e3];exact this
theorem zGF {r q:Nat} (h:r<q):mv r<mv q:=by
 induction q with
 | zero=>omega
 | succ q ih =>
  rcases Nat.lt_or_ge r q with h'|h'
  ·exact Nat.lt_trans (ih h') (zCn q)
  ·have:r=q:=by omega
   subst this;exact zCn r
theorem LD {r q:Nat}:mv r<mv q↔r<q:=by
 refine ⟨fun h=>?_,zGF⟩
 rcases Nat.lt_or_ge r q with h'|h'
 ·exact h'
 ·rcases Nat.eq_or_lt_of_le h' with h2|h2
  ·subst h2;omega
  ·have:=zGF h2;omega
theorem EL:mv 0=0:=by decide
theorem mD {w:Nat} (h:rg w<9218868437227405312):Ieee.double.read w=.number (sn w) (mgn (rg w)) (-1074+(plc (rg w):Int)):=by
 have e1:Ieee.double.signWeight=9223372036854775808:=by decide
 have e2:Ieee.double.binade=4503599627370496:=by decide
 have e3:Ieee.double.infRung=9218868437227405312:=by decide
 have e4:Ieee.double.leastPlace = -1074:=by decide
 simp only [Ieee.Format.read,e1,e2,e3,e4]
 simp only [rg] at h ⊢
 unfold mgn plc sn
 by_cases h1:w % 9223372036854775808<4503599627370496
 ·simp only [if_pos h1];rfl
 ·simp only [if_neg h1,if_pos h]
theorem vD {w:Nat} (h:rg w=9218868437227405312):Ieee.double.read w=.infinity (sn w):=by
 have e1:Ieee.double.signWeight=9223372036854775808:=by decide
 have e2:Ieee.double.binade=4503599627370496:=by decide
 have e3:Ieee.double.infRung=9218868437227405312:=by decide
 simp only [Ieee.Format.read,e1,e2,e3]
 simp only [rg] at h
 rw [h]
 rfl
theorem zHf {w:Nat} (h:9218868437227405312<rg w):∃ s f,Ieee.double.read w=.nan s f:=by
 have e1:Ieee.double.signWeight=9223372036854775808:=by decide
 have e2:Ieee.double.binade=4503599627370496:=by decide
 have e3:Ieee.double.infRung=9218868437227405312:=by decide
 simp only [Ieee.Format.read,e1,e2,e3]
 simp only [rg] at h
 rw [if_neg (by omega),if_neg (by omega),if_neg (by omega)]
 exact ⟨_,_,rfl⟩
def SB (a b:Int):Ordering:=if a<b then .lt else if a=b then .eq else .gt
theorem NY (a b:Int):compare a b=SB a b:=rfl
theorem XR {a b c d:Int} (h1:a<b↔c<d) (h2:a=b↔c=d):SB a b=SB c d:=by
 unfold SB
 by_cases x:a<b
 ·rw [if_pos x,if_pos (h1.1 x)]
 ·rw [if_neg x,if_neg (fun h=>x (h1.2 h))]
  by_cases y:a=b
  ·rw [if_pos y,if_pos (h2.1 y)]
  ·rw [if_neg y,if_neg (fun h=>y (h2.2 h))]
theorem QC {a b:Nat} (ha:rg a<9218868437227405312) (hb:rg b<9218868437227405312):JX a b=some (SB (sg (sn a) (rg a)) (sg (sn b) (rg b))):=by
 show Ieee.double.order a b=_
 simp only [Ieee.Format.order,mD ha,mD hb,Ieee.Datum.order,NY]
 congr 1
 generalize hx:(-1074+(plc (rg a):Int)-min (-1074+(plc (rg a):Int)) (-1074+(plc (rg b):Int))).toNat=x
 generalize hy:(-1074+(plc (rg b):Int)-min (-1074+(plc (rg a):Int)) (-1074+(plc (rg b):Int))).toNat=y
 have hx':plc (rg a)=x+min (plc (rg a)) (plc (rg b)):=by omega
 have hy':plc (rg b)=y+min (plc (rg a)) (plc (rg b)):=by omega
 generalize min (plc (rg a)) (plc (rg b))=z at hx' hy'
 have ea:mv (rg a)=(mgn (rg a) <<< x)*2 ^ z:=by rw [mv,hx',Nat.pow_add,Nat.shiftLeft_eq,Nat.mul_assoc]
 have eb:mv (rg b)=(mgn (rg b) <<< y)*2 ^ z:=by rw [mv,hy',Nat.pow_add,Nat.shiftLeft_eq,Nat.mul_assoc]
 have hz:=Nat.two_pow_pos z
 have l1:(mgn (rg a) <<< x)<(mgn (rg b) <<< y)↔rg a<rg b:=by
  rw [← LD (r:=rg a),ea,eb]
  exact ⟨fun h=>Nat.mul_lt_mul_of_pos_right h hz,fun h=>Nat.lt_of_mul_lt_mul_right h⟩
 have l2:(mgn (rg b) <<< y)<(mgn (rg a) <<< x)↔rg b<rg a:=by
  rw [← LD (r:=rg b),ea,eb]
  exact ⟨fun h=>Nat.mul_lt_mul_of_pos_right h hz,fun h=>Nat.lt_of_mul_lt_mul_right h⟩
 have z1:mgn (rg a) <<< x=0↔rg a=0:=by
  constructor
  ·intro h
   rw [h,Nat.zero_mul,← EL] at ea
   rcases Nat.lt_or_ge 0 (rg a) with h'|h'
   ·have:=zGF h';omega
   ·omega
  ·intro h
   rw [h,EL] at ea
   rw [h]
   rcases Nat.eq_zero_or_pos (mgn 0 <<< x) with h'|h'
   ·exact h'
   ·have:=Nat.mul_pos h' hz;omega
 have z2:mgn (rg b) <<< y=0↔rg b=0:=by
  constructor
  ·intro h
   rw [h,Nat.zero_mul,← EL] at eb
   rcases Nat.lt_or_ge 0 (rg b) with h'|h'
   ·have:=zGF h';omega
   ·omega
  ·intro h
   rw [h,EL] at eb
   rw [h]
   rcases Nat.eq_zero_or_pos (mgn 0 <<< y) with h'|h'
   ·exact h'
   ·have:=Nat.mul_pos h' hz;omega
 simp only [Ieee.signed]
 generalize mgn (rg a) <<< x=A at *
 generalize mgn (rg b) <<< y=B at *
 unfold sg
 refine XR ?_ ?_
 ·cases sn a <;> cases sn b <;> simp <;> omega
 ·cases sn a <;> cases sn b <;> simp <;> omega
theorem ES {a b:Nat} (ha:rg a≤9218868437227405312) (hb:rg b≤9218868437227405312):JX a b=some (SB (sg (sn a) (rg a)) (sg (sn b) (rg b))):=by
 rcases Nat.lt_or_ge (rg a) 9218868437227405312 with h1|h1 <;> rcases Nat.lt_or_ge (rg b) 9218868437227405312 with h2|h2
 ·exact QC h1 h2
 ·have h2':rg b=9218868437227405312:=by omega
  show Ieee.double.order a b=_
  simp only [Ieee.Format.order,mD h1,vD h2',Ieee.Datum.order]
  congr 1
  rw [h2']
  unfold SB sg
  cases sn a <;> cases sn b <;> simp <;> (repeat' split) <;> first|rfl|omega
 ·have h1':rg a=9218868437227405312:=by omega
  show Ieee.double.order a b=_
  simp only [Ieee.Format.order,mD h2,vD h1',Ieee.Datum.order]
  congr 1
  rw [h1']
  unfold SB sg
  cases sn a <;> cases sn b <;> simp <;> (repeat' split) <;> first|rfl|omega
 ·have h1':rg a=9218868437227405312:=by omega
  have h2':rg b=9218868437227405312:=by omega
  show Ieee.double.order a b=_
  simp only [Ieee.Format.order,vD h1',vD h2',Ieee.Datum.order]
  congr 1
  rw [h1',h2']
  cases sn a <;> cases sn b <;> decide
theorem YQ {a b:Nat} (ha:9218868437227405312<rg a):JX a b=none:=by
 obtain ⟨s,f,h⟩:=zHf ha
 show Ieee.double.order a b=_
 simp only [Ieee.Format.order,h,Ieee.Datum.order]
end Go.Dm
end
section
namespace Go.Dm
open Go
def isNaN (x:Nat):Bool:=JX x x != some .eq
def BB:Nat:=9221120237041090561
def dA (x:Nat):Nat:=if isNaN x then BB else x
def XL (x:Nat):Bool:=decide (IntKind.i64.wrap x<0)
def jO (x:Nat):Int × Int:=if isNaN x then (1,0) else if JX x 0 == some .eq && XL x then (0,-1) else (0,0)
def RJ (a b:Int):Int:=if a<b then -1 else if b<a then 1 else 0
def zJV (a b:Nat):Int:=if isNaN a then (if isNaN b then 0 else -1) else if isNaN b then 1 else if JX a b == some .lt then -1 else if JX a b == some .gt then 1 else 0
def uK (a b:Nat):Int:=if 0<IntKind.i64.wrap ((jO a).1+(jO b).1) then RJ (jO a).1 (jO b).1 else if zJV a b == 0 then RJ (jO a).2 (jO b).2 else zJV a b
theorem zCw (a:Int):SB a a=.eq:=by unfold SB;rw [if_neg (by omega),if_pos rfl]
theorem mV (x:Nat):isNaN x=decide (9218868437227405312<rg x):=by
 unfold isNaN
 rcases Nat.lt_or_ge 9218868437227405312 (rg x) with h|h
 ·rw [YQ h,decide_eq_true h];rfl
 ·rw [ES h h,zCw,decide_eq_false (by omega)];rfl
theorem zLa (x:Nat):rg x<9223372036854775808:=Nat.mod_lt _ (by omega)
theorem yR:isNaN BB=true:=by rw [mV];decide
theorem lU {x:Nat} (h:x<18446744073709551616):dA x<18446744073709551616:=by
 unfold dA;split
 ·decide
 ·exact h
theorem XO (x:Nat):dA (dA x)=dA x:=by
 unfold dA
 by_cases h:isNaN x=true
 ·rw [if_pos h,if_pos yR]
 ·rw [if_neg h,if_neg h]
theorem zG3 {x:Nat} (h:x<18446744073709551616):XL x=decide (9223372036854775808≤x):=by
 unfold XL
 congr 1
 simp only [IntKind.wrap,IntKind.bits,IntKind.signed,Bool.true_and,eq_iff_iff]
 split <;> rename_i h' <;> simp at h' <;> omega
def vN (x:Nat):Int:=if isNaN x then 9223372036854775808 else if sn x then -(rg x:Int)-1 else rg x
theorem ET {x:Nat} (hn:isNaN x=false):vN x≤9218868437227405312:=by
 unfold vN
 rw [hn]
 rw [mV] at hn
 have:=of_decide_eq_false hn
 simp only [Bool.false_eq_true,if_false]
 split <;> omega
theorem zKE (p q:Int):(some (SB p q) == some Ordering.lt)=decide (p<q):=by
 unfold SB
 by_cases h:p<q
 ·rw [if_pos h,decide_eq_true h];rfl
 ·rw [if_neg h,decide_eq_false h];split <;> rfl
theorem zKv (p q:Int):(some (SB p q) == some Ordering.gt)=decide (q<p):=by
 unfold SB
 by_cases h:p<q
 ·rw [if_pos h,decide_eq_false (by omega)];rfl
 ·rw [if_neg h]
  by_cases h':p=q
  ·rw [if_pos h',decide_eq_false (by omega)];rfl
  ·rw [if_neg h',decide_eq_true (by omega)];rfl
theorem zCP (p q:Int):(RJ p q == 0)=decide (p=q):=by
 unfold RJ
 by_cases h:p<q
 ·rw [if_pos h,decide_eq_false (by omega)];rfl
 ·rw [if_neg h]
  by_cases h':q<p
  ·rw [if_pos h',decide_eq_false (by omega)];rfl
  ·rw [if_neg h',decide_eq_true (by omega)];rfl
theorem ZR {x y:Nat} (hx:x<18446744073709551616) (hy:y<18446744073709551616):uK x y=RJ (vN x) (vN y):=by
 have w2:IntKind.i64.wrap (1+1)=2:=by decide
 have w1:IntKind.i64.wrap (1+0)=1:=by decide
 have w1':IntKind.i64.wrap (0+1)=1:=by decide
 have w0:IntKind.i64.wrap (0+0)=0:=by decide
 have s1:∀ z,isNaN z=true→jO z=(1,0):=fun z h=>by unfold jO;rw [if_pos h]
 have s0:∀ z,z<18446744073709551616→isNaN z=false→(jO z).1=0∧(jO z).2=if rg z=0∧sn z=true then -1 else 0:=by
  intro z hz h
  have hr:rg z≤9218868437227405312:=by rw [mV] at h;have:=of_decide_eq_false h;omega
  have e:(JX z 0 == some Ordering.eq)=decide (rg z=0):=by
   rw [ES hr (by decide)]
   have:sg (sn 0) (rg 0)=0:=by decide
   rw [this]
   by_cases hz:rg z=0
   ·rw [hz,decide_eq_true rfl]
    cases sn z <;> rfl
   ·rw [decide_eq_false hz]
    unfold SB sg
    cases sn z <;> simp only [Bool.false_eq_true,if_false,if_true]
    ·rw [if_neg (by omega),if_neg (by omega)];rfl
    ·rw [if_pos (by omega)];rfl
  have e2:XL z=sn z:=by
   rw [zG3 hz]
   unfold sn
   rcases Nat.lt_or_ge z 9223372036854775808 with h'|h'
   ·have:z / 9223372036854775808=0:=by omega
    rw [this,decide_eq_false (by omega)];rfl
   ·have:z / 9223372036854775808=1:=by omega
    rw [this,decide_eq_true h'];rfl
  unfold jO
  rw [h,e,e2]
  simp only [Bool.false_eq_true,if_false]
  by_cases hz0:rg z=0 <;> cases hsn:sn z <;> simp [hz0]
 unfold uK
 by_cases h1:isNaN x=true <;> by_cases h2:isNaN y=true
 ·rw [s1 x h1,s1 y h2];simp only [w2]
  rw [if_pos (by decide)]
  unfold vN;rw [if_pos h1,if_pos h2];rfl
 ·have h2':isNaN y=false:=by simpa using h2
  rw [s1 x h1,(s0 y hy h2').1];simp only [w1]
  rw [if_pos (by decide)]
  have:=ET h2'
  unfold RJ
  have e:vN x=9223372036854775808:=by unfold vN;rw [if_pos h1]
  rw [e,if_neg (by omega),if_pos (by omega),if_neg (by omega),if_pos (by omega)]
 ·have h1':isNaN x=false:=by simpa using h1
  rw [s1 y h2,(s0 x hx h1').1];simp only [w1']
  rw [if_pos (by decide)]
  have:=ET h1'
  unfold RJ
  have e:vN y=9223372036854775808:=by unfold vN;rw [if_pos h2]
  rw [e,if_pos (by omega),if_pos (by omega)]
 ·have h1':isNaN x=false:=by simpa using h1
  have h2':isNaN y=false:=by simpa using h2
  rw [(s0 x hx h1').1,(s0 y hy h2').1,(s0 x hx h1').2,(s0 y hy h2').2,w0,if_neg (by decide)]
  have hr1:rg x≤9218868437227405312:=by rw [mV] at h1';have:=of_decide_eq_false h1';omega
  have hr2:rg y≤9218868437227405312:=by rw [mV] at h2';have:=of_decide_eq_false h2';omega
  have ef:zJV x y=RJ (sg (sn x) (rg x)) (sg (sn y) (rg y)):=by
   unfold zJV
   rw [h1',h2',ES hr1 hr2,zKE,zKv]
   unfold RJ
   simp only [Bool.false_eq_true,if_false,decide_eq_true_eq]
  rw [ef,zCP]
  unfold vN
  rw [h1',h2']
  simp only [Bool.false_eq_true,if_false,decide_eq_true_eq]
  unfold RJ sg
  cases sn x <;> cases sn y <;> simp only [Bool.false_eq_true,if_false,if_true,and_false,and_true] <;> (repeat' split) <;> first|rfl|omega
theorem SG {x y:Nat} (hx:x<18446744073709551616) (hy:y<18446744073709551616):(uK x y == 0)=(dA x == dA y):=by
 rw [ZR hx hy]
 have e:(RJ (vN x) (vN y) == 0)=decide (vN x=vN y):=by
  unfold RJ
  by_cases h:vN x<vN y
  ·rw [if_pos h,decide_eq_false (by omega)];rfl
  ·rw [if_neg h]
   by_cases h':vN y<vN x
   ·rw [if_pos h',decide_eq_false (by omega)];rfl
   ·rw [if_neg h',decide_eq_true (by omega)];rfl
 rw [e]
 unfold dA
 by_cases h1:isNaN x=true <;> by_cases h2:isNaN y=true
 ·unfold vN;simp only [if_pos h1,if_pos h2];simp
 ·have:=ET (x:=y) (by simpa using h2)
  have e:vN x=9223372036854775808:=by unfold vN;rw [if_pos h1]
  rw [e,if_pos h1,if_neg h2,decide_eq_false (by omega)]
  symm
  rw [beq_eq_false_iff_ne]
  intro h
  exact h2 (h▸yR)
 ·have:=ET (x:=x) (by simpa using h1)
  have e:vN y=9223372036854775808:=by unfold vN;rw [if_pos h2]
  rw [e,if_neg h1,if_pos h2,decide_eq_false (by omega)]
  symm
  rw [beq_eq_false_iff_ne]
  intro h
  exact h1 (h▸yR)
 ·rw [if_neg h1,if_neg h2]
  rw [Bool.eq_iff_iff,decide_eq_true_iff,beq_iff_eq]
  unfold vN
  rw [if_neg h1,if_neg h2]
  constructor
  ·intro h
   have ex:x=(if sn x then 9223372036854775808 else 0)+rg x:=by
    unfold sn rg
    rcases Nat.lt_or_ge x 9223372036854775808 with h'|h'
    ·have:x / 9223372036854775808=0:=by omega
     rw [this];simp;omega
    ·have:x / 9223372036854775808=1:=by omega
     rw [this];simp;omega
   have ey:y=(if sn y then 9223372036854775808 else 0)+rg y:=by
    unfold sn rg
    rcases Nat.lt_or_ge y 9223372036854775808 with h'|h'
    ·have:y / 9223372036854775808=0:=by omega
     rw [this];simp;omega
    ·have:y / 9223372036854775808=1:=by omega
     rw [this];simp;omega
   rw [ex,ey]
   have l1:=zLa x
   have l2:=zLa y
   cases hsx:sn x <;> cases hsy:sn y <;> simp only [hsx,hsy,Bool.false_eq_true,if_false,if_true] at h ⊢ <;> omega
  ·intro h;subst h;rfl
end Go.Dm
end
section
namespace Go.Dm
open Go
structure Nd where
 k:Int
 m:Int
 t:Nat
 d:List UInt8
abbrev ndc (k m:Int) (t:Nat) (d:List UInt8):List CV:=[.p (.i .i64 k),.p (.i .i64 m),.p (.f t),.p (.sl 1 (bT d))]
abbrev Nd.cv (x:Nd):List CV:=[.p (.i .i64 x.k),.p (.i .i64 x.m),.p (.f x.t),.p (.sl 1 (bT x.d))]
attribute [go_sem] Nd.cv ndc
theorem zKp (x:Nd):Nd.mk x.k x.m x.t x.d=x:=rfl
attribute [go_sem] zKp
def mQ (x y:Nd):Bool:=x.k == y.k && x.m == y.m && (uK x.t y.t == 0) && x.d == y.d
def fS (x y:Nd):Bool:=x.k == y.k && x.m == y.m && x.d == y.d && (dA x.t == dA y.t)
def Nd.ok (x:Nd):Prop:=x.d.length≤140737488355328
def nd0:Nd:=⟨0,0,0,[]⟩
end Go.Dm
end
section
namespace Go.Dm
open Go
def zKN:List (List UInt8):=[[97],[98],[99],[100,46,101],[102,45,49],[255]]
def LP (n:Int):List UInt8:=zKN.getD (n % 6).toNat []
def KP:Nat→Int→List UInt8→List UInt8
 | 0,_,p=>p
 | k+1,n,p=>KP k (n / 7) (p++47::LP (n / 7))
def pE (n:Int):List UInt8:=KP (n % 1073741824 / 6 % 3).toNat (n % 1073741824) (LP (n % 1073741824))
def zKz:List Nat:=[0,9223372036854775808,4607182418800017408,13830554455654793216,9218868437227405312,18442240474082181120,9221120237041090561,4612811918334230528,1,9223372036854775809,9218868437227405311,18444492273895866373]
def PG (n:Int) (x:Nat):Nat:=if n % 15<12 then zKz.getD (n % 15).toNat 0 else x
structure RN where
 k:Int
 m:Int
 t:Int
 x:Nat
 d:List UInt8
abbrev rnc (k m t:Int) (x:Nat) (d:List UInt8):List CV:=[.p (.i .i64 k),.p (.i .i64 m),.p (.i .i64 t),.p (.f x),.p (.sl 1 (bT d))]
attribute [go_sem] rnc
def zE2 (m:Int):List UInt8 :=
 let a:=if m.tmod 4 == 0 then [46,46,47]++pE m else pE m
 if m.tmod 5 == 0 then [47]++a else a
def zGR (x:RN):List UInt8:=if 1+x.k % 3 == 1 then x.d.take 60 else if 1+x.k % 3 == 3 then zE2 x.m else []
def AV (x:RN):Nd:=⟨1+x.k % 3,x.m % 4096,dA (PG x.t x.x),zGR x⟩
theorem zFI {n m:Int} (hm:0<m) (h:¬ n.tmod m<0):n.tmod m=n % m:=by
 rw [Int.tmod_eq_emod] at h ⊢
 split
 ·simp
 ·rename_i hc
  rw [if_neg hc] at h
  have:=Int.emod_lt_of_pos n hm
  omega
theorem tmod_neg {n m:Int} (hm:0<m) (h:n.tmod m<0):n.tmod m+m=n % m:=by
 rw [Int.tmod_eq_emod] at h ⊢
 split
 ·rename_i hc
  rw [if_pos hc] at h
  have:=Int.emod_nonneg n (show m≠0 by omega)
  omega
 ·omega
theorem nO (n:Int):(LP n).length≤3:=by
 unfold LP
 have h1:=Int.emod_nonneg n (show (6:Int)≠0 by decide)
 have h2:=Int.emod_lt_of_pos n (show (0:Int)<6 by decide)
 generalize n % 6=k at h1 h2
 have:k=0∨k=1∨k=2∨k=3∨k=4∨k=5:=by omega
 rcases this with rfl|rfl|rfl|rfl|rfl|rfl <;> decide
theorem HR:∀ (k:Nat) (n:Int) (p:List UInt8),(KP k n p).length≤p.length+4*k
 | 0,_,_=>by simp [KP]
 | k+1,n,p=>by
  have h1:=HR k (n / 7) (p++47::LP (n / 7))
  have h2:=nO (n / 7)
  simp only [KP,List.length_append,List.length_cons] at h1 ⊢
  omega
theorem lE (n:Int):(pE n).length≤11:=by
 have h1:=HR (n % 1073741824 / 6 % 3).toNat (n % 1073741824) (LP (n % 1073741824))
 have h2:=nO (n % 1073741824)
 unfold pE
 omega
theorem zBm (m:Int):(zE2 m).length≤15:=by
 have:=lE m
 unfold zE2
 simp only
 split <;> split <;> simp <;> omega
theorem KY (x:RN):(zGR x).length≤60:=by
 unfold zGR
 have:=zBm x.m
 split
 ·simp;omega
 ·split
  ·omega
  ·simp
end Go.Dm
end
section
namespace Go.Dm
open Go
def Nd.wf (x:Nd):Prop:=x.t<18446744073709551616
theorem qN {x y:Nd} (hx:x.wf) (hy:y.wf):mQ x y=fS x y:=by
 unfold mQ fS
 rw [SG hx hy]
 cases x.k == y.k <;> cases x.m == y.m <;> cases x.d == y.d <;> cases dA x.t == dA y.t <;> rfl
theorem pP (x:Nd):fS x x=true:=by simp [fS]
theorem TA {n:Int} {x:Nat} (hx:x<18446744073709551616):PG n x<18446744073709551616:=by
 unfold PG
 split
 ·rename_i h
  have h1:=Int.emod_nonneg n (show (15:Int)≠0 by decide)
  generalize n % 15=k at h h1
  have:k=0∨k=1∨k=2∨k=3∨k=4∨k=5∨k=6∨k=7∨k=8∨k=9∨k=10∨k=11:=by omega
  rcases this with rfl|rfl|rfl|rfl|rfl|rfl|rfl|rfl|rfl|rfl|rfl|rfl <;> decide
 ·exact hx
theorem vL {x:RN} (hx:x.x<18446744073709551616):(AV x).wf:=lU (TA hx)
end Go.Dm
end
section
namespace Go.Dm
open Go
structure It where
 p:List UInt8
 n:Nd
def It.cs (x:It):List PV:=[.s x.p,.i .i64 x.n.k,.i .i64 x.n.m,.f x.n.t,.sl 1 (bT x.n.d)]
def aT (t:List It):List (List PV):=t.map It.cs
theorem cT (t:List It):(aT t).length=t.length:=by simp [aT]
theorem dR:aT []=[]:=rfl
theorem zE5 (a b:List It):aT a++aT b=aT (a++b):=by simp [aT]
theorem AB (a:List It) (n:Nat):(aT a).take n=aT (a.take n):=by simp [aT]
theorem zC5 (a:List It) (n:Nat):(aT a).drop n=aT (a.drop n):=by simp [aT]
theorem zGd (t:List It):(∀ x∈aT t,x.length=5)=True:=eq_true fun x hx=>by
 simp only [aT,List.mem_map] at hx
 obtain ⟨y,_,rfl⟩:=hx
 rfl
theorem cB {t:List It} {k:Nat} {x:It} (h:t[k]? = some x):(aT t).getD k []=[.s x.p,.i .i64 x.n.k,.i .i64 x.n.m,.f x.n.t,.sl 1 (bT x.n.d)]:=by
 simp only [aT,List.getD_eq_getElem?_getD,List.getElem?_map,h]
 rfl
theorem zA2 (t:List It) (p:List UInt8) (k m:Int) (tt:Nat) (d:List UInt8):aT t++[[.s p,.i .i64 k,.i .i64 m,.f tt,.sl 1 (bT d)]]=aT (t++[⟨p,⟨k,m,tt,d⟩⟩]):=by simp [aT,It.cs]
theorem zKI (x:It):It.mk x.p x.n=x:=rfl
attribute [go_sem] cT dR zE5 AB zC5 zGd zA2 zKI Nat.sub_zero
theorem drop_at {α:Type} {l:List α} {k:Nat} {x:α} (h:l[k]? = some x):l.drop k=x::l.drop (k+1):=by
 have:=List.getElem?_eq_some_iff.1 h
 obtain ⟨h1,h2⟩:=this
 rw [← h2];exact List.drop_eq_getElem_cons h1
def aO (p q:List UInt8):Bool:=if p == [] then !(q == []) else (decide ((q.length:Int) > p.length+1) && q.take (p.length+1) == p++[47]) || (decide ((q.length:Int)=p.length+1) && q == p++[47])
def bD (t:List It) (p:List UInt8):List It:=t.filter fun x=>!aO p x.p
def cZ (p:List UInt8):Nat→Option Nat
 | 0=>none
 | j+1=>if ((p.getD j 0).toNat:Int) == 47 then some j else cZ p j
def aS (p:List UInt8):List UInt8:=match cZ p p.length with
 | some j=>p.take j
 | none=>[]
def nJ (b:UInt8):Bool:=!(((b.toNat:Int) == 0) || ((b.toNat:Int) == 47))
def aX (s:List UInt8):Bool:=s.all nJ && (decide ((1:Int)≤s.length) && decide ((s.length:Int)≤24) && !(s == [46]) && !(s == [46,46]))
def vS:List UInt8→List UInt8→List (List UInt8)
 | w,[]=>[w]
 | w,b::r=>if ((b.toNat:Int) == 47) then w::vS [] r else vS (w++[b]) r
def oL (s:List UInt8):List (List UInt8):=vS [] s
def bV (p:List UInt8):Bool:=p == [] || ((oL p).all aX && decide ((p.length:Int)≤120))
def encS (l:List (List UInt8)):List (List PV):=l.map fun s=>[.s s]
theorem oB (t:List (List UInt8)):(encS t).length=t.length:=by simp [encS]
theorem lS:encS []=[]:=rfl
theorem zF3 (a b:List (List UInt8)):encS a++encS b=encS (a++b):=by simp [encS]
theorem zAr (a:List (List UInt8)) (n:Nat):(encS a).take n=encS (a.take n):=by simp [encS]
theorem zEh (a:List (List UInt8)) (n:Nat):(encS a).drop n=encS (a.drop n):=by simp [encS]
theorem zFq (t:List (List UInt8)):(∀ x∈encS t,x.length=1)=True:=eq_true fun x hx=>by
 simp only [encS,List.mem_map] at hx
 obtain ⟨y,_,rfl⟩:=hx
 rfl
theorem encS_at {t:List (List UInt8)} {k:Nat} {x:List UInt8} (h:t[k]? = some x):(encS t).getD k []=[.s x]:=by
 simp only [encS,List.getD_eq_getElem?_getD,List.getElem?_map,h]
 rfl
theorem zEb (t:List (List UInt8)) (p:List UInt8):encS t++[[.s p]]=encS (t++[p]):=by simp [encS]
attribute [go_sem] oB lS zF3 zAr zEh zFq zEb
theorem NZ {l:List UInt8} {k:Nat} {x:UInt8} (h:l[k]? = some x):l.getD k 0=x:=by simp [List.getD_eq_getElem?_getD,h]
theorem zK0 {l:List UInt8} {k:Nat} {x:UInt8} (h:l[k]? = some x):(l.take (k+1)).drop k=[x]:=by
 have:=List.getElem?_eq_some_iff.1 h
 obtain ⟨h1,rfl⟩:=this
 rw [List.take_succ_eq_append_getElem h1,List.drop_append_of_le_length (by simp;omega)]
 simp
theorem nY:∀ (s w:List UInt8),(vS w s).length≤s.length+1
 | [],w=>by simp [vS]
 | b::r,w=>by
  simp only [vS]
  split
  ·have:=nY r [];simp;omega
  ·have:=nY r (w++[b]);simp;omega
theorem rV:∀ (s w:List UInt8) (x:List UInt8),x∈vS w s→x.length≤w.length+s.length
 | [],w,x,h=>by simp [vS] at h;subst h;simp
 | b::r,w,x,h=>by
  simp only [vS] at h
  split at h
  ·rcases List.mem_cons.1 h with rfl|h
   ·simp
   ·have:=rV r [] x h;simp at this ⊢;omega
  ·have:=rV r (w++[b]) x h;simp at this ⊢;omega
def aR:List It→List UInt8→Option Nd
 | [],_=>none
 | x::r,p=>if x.p == p then some x.n else aR r p
def aW (t:List It) (p:List UInt8):Bool:=p == [] || (match aR t p with
 | some n=>n.k == 2
 | none=>false)
def uC (p:List UInt8) (n:Nd):Bool→List It→List It
 | done,[]=>if done then [] else [⟨p,n⟩]
 | done,x::r=>(if !done && !bO x.p p then [⟨p,n⟩] else [])++((if !(x.p == p) then [x] else [])++uC p n (done || !bO x.p p) r)
def qE (t:List It) (p:List UInt8) (n:Nd):List It:=uC p n false t
def lB (t:List It) (p:List UInt8):List It:=t.filter fun x=>!(x.p == p)
def bN (t:List It) (p:List UInt8):List It:=lB (bD t p) p
theorem zJn {t:List UInt8} {k:Nat} {x:UInt8} (h:t[k]? = some x):(bT t).getD k []=[.i .u8 x.toNat]:=by
 simp only [bT,List.getD_eq_getElem?_getD,List.getElem?_map,h]
 rfl
def iZ (b:List UInt8):Bool:=b.all (fun b=>!((b.toNat:Int) == 0)) && (decide ((1:Int)≤b.length) && decide ((b.length:Int)≤120))
theorem LC (n:Nat) (h:n<9223372036854775808):IntKind.i64.wrap (no_index (OfNat.ofNat n))=OfNat.ofNat n:=wrap_i64 (by show _≤(n:Int);omega) (by show (n:Int)≤_;omega)
theorem HJ (n:Nat) (h:n<9223372036854775808):IntKind.u64.wrap (no_index (OfNat.ofNat n))=OfNat.ofNat n:=wrap_u64 (by show _≤(n:Int);omega) (by show (n:Int)≤_;omega)
theorem PJ:IntKind.i64.wrap (-1) = -1:=wrap_i64 (by decide) (by decide)
theorem BX (z:Int):(0≤IntKind.u8.wrap z)=True:=eq_true (by
 simp only [IntKind.wrap,IntKind.bits,IntKind.signed,Bool.false_and]
 split <;> rename_i h
 ·simp at h
 ·exact Int.emod_nonneg _ (by decide))
theorem CN (z:Int):(IntKind.u8.wrap z≤255)=True:=eq_true (by
 simp only [IntKind.wrap,IntKind.bits,IntKind.signed,Bool.false_and]
 split <;> rename_i h
 ·simp at h
 ·have:=Int.emod_lt_of_pos z (show (0:Int)<2 ^ 8 by decide);omega)
attribute [go_sem] BX CN
def vA (x:Nat) (k:Nat):UInt8:=UInt8.ofNat (IntKind.u8.wrap ((x:Int).fdiv (2 ^ k))).toNat
def MG (x:Nat):List UInt8:=[vA x 56,vA x 48,vA x 40,vA x 32,vA x 24,vA x 16,vA x 8,vA x 0]
def zL (x:Nat):Bool:=MG x == MG (dA x)
def aU (n:Nd):Bool:=!(decide (n.m<0) || decide (4095<n.m) || !zL n.t) && (if n.k == 1 then decide ((n.d.length:Int)≤2000) else if n.k == 2 then (n.d.length:Int) == 0 else if n.k == 3 then iZ n.d else false)
def jQ (t:List It) (p:List UInt8) (n:Nd):List It × Int :=
 if p == [] || !bV p || !aU n then ([],1) else if !aW t (aS p) then ([],9)
 else if decide ((120:Int)<(qE (if n.k != 2 then bD t p else t) p n).length) then ([],16) else (qE (if n.k != 2 then bD t p else t) p n,0)
theorem TQ (p:List UInt8) (n:Nd):∀ (t:List It) (d:Bool),(uC p n d t).length≤t.length+(if d then 0 else 1)
 | [],d=>by cases d <;> simp [uC]
 | x::r,d=>by
  have h:=TQ p n r (d || !bO x.p p)
  simp only [uC,List.length_append,List.length_cons]
  cases d <;> cases hb:bO x.p p <;> cases hp:x.p == p <;> simp [hb] at h ⊢ <;> omega
theorem lP (t:List It) (p:List UInt8) (n:Nd):(qE t p n).length≤t.length+1:=TQ p n t false
theorem lK (t:List It) (p:List UInt8):(bD t p).length≤t.length:=List.length_filter_le ..
theorem PU (t:List It) (p:List UInt8):(bN t p).length≤t.length:=Nat.le_trans (List.length_filter_le ..) (lK t p)
def dV (a b:List UInt8):List It→List It→List It × Int
 | out,[]=>(out,0)
 | out,x::r=>if !(x.p == a) && !aO a x.p then dV a b out r else if decide ((120:Int)<(b.length+(x.p.drop a.length).length:Nat)) then ([],12) else dV a b (qE out (b++x.p.drop a.length) x.n) r
def hD (t:List It) (a b:List UInt8):List It × Int :=
 if a == [] || b == [] || !bV a || !bV b then ([],1) else if !(aR t a).isSome then ([],6) else if aO a b then ([],18) else if (aR t b).isSome then ([],7) else if !aW t (aS b) then ([],9) else dV a b (bN t a) t
theorem dG {a q:List UInt8} (h:aO a q=true):a.length≤q.length:=by
 unfold aO at h
 split at h
 ·rename_i h1;have h1:=eq_of_beq h1;subst h1;simp
 ·simp only [Bool.or_eq_true,Bool.and_eq_true,decide_eq_true_eq] at h
  omega
def SP (R:DV→aD→Prop):Exit→DS→Prop
 | .normal,s=>R (.tup []) s.h
 | .ret,s=>R (.tup []) s.h
 | _,_=>False
theorem zGi {R:DV→aD→Prop} {s:DS}:SP R .normal s=R (.tup []) s.h:=nr rfl
theorem zGH {R:DV→aD→Prop} {s:DS}:SP R .ret s=R (.tup []) s.h:=nr rfl
theorem zMt {P:Program} {T:Tab} (hT:bL P T) (hm:P.follows .mixedOrders=true) {f:FuncId} {fn:Func} {c:Code} {args:List DV} {h:aD} {R:DV→aD→Prop} (hf:P.funcs[f]? = some fn) (hb:fn.body=some c)
  (hc:(Nat.ble args.length fn.ntmps && (!(fn.name == "runtime.NumGoroutine") && fn.results.toList.isEmpty))=true)
  (hs:∀ X0:Ctx,X0.h=h→vc P T X0 c ⟨fn.ntmps,kG 0 args,h⟩ (SP R)):aA P f args h R:=by
 simp only [Bool.and_eq_true,Bool.not_eq_true',List.isEmpty_iff] at hc
 refine eN hT hf hb (Nat.le_of_ble_eq_true hc.1) hc.2.1 fun X0 hX=>?_
 rw [fH,hc.2.2]
 refine fE (dI hT hm c (hs X0 hX)) fun e s h=>?_
 cases e <;> simp only [SP,dpost] at h ⊢
 case normal=>exact .inl h
 case ret=>exact .inl h
attribute [go_sem] zGi zGH
end Go.Dm
end
end
