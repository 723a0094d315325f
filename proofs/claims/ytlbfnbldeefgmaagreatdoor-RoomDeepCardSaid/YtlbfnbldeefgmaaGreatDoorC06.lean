/- Part 7 of the proof of roomDeep_card, set without needless blanks. No condition. -/
import Derived.Test.YtlbfnbldeefgmaaGreatDoorC03
set_option linter.all false
section
section
namespace Go.Dm
open Go
def rg (w:Nat):Nat:=w % 9223372036854775808
def sn (w:Nat):Bool:=w / 9223372036854775808 % 2 == 1
def mgn (r:Nat):Nat:=if r<4503599627370496 then r else 4503599627370496+r % 4503599627370496
def plc (r:Nat):Nat:=if r<4503599627370496 then 0 else r / 4503599627370496-1
def mv (r:Nat):Nat:=mgn r*2 ^ plc r
def sg (s:Bool) (v:Nat):Int:=if s then -(v:Int) else v
theorem zA4 (r:Nat):mv r<mv (r+1):=by
 unfold mv mgn plc;by_cases h1:r+1<4503599627370496
 ·rw [if_pos (by omega),if_pos (by omega),if_pos h1,if_pos h1];simp
 ·by_cases h2:r<4503599627370496
  ·have:r+1=4503599627370496:=by omega
   rw [if_pos h2,if_pos h2,this];simp;omega
  ·rw [if_neg h2,if_neg h2,if_neg h1,if_neg h1];have he:1≤r / 4503599627370496:=by omega
   by_cases h3:r % 4503599627370496+1<4503599627370496
   ·have e1:(r+1) / 4503599627370496=r / 4503599627370496:=by omega
    have e2:(r+1) % 4503599627370496=r % 4503599627370496+1:=by omega
    rw [e1,e2];exact Nat.mul_lt_mul_of_pos_right (by omega) (Nat.two_pow_pos _)
   ·have e1:(r+1) / 4503599627370496-1=(r / 4503599627370496-1)+1:=by omega
    have e2:(r+1) % 4503599627370496=0:=by omega
    rw [e1,e2,Nat.pow_succ];have hp:=Nat.two_pow_pos (r / 4503599627370496-1);generalize 2 ^ (r / 4503599627370496-1)=p at hp ⊢;generalize hm:r % 4503599627370496=m at h3;have hm':m<4503599627370496:=by omega
    have:(4503599627370496+m)*p<(4503599627370496+4503599627370496)*p:=Nat.mul_lt_mul_of_pos_right (by omega) hp;have e3:(4503599627370496+0)*(p*2)=(4503599627370496+4503599627370496)*p:=by rw [Nat.add_zero,Nat.mul_comm p 2,← Nat.mul_assoc]
    rw [e3];exact this
theorem zEk {r q:Nat} (h:r<q):mv r<mv q:=by
 induction q with
 | zero=>omega
 | succ q ih =>
  rcases Nat.lt_or_ge r q with h'|h'
  ·exact Nat.lt_trans (ih h') (zA4 q)
  ·have:r=q:=by omega
   subst this;exact zA4 r
theorem GY {r q:Nat}:mv r<mv q↔r<q:=by
 refine ⟨fun h=>?_,zEk⟩;rcases Nat.lt_or_ge r q with h'|h'
 ·exact h'
 ·rcases Nat.eq_or_lt_of_le h' with h2|h2
  ·subst h2;omega
  ·have:=zEk h2;omega
theorem CH:mv 0=0:=by decide
theorem kW {w:Nat} (h:rg w<9218868437227405312):Ieee.double.read w=.number (sn w) (mgn (rg w)) (-1074+(plc (rg w):Int)):=by
 have e1:Ieee.double.signWeight=9223372036854775808:=by decide
 have e2:Ieee.double.binade=4503599627370496:=by decide
 have e3:Ieee.double.infRung=9218868437227405312:=by decide
 have e4:Ieee.double.leastPlace = -1074:=by decide
 simp only [Ieee.Format.read,e1,e2,e3,e4];simp only [rg] at h ⊢;unfold mgn plc sn;by_cases h1:w % 9223372036854775808<4503599627370496
 ·simp only [if_pos h1];rfl
 ·simp only [if_neg h1,if_pos h]
theorem tP {w:Nat} (h:rg w=9218868437227405312):Ieee.double.read w=.infinity (sn w):=by
 have e1:Ieee.double.signWeight=9223372036854775808:=by decide
 have e2:Ieee.double.binade=4503599627370496:=by decide
 have e3:Ieee.double.infRung=9218868437227405312:=by decide
 simp only [Ieee.Format.read,e1,e2,e3];simp only [rg] at h;rw [h];rfl
theorem zEA {w:Nat} (h:9218868437227405312<rg w):∃ s f,Ieee.double.read w=.nan s f:=by
 have e1:Ieee.double.signWeight=9223372036854775808:=by decide
 have e2:Ieee.double.binade=4503599627370496:=by decide
 have e3:Ieee.double.infRung=9218868437227405312:=by decide
 simp only [Ieee.Format.read,e1,e2,e3];simp only [rg] at h;rw [if_neg (by omega),if_neg (by omega),if_neg (by omega)];exact ⟨_,_,rfl⟩
def KH (a b:Int):Ordering:=if a<b then .lt else if a=b then .eq else .gt
theorem KJ (a b:Int):compare a b=KH a b:=rfl
theorem QV {a b c d:Int} (h1:a<b↔c<d) (h2:a=b↔c=d):KH a b=KH c d:=by
 unfold KH;by_cases x:a<b
 ·rw [if_pos x,if_pos (h1.1 x)]
 ·rw [if_neg x,if_neg (fun h=>x (h1.2 h))];by_cases y:a=b
  ·rw [if_pos y,if_pos (h2.1 y)]
  ·rw [if_neg y,if_neg (fun h=>y (h2.2 h))]
theorem LA {a b:Nat} (ha:rg a<9218868437227405312) (hb:rg b<9218868437227405312):FW a b=some (KH (sg (sn a) (rg a)) (sg (sn b) (rg b))):=by
 show Ieee.double.order a b=_;simp only [Ieee.Format.order,kW ha,kW hb,Ieee.Datum.order,KJ]
 congr 1
 generalize hx:(-1074+(plc (rg a):Int)-min (-1074+(plc (rg a):Int)) (-1074+(plc (rg b):Int))).toNat=x;generalize hy:(-1074+(plc (rg b):Int)-min (-1074+(plc (rg a):Int)) (-1074+(plc (rg b):Int))).toNat=y;have hx':plc (rg a)=x+min (plc (rg a)) (plc (rg b)):=by omega
 have hy':plc (rg b)=y+min (plc (rg a)) (plc (rg b)):=by omega
 generalize min (plc (rg a)) (plc (rg b))=z at hx' hy';have ea:mv (rg a)=(mgn (rg a) <<< x)*2 ^ z:=by rw [mv,hx',Nat.pow_add,Nat.shiftLeft_eq,Nat.mul_assoc]
 have eb:mv (rg b)=(mgn (rg b) <<< y)*2 ^ z:=by rw [mv,hy',Nat.pow_add,Nat.shiftLeft_eq,Nat.mul_assoc]
 have hz:=Nat.two_pow_pos z;have l1:(mgn (rg a) <<< x)<(mgn (rg b) <<< y)↔rg a<rg b:=by
  rw [← GY (r:=rg a),ea,eb];exact ⟨fun h=>Nat.mul_lt_mul_of_pos_right h hz,fun h=>Nat.lt_of_mul_lt_mul_right h⟩
 have l2:(mgn (rg b) <<< y)<(mgn (rg a) <<< x)↔rg b<rg a:=by
  rw [← GY (r:=rg b),ea,eb];exact ⟨fun h=>Nat.mul_lt_mul_of_pos_right h hz,fun h=>Nat.lt_of_mul_lt_mul_right h⟩
 have z1:mgn (rg a) <<< x=0↔rg a=0:=by
  constructor
  ·intro h;rw [h,Nat.zero_mul,← CH] at ea;rcases Nat.lt_or_ge 0 (rg a) with h'|h'
   ·have:=zEk h';omega
   ·omega
  ·intro h;rw [h,CH] at ea;rw [h];rcases Nat.eq_zero_or_pos (mgn 0 <<< x) with h'|h'
   ·exact h'
   ·have:=Nat.mul_pos h' hz;omega
 have z2:mgn (rg b) <<< y=0↔rg b=0:=by
  constructor
  ·intro h;rw [h,Nat.zero_mul,← CH] at eb;rcases Nat.lt_or_ge 0 (rg b) with h'|h'
   ·have:=zEk h';omega
   ·omega
  ·intro h;rw [h,CH] at eb;rw [h];rcases Nat.eq_zero_or_pos (mgn 0 <<< y) with h'|h'
   ·exact h'
   ·have:=Nat.mul_pos h' hz;omega
 simp only [Ieee.signed];generalize mgn (rg a) <<< x=A at *;generalize mgn (rg b) <<< y=B at *;unfold sg;refine QV ?_ ?_
 ·cases sn a <;> cases sn b <;> simp <;> omega
 ·cases sn a <;> cases sn b <;> simp <;> omega
theorem BO {a b:Nat} (ha:rg a≤9218868437227405312) (hb:rg b≤9218868437227405312):FW a b=some (KH (sg (sn a) (rg a)) (sg (sn b) (rg b))):=by
 rcases Nat.lt_or_ge (rg a) 9218868437227405312 with h1|h1 <;> rcases Nat.lt_or_ge (rg b) 9218868437227405312 with h2|h2
 ·exact LA h1 h2
 ·have h2':rg b=9218868437227405312:=by omega
  show Ieee.double.order a b=_;simp only [Ieee.Format.order,kW h1,tP h2',Ieee.Datum.order]
  congr 1
  rw [h2'];unfold KH sg;cases sn a <;> cases sn b <;> simp <;> (repeat' split) <;> first|rfl|omega
 ·have h1':rg a=9218868437227405312:=by omega
  show Ieee.double.order a b=_;simp only [Ieee.Format.order,kW h2,tP h1',Ieee.Datum.order]
  congr 1
  rw [h1'];unfold KH sg;cases sn a <;> cases sn b <;> simp <;> (repeat' split) <;> first|rfl|omega
 ·have h1':rg a=9218868437227405312:=by omega
  have h2':rg b=9218868437227405312:=by omega
  show Ieee.double.order a b=_;simp only [Ieee.Format.order,tP h1',tP h2',Ieee.Datum.order]
  congr 1
  rw [h1',h2'];cases sn a <;> cases sn b <;> decide
theorem RZ {a b:Nat} (ha:9218868437227405312<rg a):FW a b=none:=by
 obtain ⟨s,f,h⟩:=zEA ha;show Ieee.double.order a b=_;simp only [Ieee.Format.order,h,Ieee.Datum.order]
end Go.Dm
end
section
namespace Go.Dm
open Go
def isNaN (x:Nat):Bool:=FW x x != some .eq
def AM:Nat:=9221120237041090561
def cW (x:Nat):Nat:=if isNaN x then AM else x
def SX (x:Nat):Bool:=decide (IntKind.i64.wrap x<0)
def jE (x:Nat):Int × Int:=if isNaN x then (1,0) else if FW x 0 == some .eq && SX x then (0,-1) else (0,0)
def KG (a b:Int):Int:=if a<b then -1 else if b<a then 1 else 0
def zHU (a b:Nat):Int:=if isNaN a then (if isNaN b then 0 else -1) else if isNaN b then 1 else if FW a b == some .lt then -1 else if FW a b == some .gt then 1 else 0
def sI (a b:Nat):Int:=if 0<IntKind.i64.wrap ((jE a).1+(jE b).1) then KG (jE a).1 (jE b).1 else if zHU a b == 0 then KG (jE a).2 (jE b).2 else zHU a b
theorem XF (a:Int):KH a a=.eq:=by unfold KH;rw [if_neg (by omega),if_pos rfl]
theorem lZ (x:Nat):isNaN x=decide (9218868437227405312<rg x):=by
 unfold isNaN;rcases Nat.lt_or_ge 9218868437227405312 (rg x) with h|h
 ·rw [RZ h,decide_eq_true h];rfl
 ·rw [BO h h,XF,decide_eq_false (by omega)];rfl
theorem zIY (x:Nat):rg x<9223372036854775808:=Nat.mod_lt _ (by omega)
theorem vI:isNaN AM=true:=by rw [lZ];decide
theorem pB {x:Nat} (h:x<18446744073709551616):cW x<18446744073709551616:=by
 unfold cW;split
 ·decide
 ·exact h
theorem QN (x:Nat):cW (cW x)=cW x:=by
 unfold cW;by_cases h:isNaN x=true
 ·rw [if_pos h,if_pos vI]
 ·rw [if_neg h,if_neg h]
theorem zEl {x:Nat} (h:x<18446744073709551616):SX x=decide (9223372036854775808≤x):=by
 unfold SX
 congr 1
 simp only [IntKind.wrap,IntKind.bits,IntKind.signed,Bool.true_and,eq_iff_iff];split <;> rename_i h' <;> simp at h' <;> omega
def tL (x:Nat):Int:=if isNaN x then 9223372036854775808 else if sn x then -(rg x:Int)-1 else rg x
theorem CB {x:Nat} (hn:isNaN x=false):tL x≤9218868437227405312:=by
 unfold tL;rw [hn];rw [lZ] at hn;have:=of_decide_eq_false hn;simp only [Bool.false_eq_true,if_false];split <;> omega
theorem zH2 (p q:Int):(some (KH p q) == some Ordering.lt)=decide (p<q):=by
 unfold KH;by_cases h:p<q
 ·rw [if_pos h,decide_eq_true h];rfl
 ·rw [if_neg h,decide_eq_false h];split <;> rfl
theorem zH1 (p q:Int):(some (KH p q) == some Ordering.gt)=decide (q<p):=by
 unfold KH;by_cases h:p<q
 ·rw [if_pos h,decide_eq_false (by omega)];rfl
 ·rw [if_neg h];by_cases h':p=q
  ·rw [if_pos h',decide_eq_false (by omega)];rfl
  ·rw [if_neg h',decide_eq_true (by omega)];rfl
theorem XE (p q:Int):(KG p q == 0)=decide (p=q):=by
 unfold KG;by_cases h:p<q
 ·rw [if_pos h,decide_eq_false (by omega)];rfl
 ·rw [if_neg h];by_cases h':q<p
  ·rw [if_pos h',decide_eq_false (by omega)];rfl
  ·rw [if_neg h',decide_eq_true (by omega)];rfl
theorem TA {x y:Nat} (hx:x<18446744073709551616) (hy:y<18446744073709551616):sI x y=KG (tL x) (tL y):=by
 have w2:IntKind.i64.wrap (1+1)=2:=by decide
 have w1:IntKind.i64.wrap (1+0)=1:=by decide
 have w1':IntKind.i64.wrap (0+1)=1:=by decide
 have w0:IntKind.i64.wrap (0+0)=0:=by decide
 have s1:∀ z,isNaN z=true→jE z=(1,0):=fun z h=>by unfold jE;rw [if_pos h]
 have s0:∀ z,z<18446744073709551616→isNaN z=false→(jE z).1=0∧(jE z).2=if rg z=0∧sn z=true then -1 else 0:=by
  intro z hz h;have hr:rg z≤9218868437227405312:=by rw [lZ] at h;have:=of_decide_eq_false h;omega
  have e:(FW z 0 == some Ordering.eq)=decide (rg z=0):=by
   rw [BO hr (by decide)];have:sg (sn 0) (rg 0)=0:=by decide
   rw [this];by_cases hz:rg z=0
   ·rw [hz,decide_eq_true rfl];cases sn z <;> rfl
   ·rw [decide_eq_false hz];unfold KH sg;cases sn z <;> simp only [Bool.false_eq_true,if_false,if_true]
    ·rw [if_neg (by omega),if_neg (by omega)];rfl
    ·rw [if_pos (by omega)];rfl
  have e2:SX z=sn z:=by
   rw [zEl hz];unfold sn;rcases Nat.lt_or_ge z 9223372036854775808 with h'|h'
   ·have:z / 9223372036854775808=0:=by omega
    rw [this,decide_eq_false (by omega)];rfl
   ·have:z / 9223372036854775808=1:=by omega
    rw [this,decide_eq_true h'];rfl
  unfold jE;rw [h,e,e2];simp only [Bool.false_eq_true,if_false];by_cases hz0:rg z=0 <;> cases hsn:sn z <;> simp [hz0]
 unfold sI;by_cases h1:isNaN x=true <;> by_cases h2:isNaN y=true
 ·rw [s1 x h1,s1 y h2];simp only [w2];rw [if_pos (by decide)];unfold tL;rw [if_pos h1,if_pos h2];rfl
 ·have h2':isNaN y=false:=by simpa using h2
  rw [s1 x h1,(s0 y hy h2').1];simp only [w1];rw [if_pos (by decide)];have:=CB h2';unfold KG;have e:tL x=9223372036854775808:=by unfold tL;rw [if_pos h1]
  rw [e,if_neg (by omega),if_pos (by omega),if_neg (by omega),if_pos (by omega)]
 ·have h1':isNaN x=false:=by simpa using h1
  rw [s1 y h2,(s0 x hx h1').1];simp only [w1'];rw [if_pos (by decide)];have:=CB h1';unfold KG;have e:tL y=9223372036854775808:=by unfold tL;rw [if_pos h2]
  rw [e,if_pos (by omega),if_pos (by omega)]
 ·have h1':isNaN x=false:=by simpa using h1
  have h2':isNaN y=false:=by simpa using h2
  rw [(s0 x hx h1').1,(s0 y hy h2').1,(s0 x hx h1').2,(s0 y hy h2').2,w0,if_neg (by decide)];have hr1:rg x≤9218868437227405312:=by rw [lZ] at h1';have:=of_decide_eq_false h1';omega
  have hr2:rg y≤9218868437227405312:=by rw [lZ] at h2';have:=of_decide_eq_false h2';omega
  have ef:zHU x y=KG (sg (sn x) (rg x)) (sg (sn y) (rg y)):=by
   unfold zHU;rw [h1',h2',BO hr1 hr2,zH2,zH1];unfold KG;simp only [Bool.false_eq_true,if_false,decide_eq_true_eq]
  rw [ef,XE];unfold tL;rw [h1',h2'];simp only [Bool.false_eq_true,if_false,decide_eq_true_eq];unfold KG sg;cases sn x <;> cases sn y <;> simp only [Bool.false_eq_true,if_false,if_true,and_false,and_true] <;> (repeat' split) <;> first|rfl|omega
theorem MA {x y:Nat} (hx:x<18446744073709551616) (hy:y<18446744073709551616):(sI x y == 0)=(cW x == cW y):=by
 rw [TA hx hy];have e:(KG (tL x) (tL y) == 0)=decide (tL x=tL y):=by
  unfold KG;by_cases h:tL x<tL y
  ·rw [if_pos h,decide_eq_false (by omega)];rfl
  ·rw [if_neg h];by_cases h':tL y<tL x
   ·rw [if_pos h',decide_eq_false (by omega)];rfl
   ·rw [if_neg h',decide_eq_true (by omega)];rfl
 rw [e];unfold cW;by_cases h1:isNaN x=true <;> by_cases h2:isNaN y=true
 ·unfold tL;simp only [if_pos h1,if_pos h2];simp
 ·have:=CB (x:=y) (by simpa using h2);have e:tL x=9223372036854775808:=by unfold tL;rw [if_pos h1]
  rw [e,if_pos h1,if_neg h2,decide_eq_false (by omega)];symm;rw [beq_eq_false_iff_ne];intro h;exact h2 (h▸vI)
 ·have:=CB (x:=x) (by simpa using h1);have e:tL y=9223372036854775808:=by unfold tL;rw [if_pos h2]
  rw [e,if_neg h1,if_pos h2,decide_eq_false (by omega)];symm;rw [beq_eq_false_iff_ne];intro h;exact h1 (h▸vI)
 ·rw [if_neg h1,if_neg h2];rw [Bool.eq_iff_iff,decide_eq_true_iff,beq_iff_eq];unfold tL;rw [if_neg h1,if_neg h2];constructor
  ·intro h;have ex:x=(if sn x then 9223372036854775808 else 0)+rg x:=by
    unfold sn rg;rcases Nat.lt_or_ge x 9223372036854775808 with h'|h'
    ·have:x / 9223372036854775808=0:=by omega
     rw [this];simp;omega
    ·have:x / 9223372036854775808=1:=by omega
     rw [this];simp;omega
   have ey:y=(if sn y then 9223372036854775808 else 0)+rg y:=by
    unfold sn rg;rcases Nat.lt_or_ge y 9223372036854775808 with h'|h'
    ·have:y / 9223372036854775808=0:=by omega
     rw [this];simp;omega
    ·have:y / 9223372036854775808=1:=by omega
     rw [this];simp;omega
   rw [ex,ey];have l1:=zIY x;have l2:=zIY y;cases hsx:sn x <;> cases hsy:sn y <;> simp only [hsx,hsy,Bool.false_eq_true,if_false,if_true] at h ⊢ <;> omega
  ·intro h;subst h;rfl
end Go.Dm
end
section
namespace Go.Dm
open Go
structure Nd where
 k:Int
 m:Int
 t:Nat
 d:List UInt8
abbrev ndc (k m:Int) (t:Nat) (d:List UInt8):List CV:=[.p (.i .i64 k),.p (.i .i64 m),.p (.f t),.p (.sl 1 (bW d))]
abbrev Nd.cv (x:Nd):List CV:=[.p (.i .i64 x.k),.p (.i .i64 x.m),.p (.f x.t),.p (.sl 1 (bW x.d))]
attribute [go_sem] Nd.cv ndc
theorem zIL (x:Nd):Nd.mk x.k x.m x.t x.d=x:=rfl
attribute [go_sem] zIL
def sH (x y:Nd):Bool:=x.k == y.k && x.m == y.m && (sI x.t y.t == 0) && x.d == y.d
def iS (x y:Nd):Bool:=x.k == y.k && x.m == y.m && x.d == y.d && (cW x.t == cW y.t)
def Nd.ok (x:Nd):Prop:=x.d.length≤140737488355328
def nd0:Nd:=⟨0,0,0,[]⟩
end Go.Dm
end
section
namespace Go.Dm
open Go
def zIK:List (List UInt8):=[[97],[98],[99],[100,46,101],[102,45,49],[255]]
def rJ (n:Int):List UInt8:=zIK.getD (n % 6).toNat []
def HF:Nat→Int→List UInt8→List UInt8
 | 0,_,p=>p
 | k+1,n,p=>HF k (n / 7) (p++47::rJ (n / 7))
def pV (n:Int):List UInt8:=HF (n % 1073741824 / 6 % 3).toNat (n % 1073741824) (rJ (n % 1073741824))
def zI7:List Nat:=[0,9223372036854775808,4607182418800017408,13830554455654793216,9218868437227405312,18442240474082181120,9221120237041090561,4612811918334230528,1,9223372036854775809,9218868437227405311,18444492273895866373]
def xC (n:Int) (x:Nat):Nat:=if n % 15<12 then zI7.getD (n % 15).toNat 0 else x
structure RN where
 k:Int
 m:Int
 t:Int
 x:Nat
 d:List UInt8
abbrev rnc (k m t:Int) (x:Nat) (d:List UInt8):List CV:=[.p (.i .i64 k),.p (.i .i64 m),.p (.i .i64 t),.p (.f x),.p (.sl 1 (bW d))]
attribute [go_sem] rnc
def CF (m:Int):List UInt8 :=
 let a:=if m.tmod 4 == 0 then [46,46,47]++pV m else pV m
 if m.tmod 5 == 0 then [47]++a else a
def zG4 (x:RN):List UInt8:=if 1+x.k % 3 == 1 then x.d.take 60 else if 1+x.k % 3 == 3 then CF x.m else []
def zEp (x:RN):Nd:=⟨1+x.k % 3,x.m % 4096,cW (xC x.t x.x),zG4 x⟩
theorem zEZ {n m:Int} (hm:0<m) (h:¬ n.tmod m<0):n.tmod m=n % m:=by
 rw [Int.tmod_eq_emod] at h ⊢;split
 ·simp
 ·rename_i hc;rw [if_neg hc] at h;have:=Int.emod_lt_of_pos n hm;omega
theorem tmod_neg {n m:Int} (hm:0<m) (h:n.tmod m<0):n.tmod m+m=n % m:=by
 rw [Int.tmod_eq_emod] at h ⊢;split
 ·rename_i hc;rw [if_pos hc] at h;have:=Int.emod_nonneg n (show m≠0 by omega)
  omega
 ·omega
theorem fS (n:Int):(rJ n).length≤3:=by
 unfold rJ;have h1:=Int.emod_nonneg n (show (6:Int)≠0 by decide)
 have h2:=Int.emod_lt_of_pos n (show (0:Int)<6 by decide)
 generalize n % 6=k at h1 h2;have:k=0∨k=1∨k=2∨k=3∨k=4∨k=5:=by omega
 rcases this with rfl|rfl|rfl|rfl|rfl|rfl <;> decide
theorem HG:∀ (k:Nat) (n:Int) (p:List UInt8),(HF k n p).length≤p.length+4*k
 | 0,_,_=>by simp [HF]
 | k+1,n,p=>by
  have h1:=HG k (n / 7) (p++47::rJ (n / 7));have h2:=fS (n / 7);simp only [HF,List.length_append,List.length_cons] at h1 ⊢;omega
theorem pW (n:Int):(pV n).length≤11:=by
 have h1:=HG (n % 1073741824 / 6 % 3).toNat (n % 1073741824) (rJ (n % 1073741824));have h2:=fS (n % 1073741824);unfold pV;omega
theorem zAX (m:Int):(CF m).length≤15:=by
 have:=pW m;unfold CF;simp only;split <;> split <;> simp <;> omega
end Go.Dm
end
section
namespace Go.Dm
open Go
def Nd.wf (x:Nd):Prop:=x.t<18446744073709551616
theorem wA {x y:Nd} (hx:x.wf) (hy:y.wf):sH x y=iS x y:=by
 unfold sH iS;rw [MA hx hy];cases x.k == y.k <;> cases x.m == y.m <;> cases x.d == y.d <;> cases cW x.t == cW y.t <;> rfl
theorem oM (x:Nd):iS x x=true:=by simp [iS]
theorem zEY {n:Int} {x:Nat} (hx:x<18446744073709551616):xC n x<18446744073709551616:=by
 unfold xC;split
 ·rename_i h;have h1:=Int.emod_nonneg n (show (15:Int)≠0 by decide)
  generalize n % 15=k at h h1;have:k=0∨k=1∨k=2∨k=3∨k=4∨k=5∨k=6∨k=7∨k=8∨k=9∨k=10∨k=11:=by omega
  rcases this with rfl|rfl|rfl|rfl|rfl|rfl|rfl|rfl|rfl|rfl|rfl|rfl <;> decide
 ·exact hx
end Go.Dm
end
section
namespace Go.Dm
open Go
structure It where
 p:List UInt8
 n:Nd
def It.cs (x:It):List PV:=[.s x.p,.i .i64 x.n.k,.i .i64 x.n.m,.f x.n.t,.sl 1 (bW x.n.d)]
def aZ (t:List It):List (List PV):=t.map It.cs
theorem cS (t:List It):(aZ t).length=t.length:=by simp [aZ]
theorem BI:aZ []=[]:=rfl
theorem zDE (a b:List It):aZ a++aZ b=aZ (a++b):=by simp [aZ]
theorem uV (a:List It) (n:Nat):(aZ a).take n=aZ (a.take n):=by simp [aZ]
theorem ZV (a:List It) (n:Nat):(aZ a).drop n=aZ (a.drop n):=by simp [aZ]
theorem zDF (t:List It):(∀ x∈aZ t,x.length=5)=True:=eq_true fun x hx=>by
 simp only [aZ,List.mem_map] at hx;obtain ⟨y,_,rfl⟩:=hx;rfl
theorem dD {t:List It} {k:Nat} {x:It} (h:t[k]? = some x):(aZ t).getD k []=[.s x.p,.i .i64 x.n.k,.i .i64 x.n.m,.f x.n.t,.sl 1 (bW x.n.d)]:=by
 simp only [aZ,List.getD_eq_getElem?_getD,List.getElem?_map,h];rfl
theorem ZW (t:List It) (p:List UInt8) (k m:Int) (tt:Nat) (d:List UInt8):aZ t++[[.s p,.i .i64 k,.i .i64 m,.f tt,.sl 1 (bW d)]]=aZ (t++[⟨p,⟨k,m,tt,d⟩⟩]):=by simp [aZ,It.cs]
theorem zIy (x:It):It.mk x.p x.n=x:=rfl
attribute [go_sem] cS BI zDE uV ZV zDF ZW zIy Nat.sub_zero
theorem drop_at {α:Type} {l:List α} {k:Nat} {x:α} (h:l[k]? = some x):l.drop k=x::l.drop (k+1):=by
 have:=List.getElem?_eq_some_iff.1 h;obtain ⟨h1,h2⟩:=this;rw [← h2];exact List.drop_eq_getElem_cons h1
def aM (p q:List UInt8):Bool:=if p == [] then !(q == []) else (decide ((q.length:Int) > p.length+1) && q.take (p.length+1) == p++[47]) || (decide ((q.length:Int)=p.length+1) && q == p++[47])
def bS (t:List It) (p:List UInt8):List It:=t.filter fun x=>!aM p x.p
def dX (p:List UInt8):Nat→Option Nat
 | 0=>none
 | j+1=>if ((p.getD j 0).toNat:Int) == 47 then some j else dX p j
def aP (p:List UInt8):List UInt8:=match dX p p.length with
 | some j=>p.take j
 | none=>[]
def zBd (b:UInt8):Bool:=!(((b.toNat:Int) == 0) || ((b.toNat:Int) == 47))
def bE (s:List UInt8):Bool:=s.all zBd && (decide ((1:Int)≤s.length) && decide ((s.length:Int)≤24) && !(s == [46]) && !(s == [46,46]))
def xO:List UInt8→List UInt8→List (List UInt8)
 | w,[]=>[w]
 | w,b::r=>if ((b.toNat:Int) == 47) then w::xO [] r else xO (w++[b]) r
def DP (s:List UInt8):List (List UInt8):=xO [] s
def cJ (p:List UInt8):Bool:=p == [] || ((DP p).all bE && decide ((p.length:Int)≤120))
def encS (l:List (List UInt8)):List (List PV):=l.map fun s=>[.s s]
theorem nB (t:List (List UInt8)):(encS t).length=t.length:=by simp [encS]
theorem BG:encS []=[]:=rfl
theorem zDC (a b:List (List UInt8)):encS a++encS b=encS (a++b):=by simp [encS]
theorem ZU (a:List (List UInt8)) (n:Nat):(encS a).take n=encS (a.take n):=by simp [encS]
theorem ZS (a:List (List UInt8)) (n:Nat):(encS a).drop n=encS (a.drop n):=by simp [encS]
theorem zDD (t:List (List UInt8)):(∀ x∈encS t,x.length=1)=True:=eq_true fun x hx=>by
 simp only [encS,List.mem_map] at hx;obtain ⟨y,_,rfl⟩:=hx;rfl
theorem encS_at {t:List (List UInt8)} {k:Nat} {x:List UInt8} (h:t[k]? = some x):(encS t).getD k []=[.s x]:=by
 simp only [encS,List.getD_eq_getElem?_getD,List.getElem?_map,h];rfl
theorem ZT (t:List (List UInt8)) (p:List UInt8):encS t++[[.s p]]=encS (t++[p]):=by simp [encS]
attribute [go_sem] nB BG zDC ZU ZS zDD ZT
theorem pE:∀ (s w:List UInt8),(xO w s).length≤s.length+1
 | [],w=>by simp [xO]
 | b::r,w=>by
  simp only [xO];split
  ·have:=pE r [];simp;omega
  ·have:=pE r (w++[b]);simp;omega
theorem tE:∀ (s w:List UInt8) (x:List UInt8),x∈xO w s→x.length≤w.length+s.length
 | [],w,x,h=>by simp [xO] at h;subst h;simp
 | b::r,w,x,h=>by
  simp only [xO] at h;split at h
  ·rcases List.mem_cons.1 h with rfl|h
   ·simp
   ·have:=tE r [] x h;simp at this ⊢;omega
  ·have:=tE r (w++[b]) x h;simp at this ⊢;omega
def aW:List It→List UInt8→Option Nd
 | [],_=>none
 | x::r,p=>if x.p == p then some x.n else aW r p
def aU (t:List It) (p:List UInt8):Bool:=p == [] || (match aW t p with
 | some n=>n.k == 2
 | none=>false)
def xM (p:List UInt8) (n:Nd):Bool→List It→List It
 | done,[]=>if done then [] else [⟨p,n⟩]
 | done,x::r=>(if !done && !bZ x.p p then [⟨p,n⟩] else [])++((if !(x.p == p) then [x] else [])++xM p n (done || !bZ x.p p) r)
def sZ (t:List It) (p:List UInt8) (n:Nd):List It:=xM p n false t
def nW (t:List It) (p:List UInt8):List It:=t.filter fun x=>!(x.p == p)
def bR (t:List It) (p:List UInt8):List It:=nW (bS t p) p
def mQ (b:List UInt8):Bool:=b.all (fun b=>!((b.toNat:Int) == 0)) && (decide ((1:Int)≤b.length) && decide ((b.length:Int)≤120))
theorem VX (z:Int):(0≤IntKind.u8.wrap z)=True:=eq_true (by
 simp only [IntKind.wrap,IntKind.bits,IntKind.signed,Bool.false_and];split <;> rename_i h
 ·simp at h
 ·exact Int.emod_nonneg _ (by decide))
theorem VW (z:Int):(IntKind.u8.wrap z≤255)=True:=eq_true (by
 simp only [IntKind.wrap,IntKind.bits,IntKind.signed,Bool.false_and];split <;> rename_i h
 ·simp at h
 ·have:=Int.emod_lt_of_pos z (show (0:Int)<2 ^ 8 by decide);omega)
attribute [go_sem] VX VW
def sV (x:Nat) (k:Nat):UInt8:=UInt8.ofNat (IntKind.u8.wrap ((x:Int).fdiv (2 ^ k))).toNat
def EG (x:Nat):List UInt8:=[sV x 56,sV x 48,sV x 40,sV x 32,sV x 24,sV x 16,sV x 8,sV x 0]
def zI (x:Nat):Bool:=EG x == EG (cW x)
def aV (n:Nd):Bool:=!(decide (n.m<0) || decide (4095<n.m) || !zI n.t) && (if n.k == 1 then decide ((n.d.length:Int)≤2000) else if n.k == 2 then (n.d.length:Int) == 0 else if n.k == 3 then mQ n.d else false)
def sL (t:List It) (p:List UInt8) (n:Nd):List It × Int :=
 if p == [] || !cJ p || !aV n then ([],1) else if !aU t (aP p) then ([],9)
 else if decide ((120:Int)<(sZ (if n.k != 2 then bS t p else t) p n).length) then ([],16) else (sZ (if n.k != 2 then bS t p else t) p n,0)
theorem QB (p:List UInt8) (n:Nd):∀ (t:List It) (d:Bool),(xM p n d t).length≤t.length+(if d then 0 else 1)
 | [],d=>by cases d <;> simp [xM]
 | x::r,d=>by
  have h:=QB p n r (d || !bZ x.p p);simp only [xM,List.length_append,List.length_cons];cases d <;> cases hb:bZ x.p p <;> cases hp:x.p == p <;> simp [hb] at h ⊢ <;> omega
theorem tQ (t:List It) (p:List UInt8) (n:Nd):(sZ t p n).length≤t.length+1:=QB p n t false
theorem CM (t:List It) (p:List UInt8):(bS t p).length≤t.length:=List.length_filter_le ..
def eQ (a b:List UInt8):List It→List It→List It × Int
 | out,[]=>(out,0)
 | out,x::r=>if !(x.p == a) && !aM a x.p then eQ a b out r else if decide ((120:Int)<(b.length+(x.p.drop a.length).length:Nat)) then ([],12) else eQ a b (sZ out (b++x.p.drop a.length) x.n) r
def mE (t:List It) (a b:List UInt8):List It × Int :=
 if a == [] || b == [] || !cJ a || !cJ b then ([],1) else if !(aW t a).isSome then ([],6) else if aM a b then ([],18) else if (aW t b).isSome then ([],7) else if !aU t (aP b) then ([],9) else eQ a b (bR t a) t
theorem dM {a q:List UInt8} (h:aM a q=true):a.length≤q.length:=by
 unfold aM at h;split at h
 ·rename_i h1;have h1:=eq_of_beq h1;subst h1;simp
 ·simp only [Bool.or_eq_true,Bool.and_eq_true,decide_eq_true_eq] at h;omega
def zFU (R:DV→aB→Prop):Exit→DS→Prop
 | .normal,s=>R (.tup []) s.h
 | .ret,s=>R (.tup []) s.h
 | _,_=>False
theorem zE6 {R:DV→aB→Prop} {s:DS}:zFU R .normal s=R (.tup []) s.h:=nr rfl
theorem zE7 {R:DV→aB→Prop} {s:DS}:zFU R .ret s=R (.tup []) s.h:=nr rfl
attribute [go_sem] zE6 zE7
end Go.Dm
end
end
