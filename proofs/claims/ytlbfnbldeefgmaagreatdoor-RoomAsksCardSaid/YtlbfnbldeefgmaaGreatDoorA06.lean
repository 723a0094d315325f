/- Part 7 of the proof of roomAsks_card, set without needless blanks. No condition. -/
import Derived.Test.YtlbfnbldeefgmaaGreatDoorA03
set_option linter.all false
section
section
namespace Go.Dm
open Go
def rg (w:Nat):Nat:=w % 9223372036854775808
def sn (w:Nat):Bool:=w / 9223372036854775808 % 2 == 1
def mgn (r:Nat):Nat:=if r<4503599627370496 then r else 4503599627370496+r % 4503599627370496
def plc (r:Nat):Nat:=if r<4503599627370496 then 0 else r / 4503599627370496-1
def mv (r:Nat):Nat:=mgn r*2 ^ plc r
def sg (s:Bool) (v:Nat):Int:=if s then -(v:Int) else v
theorem zDz (r:Nat):mv r<mv (r+1):=by
 unfold mv mgn plc;by_cases h1:r+1<4503599627370496
 ·rw [if_pos (by omega),if_pos (by omega),if_pos h1,if_pos h1];simp
 ·by_cases h2:r<4503599627370496
  ·have:r+1=4503599627370496:=by omega
   rw [if_pos h2,if_pos h2,this];simp;omega
  ·rw [if_neg h2,if_neg h2,if_neg h1,if_neg h1];have he:1≤r / 4503599627370496:=by omega
   by_cases h3:r % 4503599627370496+1<4503599627370496
   ·have e1:(r+1) / 4503599627370496=r / 4503599627370496:=by omega
    have e2:(r+1) % 4503599627370496=r % 4503599627370496+1:=by omega
    rw [e1,e2];exact Nat.mul_lt_mul_of_pos_right (by omega) (Nat.two_pow_pos _)
   ·have e1:(r+1) / 4503599627370496-1=(r / 4503599627370496-1)+1:=by omega
    have e2:(r+1) % 4503599627370496=0:=by omega
    rw [e1,e2,Nat.pow_succ];have hp:=Nat.two_pow_pos (r / 4503599627370496-1);generalize 2 ^ (r / 4503599627370496-1)=p at hp ⊢;generalize hm:r % 4503599627370496=m at h3;have hm':m<4503599627370496:=by omega
    have:(4503599627370496+m)*p<(4503599627370496+4503599627370496)*p:=Nat.mul_lt_mul_of_pos_right (by omega) hp;have e3:(4503599627370496+0)*(p*2)=(4503599627370496+4503599627370496)*p:=by rw [Nat.add_zero,Nat.mul_comm p 2,← Nat.mul_assoc]
    rw [e3];exact this
theorem zG2 {r q:Nat} (h:r<q):mv r<mv q:=by
 induction q with
 | zero=>omega
 | succ q ih =>
  rcases Nat.lt_or_ge r q with h'|h'
  ·exact Nat.lt_trans (ih h') (zDz q)
  ·have:r=q:=by omega
   subst this;exact zDz r
theorem LU {r q:Nat}:mv r<mv q↔r<q:=by
 refine ⟨fun h=>?_,zG2⟩;rcases Nat.lt_or_ge r q with h'|h'
 ·exact h'
 ·rcases Nat.eq_or_lt_of_le h' with h2|h2
  ·subst h2;omega
  ·have:=zG2 h2;omega
theorem FY:mv 0=0:=by decide
theorem lW {w:Nat} (h:rg w<9218868437227405312):Ieee.double.read w=.number (sn w) (mgn (rg w)) (-1074+(plc (rg w):Int)):=by
 have e1:Ieee.double.signWeight=9223372036854775808:=by decide
 have e2:Ieee.double.binade=4503599627370496:=by decide
 have e3:Ieee.double.infRung=9218868437227405312:=by decide
 have e4:Ieee.double.leastPlace = -1074:=by decide
 simp only [Ieee.Format.read,e1,e2,e3,e4];simp only [rg] at h ⊢;unfold mgn plc sn;by_cases h1:w % 9223372036854775808<4503599627370496
 ·simp only [if_pos h1];rfl
 ·simp only [if_neg h1,if_pos h]
theorem wH {w:Nat} (h:rg w=9218868437227405312):Ieee.double.read w=.infinity (sn w):=by
 have e1:Ieee.double.signWeight=9223372036854775808:=by decide
 have e2:Ieee.double.binade=4503599627370496:=by decide
 have e3:Ieee.double.infRung=9218868437227405312:=by decide
 simp only [Ieee.Format.read,e1,e2,e3];simp only [rg] at h;rw [h];rfl
theorem zHj {w:Nat} (h:9218868437227405312<rg w):∃ s f,Ieee.double.read w=.nan s f:=by
 have e1:Ieee.double.signWeight=9223372036854775808:=by decide
 have e2:Ieee.double.binade=4503599627370496:=by decide
 have e3:Ieee.double.infRung=9218868437227405312:=by decide
 simp only [Ieee.Format.read,e1,e2,e3];simp only [rg] at h;rw [if_neg (by omega),if_neg (by omega),if_neg (by omega)];exact ⟨_,_,rfl⟩
def PX (a b:Int):Ordering:=if a<b then .lt else if a=b then .eq else .gt
theorem QA (a b:Int):compare a b=PX a b:=rfl
theorem YB {a b c d:Int} (h1:a<b↔c<d) (h2:a=b↔c=d):PX a b=PX c d:=by
 unfold PX;by_cases x:a<b
 ·rw [if_pos x,if_pos (h1.1 x)]
 ·rw [if_neg x,if_neg (fun h=>x (h1.2 h))];by_cases y:a=b
  ·rw [if_pos y,if_pos (h2.1 y)]
  ·rw [if_neg y,if_neg (fun h=>y (h2.2 h))]
theorem QR {a b:Nat} (ha:rg a<9218868437227405312) (hb:rg b<9218868437227405312):KO a b=some (PX (sg (sn a) (rg a)) (sg (sn b) (rg b))):=by
 show Ieee.double.order a b=_;simp only [Ieee.Format.order,lW ha,lW hb,Ieee.Datum.order,QA]
 congr 1
 generalize hx:(-1074+(plc (rg a):Int)-min (-1074+(plc (rg a):Int)) (-1074+(plc (rg b):Int))).toNat=x;generalize hy:(-1074+(plc (rg b):Int)-min (-1074+(plc (rg a):Int)) (-1074+(plc (rg b):Int))).toNat=y;have hx':plc (rg a)=x+min (plc (rg a)) (plc (rg b)):=by omega
 have hy':plc (rg b)=y+min (plc (rg a)) (plc (rg b)):=by omega
 generalize min (plc (rg a)) (plc (rg b))=z at hx' hy';have ea:mv (rg a)=(mgn (rg a) <<< x)*2 ^ z:=by rw [mv,hx',Nat.pow_add,Nat.shiftLeft_eq,Nat.mul_assoc]
 have eb:mv (rg b)=(mgn (rg b) <<< y)*2 ^ z:=by rw [mv,hy',Nat.pow_add,Nat.shiftLeft_eq,Nat.mul_assoc]
 have hz:=Nat.two_pow_pos z;have l1:(mgn (rg a) <<< x)<(mgn (rg b) <<< y)↔rg a<rg b:=by
  rw [← LU (r:=rg a),ea,eb];exact ⟨fun h=>Nat.mul_lt_mul_of_pos_right h hz,fun h=>Nat.lt_of_mul_lt_mul_right h⟩
 have l2:(mgn (rg b) <<< y)<(mgn (rg a) <<< x)↔rg b<rg a:=by
  rw [← LU (r:=rg b),ea,eb];exact ⟨fun h=>Nat.mul_lt_mul_of_pos_right h hz,fun h=>Nat.lt_of_mul_lt_mul_right h⟩
 have z1:mgn (rg a) <<< x=0↔rg a=0:=by
  constructor
  ·intro h;rw [h,Nat.zero_mul,← FY] at ea;rcases Nat.lt_or_ge 0 (rg a) with h'|h'
   ·have:=zG2 h';omega
   ·omega
  ·intro h;rw [h,FY] at ea;rw [h];rcases Nat.eq_zero_or_pos (mgn 0 <<< x) with h'|h'
   ·exact h'
   ·have:=Nat.mul_pos h' hz;omega
 have z2:mgn (rg b) <<< y=0↔rg b=0:=by
  constructor
  ·intro h;rw [h,Nat.zero_mul,← FY] at eb;rcases Nat.lt_or_ge 0 (rg b) with h'|h'
   ·have:=zG2 h';omega
   ·omega
  ·intro h;rw [h,FY] at eb;rw [h];rcases Nat.eq_zero_or_pos (mgn 0 <<< y) with h'|h'
   ·exact h'
   ·have:=Nat.mul_pos h' hz;omega
 simp only [Ieee.signed];generalize mgn (rg a) <<< x=A at *;generalize mgn (rg b) <<< y=B at *;unfold sg;refine YB ?_ ?_
 ·cases sn a <;> cases sn b <;> simp <;> omega
 ·cases sn a <;> cases sn b <;> simp <;> omega
theorem FC {a b:Nat} (ha:rg a≤9218868437227405312) (hb:rg b≤9218868437227405312):KO a b=some (PX (sg (sn a) (rg a)) (sg (sn b) (rg b))):=by
 rcases Nat.lt_or_ge (rg a) 9218868437227405312 with h1|h1 <;> rcases Nat.lt_or_ge (rg b) 9218868437227405312 with h2|h2
 ·exact QR h1 h2
 ·have h2':rg b=9218868437227405312:=by omega
  show Ieee.double.order a b=_;simp only [Ieee.Format.order,lW h1,wH h2',Ieee.Datum.order]
  congr 1
  rw [h2'];unfold PX sg;cases sn a <;> cases sn b <;> simp <;> (repeat' split) <;> first|rfl|omega
 ·have h1':rg a=9218868437227405312:=by omega
  show Ieee.double.order a b=_;simp only [Ieee.Format.order,lW h2,wH h1',Ieee.Datum.order]
  congr 1
  rw [h1'];unfold PX sg;cases sn a <;> cases sn b <;> simp <;> (repeat' split) <;> first|rfl|omega
 ·have h1':rg a=9218868437227405312:=by omega
  have h2':rg b=9218868437227405312:=by omega
  show Ieee.double.order a b=_;simp only [Ieee.Format.order,wH h1',wH h2',Ieee.Datum.order]
  congr 1
  rw [h1',h2'];cases sn a <;> cases sn b <;> decide
theorem YY {a b:Nat} (ha:9218868437227405312<rg a):KO a b=none:=by
 obtain ⟨s,f,h⟩:=zHj ha;show Ieee.double.order a b=_;simp only [Ieee.Format.order,h,Ieee.Datum.order]
end Go.Dm
end
section
namespace Go.Dm
open Go
def isNaN (x:Nat):Bool:=KO x x != some .eq
def DQ:Nat:=9221120237041090561
def cY (x:Nat):Nat:=if isNaN x then DQ else x
def ZT (x:Nat):Bool:=decide (IntKind.i64.wrap x<0)
def jW (x:Nat):Int × Int:=if isNaN x then (1,0) else if KO x 0 == some .eq && ZT x then (0,-1) else (0,0)
def PW (a b:Int):Int:=if a<b then -1 else if b<a then 1 else 0
def zKP (a b:Nat):Int:=if isNaN a then (if isNaN b then 0 else -1) else if isNaN b then 1 else if KO a b == some .lt then -1 else if KO a b == some .gt then 1 else 0
def uT (a b:Nat):Int:=if 0<IntKind.i64.wrap ((jW a).1+(jW b).1) then PW (jW a).1 (jW b).1 else if zKP a b == 0 then PW (jW a).2 (jW b).2 else zKP a b
theorem zBq (a:Int):PX a a=.eq:=by unfold PX;rw [if_neg (by omega),if_pos rfl]
theorem nH (x:Nat):isNaN x=decide (9218868437227405312<rg x):=by
 unfold isNaN;rcases Nat.lt_or_ge 9218868437227405312 (rg x) with h|h
 ·rw [YY h,decide_eq_true h];rfl
 ·rw [FC h h,zBq,decide_eq_false (by omega)];rfl
theorem zL0 (x:Nat):rg x<9223372036854775808:=Nat.mod_lt _ (by omega)
theorem yF:isNaN DQ=true:=by rw [nH];decide
theorem oF {x:Nat} (h:x<18446744073709551616):cY x<18446744073709551616:=by
 unfold cY;split
 ·decide
 ·exact h
theorem XT (x:Nat):cY (cY x)=cY x:=by
 unfold cY;by_cases h:isNaN x=true
 ·rw [if_pos h,if_pos yF]
 ·rw [if_neg h,if_neg h]
theorem zG3 {x:Nat} (h:x<18446744073709551616):ZT x=decide (9223372036854775808≤x):=by
 unfold ZT
 congr 1
 simp only [IntKind.wrap,IntKind.bits,IntKind.signed,Bool.true_and,eq_iff_iff];split <;> rename_i h' <;> simp at h' <;> omega
def wD (x:Nat):Int:=if isNaN x then 9223372036854775808 else if sn x then -(rg x:Int)-1 else rg x
theorem FP {x:Nat} (hn:isNaN x=false):wD x≤9218868437227405312:=by
 unfold wD;rw [hn];rw [nH] at hn;have:=of_decide_eq_false hn;simp only [Bool.false_eq_true,if_false];split <;> omega
theorem zKY (p q:Int):(some (PX p q) == some Ordering.lt)=decide (p<q):=by
 unfold PX;by_cases h:p<q
 ·rw [if_pos h,decide_eq_true h];rfl
 ·rw [if_neg h,decide_eq_false h];split <;> rfl
theorem zKX (p q:Int):(some (PX p q) == some Ordering.gt)=decide (q<p):=by
 unfold PX;by_cases h:p<q
 ·rw [if_pos h,decide_eq_false (by omega)];rfl
 ·rw [if_neg h];by_cases h':p=q
  ·rw [if_pos h',decide_eq_false (by omega)];rfl
  ·rw [if_neg h',decide_eq_true (by omega)];rfl
theorem zBp (p q:Int):(PW p q == 0)=decide (p=q):=by
 unfold PW;by_cases h:p<q
 ·rw [if_pos h,decide_eq_false (by omega)];rfl
 ·rw [if_neg h];by_cases h':q<p
  ·rw [if_pos h',decide_eq_false (by omega)];rfl
  ·rw [if_neg h',decide_eq_true (by omega)];rfl
theorem ZX {x y:Nat} (hx:x<18446744073709551616) (hy:y<18446744073709551616):uT x y=PW (wD x) (wD y):=by
 have w2:IntKind.i64.wrap (1+1)=2:=by decide
 have w1:IntKind.i64.wrap (1+0)=1:=by decide
 have w1':IntKind.i64.wrap (0+1)=1:=by decide
 have w0:IntKind.i64.wrap (0+0)=0:=by decide
 have s1:∀ z,isNaN z=true→jW z=(1,0):=fun z h=>by unfold jW;rw [if_pos h]
 have s0:∀ z,z<18446744073709551616→isNaN z=false→(jW z).1=0∧(jW z).2=if rg z=0∧sn z=true then -1 else 0:=by
  intro z hz h;have hr:rg z≤9218868437227405312:=by rw [nH] at h;have:=of_decide_eq_false h;omega
  have e:(KO z 0 == some Ordering.eq)=decide (rg z=0):=by
   rw [FC hr (by decide)];have:sg (sn 0) (rg 0)=0:=by decide
   rw [this];by_cases hz:rg z=0
   ·rw [hz,decide_eq_true rfl];cases sn z <;> rfl
   ·rw [decide_eq_false hz];unfold PX sg;cases sn z <;> simp only [Bool.false_eq_true,if_false,if_true]
    ·rw [if_neg (by omega),if_neg (by omega)];rfl
    ·rw [if_pos (by omega)];rfl
  have e2:ZT z=sn z:=by
   rw [zG3 hz];unfold sn;rcases Nat.lt_or_ge z 9223372036854775808 with h'|h'
   ·have:z / 9223372036854775808=0:=by omega
    rw [this,decide_eq_false (by omega)];rfl
   ·have:z / 9223372036854775808=1:=by omega
    rw [this,decide_eq_true h'];rfl
  unfold jW;rw [h,e,e2];simp only [Bool.false_eq_true,if_false];by_cases hz0:rg z=0 <;> cases hsn:sn z <;> simp [hz0]
 unfold uT;by_cases h1:isNaN x=true <;> by_cases h2:isNaN y=true
 ·rw [s1 x h1,s1 y h2];simp only [w2];rw [if_pos (by decide)];unfold wD;rw [if_pos h1,if_pos h2];rfl
 ·have h2':isNaN y=false:=by simpa using h2
  rw [s1 x h1,(s0 y hy h2').1];simp only [w1];rw [if_pos (by decide)];have:=FP h2';unfold PW;have e:wD x=9223372036854775808:=by unfold wD;rw [if_pos h1]
  rw [e,if_neg (by omega),if_pos (by omega),if_neg (by omega),if_pos (by omega)]
 ·have h1':isNaN x=false:=by simpa using h1
  rw [s1 y h2,(s0 x hx h1').1];simp only [w1'];rw [if_pos (by decide)];have:=FP h1';unfold PW;have e:wD y=9223372036854775808:=by unfold wD;rw [if_pos h2]
  rw [e,if_pos (by omega),if_pos (by omega)]
 ·have h1':isNaN x=false:=by simpa using h1
  have h2':isNaN y=false:=by simpa using h2
  rw [(s0 x hx h1').1,(s0 y hy h2').1,(s0 x hx h1').2,(s0 y hy h2').2,w0,if_neg (by decide)];have hr1:rg x≤9218868437227405312:=by rw [nH] at h1';have:=of_decide_eq_false h1';omega
  have hr2:rg y≤9218868437227405312:=by rw [nH] at h2';have:=of_decide_eq_false h2';omega
  have ef:zKP x y=PW (sg (sn x) (rg x)) (sg (sn y) (rg y)):=by
   unfold zKP;rw [h1',h2',FC hr1 hr2,zKY,zKX];unfold PW;simp only [Bool.false_eq_true,if_false,decide_eq_true_eq]
  rw [ef,zBp];unfold wD;rw [h1',h2'];simp only [Bool.false_eq_true,if_false,decide_eq_true_eq];unfold PW sg;cases sn x <;> cases sn y <;> simp only [Bool.false_eq_true,if_false,if_true,and_false,and_true] <;> (repeat' split) <;> first|rfl|omega
theorem RW {x y:Nat} (hx:x<18446744073709551616) (hy:y<18446744073709551616):(uT x y == 0)=(cY x == cY y):=by
 rw [ZX hx hy];have e:(PW (wD x) (wD y) == 0)=decide (wD x=wD y):=by
  unfold PW;by_cases h:wD x<wD y
  ·rw [if_pos h,decide_eq_false (by omega)];rfl
  ·rw [if_neg h];by_cases h':wD y<wD x
   ·rw [if_pos h',decide_eq_false (by omega)];rfl
   ·rw [if_neg h',decide_eq_true (by omega)];rfl
 rw [e];unfold cY;by_cases h1:isNaN x=true <;> by_cases h2:isNaN y=true
 ·unfold wD;simp only [if_pos h1,if_pos h2];simp
 ·have:=FP (x:=y) (by simpa using h2);have e:wD x=9223372036854775808:=by unfold wD;rw [if_pos h1]
  rw [e,if_pos h1,if_neg h2,decide_eq_false (by omega)];symm;rw [beq_eq_false_iff_ne];intro h;exact h2 (h▸yF)
 ·have:=FP (x:=x) (by simpa using h1);have e:wD y=9223372036854775808:=by unfold wD;rw [if_pos h2]
  rw [e,if_neg h1,if_pos h2,decide_eq_false (by omega)];symm;rw [beq_eq_false_iff_ne];intro h;exact h1 (h▸yF)
 ·rw [if_neg h1,if_neg h2];rw [Bool.eq_iff_iff,decide_eq_true_iff,beq_iff_eq];unfold wD;rw [if_neg h1,if_neg h2];constructor
  ·intro h;have ex:x=(if sn x then 9223372036854775808 else 0)+rg x:=by
    unfold sn rg;rcases Nat.lt_or_ge x 9223372036854775808 with h'|h'
    ·have:x / 9223372036854775808=0:=by omega
     rw [this];simp;omega
    ·have:x / 9223372036854775808=1:=by omega
     rw [this];simp;omega
   have ey:y=(if sn y then 9223372036854775808 else 0)+rg y:=by
    unfold sn rg;rcases Nat.lt_or_ge y 9223372036854775808 with h'|h'
    ·have:y / 9223372036854775808=0:=by omega
     rw [this];simp;omega
    ·have:y / 9223372036854775808=1:=by omega
     rw [this];simp;omega
   rw [ex,ey];have l1:=zL0 x;have l2:=zL0 y;cases hsx:sn x <;> cases hsy:sn y <;> simp only [hsx,hsy,Bool.false_eq_true,if_false,if_true] at h ⊢ <;> omega
  ·intro h;subst h;rfl
end Go.Dm
end
section
namespace Go.Dm
open Go
structure Nd where
 k:Int
 m:Int
 t:Nat
 d:List UInt8
abbrev ndc (k m:Int) (t:Nat) (d:List UInt8):List CV:=[.p (.i .i64 k),.p (.i .i64 m),.p (.f t),.p (.sl 1 (bO d))]
abbrev Nd.cv (x:Nd):List CV:=[.p (.i .i64 x.k),.p (.i .i64 x.m),.p (.f x.t),.p (.sl 1 (bO x.d))]
attribute [go_sem] Nd.cv ndc
theorem zLM (x:Nd):Nd.mk x.k x.m x.t x.d=x:=rfl
attribute [go_sem] zLM
def mI (x y:Nd):Bool:=x.k == y.k && x.m == y.m && (uT x.t y.t == 0) && x.d == y.d
def gE (x y:Nd):Bool:=x.k == y.k && x.m == y.m && x.d == y.d && (cY x.t == cY y.t)
def Nd.ok (x:Nd):Prop:=x.d.length≤140737488355328
def nd0:Nd:=⟨0,0,0,[]⟩
end Go.Dm
end
section
namespace Go.Dm
open Go
def zLL:List (List UInt8):=[[97],[98],[99],[100,46,101],[102,45,49],[255]]
def tP (n:Int):List UInt8:=zLL.getD (n % 6).toNat []
def MA:Nat→Int→List UInt8→List UInt8
 | 0,_,p=>p
 | k+1,n,p=>MA k (n / 7) (p++47::tP (n / 7))
def kK (n:Int):List UInt8:=MA (n % 1073741824 / 6 % 3).toNat (n % 1073741824) (tP (n % 1073741824))
def zL9:List Nat:=[0,9223372036854775808,4607182418800017408,13830554455654793216,9218868437227405312,18442240474082181120,9221120237041090561,4612811918334230528,1,9223372036854775809,9218868437227405311,18444492273895866373]
def AA (n:Int) (x:Nat):Nat:=if n % 15<12 then zL9.getD (n % 15).toNat 0 else x
structure RN where
 k:Int
 m:Int
 t:Int
 x:Nat
 d:List UInt8
abbrev rnc (k m t:Int) (x:Nat) (d:List UInt8):List CV:=[.p (.i .i64 k),.p (.i .i64 m),.p (.i .i64 t),.p (.f x),.p (.sl 1 (bO d))]
attribute [go_sem] rnc
def FU (m:Int):List UInt8 :=
 let a:=if m.tmod 4 == 0 then [46,46,47]++kK m else kK m
 if m.tmod 5 == 0 then [47]++a else a
def zDK (x:RN):List UInt8:=if 1+x.k % 3 == 1 then x.d.take 60 else if 1+x.k % 3 == 3 then FU x.m else []
def GF (x:RN):Nd:=⟨1+x.k % 3,x.m % 4096,cY (AA x.t x.x),zDK x⟩
theorem zHJ {n m:Int} (hm:0<m) (h:¬ n.tmod m<0):n.tmod m=n % m:=by
 rw [Int.tmod_eq_emod] at h ⊢;split
 ·simp
 ·rename_i hc;rw [if_neg hc] at h;have:=Int.emod_lt_of_pos n hm;omega
theorem tmod_neg {n m:Int} (hm:0<m) (h:n.tmod m<0):n.tmod m+m=n % m:=by
 rw [Int.tmod_eq_emod] at h ⊢;split
 ·rename_i hc;rw [if_pos hc] at h;have:=Int.emod_nonneg n (show m≠0 by omega)
  omega
 ·omega
theorem gC (n:Int):(tP n).length≤3:=by
 unfold tP;have h1:=Int.emod_nonneg n (show (6:Int)≠0 by decide)
 have h2:=Int.emod_lt_of_pos n (show (0:Int)<6 by decide)
 generalize n % 6=k at h1 h2;have:k=0∨k=1∨k=2∨k=3∨k=4∨k=5:=by omega
 rcases this with rfl|rfl|rfl|rfl|rfl|rfl <;> decide
theorem MB:∀ (k:Nat) (n:Int) (p:List UInt8),(MA k n p).length≤p.length+4*k
 | 0,_,_=>by simp [MA]
 | k+1,n,p=>by
  have h1:=MB k (n / 7) (p++47::tP (n / 7));have h2:=gC (n / 7);simp only [MA,List.length_append,List.length_cons] at h1 ⊢;omega
theorem nU (n:Int):(kK n).length≤11:=by
 have h1:=MB (n % 1073741824 / 6 % 3).toNat (n % 1073741824) (tP (n % 1073741824));have h2:=gC (n % 1073741824);unfold kK;omega
theorem LI (m:Int):(FU m).length≤15:=by
 have:=nU m;unfold FU;simp only;split <;> split <;> simp <;> omega
theorem zDL (x:RN):(zDK x).length≤60:=by
 unfold zDK;have:=LI x.m;split
 ·simp;omega
 ·split
  ·omega
  ·simp
end Go.Dm
end
section
namespace Go.Dm
open Go
def Nd.wf (x:Nd):Prop:=x.t<18446744073709551616
theorem rP {x y:Nd} (hx:x.wf) (hy:y.wf):mI x y=gE x y:=by
 unfold mI gE;rw [RW hx hy];cases x.k == y.k <;> cases x.m == y.m <;> cases x.d == y.d <;> cases cY x.t == cY y.t <;> rfl
theorem qE (x:Nd):gE x x=true:=by simp [gE]
theorem XD {n:Int} {x:Nat} (hx:x<18446744073709551616):AA n x<18446744073709551616:=by
 unfold AA;split
 ·rename_i h;have h1:=Int.emod_nonneg n (show (15:Int)≠0 by decide)
  generalize n % 15=k at h h1;have:k=0∨k=1∨k=2∨k=3∨k=4∨k=5∨k=6∨k=7∨k=8∨k=9∨k=10∨k=11:=by omega
  rcases this with rfl|rfl|rfl|rfl|rfl|rfl|rfl|rfl|rfl|rfl|rfl|rfl <;> decide
 ·exact hx
theorem WK {x:RN} (hx:x.x<18446744073709551616):(GF x).wf:=oF (XD hx)
end Go.Dm
end
section
namespace Go.Dm
open Go
structure It where
 p:List UInt8
 n:Nd
def It.cs (x:It):List PV:=[.s x.p,.i .i64 x.n.k,.i .i64 x.n.m,.f x.n.t,.sl 1 (bO x.n.d)]
def aU (t:List It):List (List PV):=t.map It.cs
theorem cS (t:List It):(aU t).length=t.length:=by simp [aU]
theorem gA:aU []=[]:=rfl
theorem zGj (a b:List It):aU a++aU b=aU (a++b):=by simp [aU]
theorem xR (a:List It) (n:Nat):(aU a).take n=aU (a.take n):=by simp [aU]
theorem zCy (a:List It) (n:Nat):(aU a).drop n=aU (a.drop n):=by simp [aU]
theorem zGk (t:List It):(∀ x∈aU t,x.length=5)=True:=eq_true fun x hx=>by
 simp only [aU,List.mem_map] at hx;obtain ⟨y,_,rfl⟩:=hx;rfl
theorem cQ {t:List It} {k:Nat} {x:It} (h:t[k]? = some x):(aU t).getD k []=[.s x.p,.i .i64 x.n.k,.i .i64 x.n.m,.f x.n.t,.sl 1 (bO x.n.d)]:=by
 simp only [aU,List.getD_eq_getElem?_getD,List.getElem?_map,h];rfl
theorem zCz (t:List It) (p:List UInt8) (k m:Int) (tt:Nat) (d:List UInt8):aU t++[[.s p,.i .i64 k,.i .i64 m,.f tt,.sl 1 (bO d)]]=aU (t++[⟨p,⟨k,m,tt,d⟩⟩]):=by simp [aU,It.cs]
theorem zLx (x:It):It.mk x.p x.n=x:=rfl
attribute [go_sem] cS gA zGj xR zCy zGk zCz zLx Nat.sub_zero
theorem drop_at {α:Type} {l:List α} {k:Nat} {x:α} (h:l[k]? = some x):l.drop k=x::l.drop (k+1):=by
 have:=List.getElem?_eq_some_iff.1 h;obtain ⟨h1,h2⟩:=this;rw [← h2];exact List.drop_eq_getElem_cons h1
def aP (p q:List UInt8):Bool:=if p == [] then !(q == []) else (decide ((q.length:Int) > p.length+1) && q.take (p.length+1) == p++[47]) || (decide ((q.length:Int)=p.length+1) && q == p++[47])
def bE (t:List It) (p:List UInt8):List It:=t.filter fun x=>!aP p x.p
def dB (p:List UInt8):Nat→Option Nat
 | 0=>none
 | j+1=>if ((p.getD j 0).toNat:Int) == 47 then some j else dB p j
def aR (p:List UInt8):List UInt8:=match dB p p.length with
 | some j=>p.take j
 | none=>[]
def nQ (b:UInt8):Bool:=!(((b.toNat:Int) == 0) || ((b.toNat:Int) == 47))
def aW (s:List UInt8):Bool:=s.all nQ && (decide ((1:Int)≤s.length) && decide ((s.length:Int)≤24) && !(s == [46]) && !(s == [46,46]))
def vU:List UInt8→List UInt8→List (List UInt8)
 | w,[]=>[w]
 | w,b::r=>if ((b.toNat:Int) == 47) then w::vU [] r else vU (w++[b]) r
def oK (s:List UInt8):List (List UInt8):=vU [] s
def bT (p:List UInt8):Bool:=p == [] || ((oK p).all aW && decide ((p.length:Int)≤120))
def encS (l:List (List UInt8)):List (List PV):=l.map fun s=>[.s s]
theorem oN (t:List (List UInt8)):(encS t).length=t.length:=by simp [encS]
theorem lL:encS []=[]:=rfl
theorem zGh (a b:List (List UInt8)):encS a++encS b=encS (a++b):=by simp [encS]
theorem zCx (a:List (List UInt8)) (n:Nat):(encS a).take n=encS (a.take n):=by simp [encS]
theorem zCv (a:List (List UInt8)) (n:Nat):(encS a).drop n=encS (a.drop n):=by simp [encS]
theorem zGi (t:List (List UInt8)):(∀ x∈encS t,x.length=1)=True:=eq_true fun x hx=>by
 simp only [encS,List.mem_map] at hx;obtain ⟨y,_,rfl⟩:=hx;rfl
theorem encS_at {t:List (List UInt8)} {k:Nat} {x:List UInt8} (h:t[k]? = some x):(encS t).getD k []=[.s x]:=by
 simp only [encS,List.getD_eq_getElem?_getD,List.getElem?_map,h];rfl
theorem zCw (t:List (List UInt8)) (p:List UInt8):encS t++[[.s p]]=encS (t++[p]):=by simp [encS]
attribute [go_sem] oN lL zGh zCx zCv zGi zCw
theorem QT {l:List UInt8} {k:Nat} {x:UInt8} (h:l[k]? = some x):l.getD k 0=x:=by simp [List.getD_eq_getElem?_getD,h]
theorem zLS {l:List UInt8} {k:Nat} {x:UInt8} (h:l[k]? = some x):(l.take (k+1)).drop k=[x]:=by
 have:=List.getElem?_eq_some_iff.1 h;obtain ⟨h1,rfl⟩:=this;rw [List.take_succ_eq_append_getElem h1,List.drop_append_of_le_length (by simp;omega)];simp
theorem oJ:∀ (s w:List UInt8),(vU w s).length≤s.length+1
 | [],w=>by simp [vU]
 | b::r,w=>by
  simp only [vU];split
  ·have:=oJ r [];simp;omega
  ·have:=oJ r (w++[b]);simp;omega
theorem qU:∀ (s w:List UInt8) (x:List UInt8),x∈vU w s→x.length≤w.length+s.length
 | [],w,x,h=>by simp [vU] at h;subst h;simp
 | b::r,w,x,h=>by
  simp only [vU] at h;split at h
  ·rcases List.mem_cons.1 h with rfl|h
   ·simp
   ·have:=qU r [] x h;simp at this ⊢;omega
  ·have:=qU r (w++[b]) x h;simp at this ⊢;omega
def aQ:List It→List UInt8→Option Nd
 | [],_=>none
 | x::r,p=>if x.p == p then some x.n else aQ r p
def aV (t:List It) (p:List UInt8):Bool:=p == [] || (match aQ t p with
 | some n=>n.k == 2
 | none=>false)
def vD (p:List UInt8) (n:Nd):Bool→List It→List It
 | done,[]=>if done then [] else [⟨p,n⟩]
 | done,x::r=>(if !done && !bL x.p p then [⟨p,n⟩] else [])++((if !(x.p == p) then [x] else [])++vD p n (done || !bL x.p p) r)
def sP (t:List It) (p:List UInt8) (n:Nd):List It:=vD p n false t
def pI (t:List It) (p:List UInt8):List It:=t.filter fun x=>!(x.p == p)
def bU (t:List It) (p:List UInt8):List It:=pI (bE t p) p
theorem zJh {t:List UInt8} {k:Nat} {x:UInt8} (h:t[k]? = some x):(bO t).getD k []=[.i .u8 x.toNat]:=by
 simp only [bO,List.getD_eq_getElem?_getD,List.getElem?_map,h];rfl
def jK (b:List UInt8):Bool:=b.all (fun b=>!((b.toNat:Int) == 0)) && (decide ((1:Int)≤b.length) && decide ((b.length:Int)≤120))
theorem PD (n:Nat) (h:n<9223372036854775808):IntKind.i64.wrap (no_index (OfNat.ofNat n))=OfNat.ofNat n:=wrap_i64 (by show _≤(n:Int);omega) (by show (n:Int)≤_;omega)
theorem PE (n:Nat) (h:n<9223372036854775808):IntKind.u64.wrap (no_index (OfNat.ofNat n))=OfNat.ofNat n:=wrap_u64 (by show _≤(n:Int);omega) (by show (n:Int)≤_;omega)
theorem TL:IntKind.i64.wrap (-1) = -1:=wrap_i64 (by decide) (by decide)
theorem DX (z:Int):(0≤IntKind.u8.wrap z)=True:=eq_true (by
 simp only [IntKind.wrap,IntKind.bits,IntKind.signed,Bool.false_and];split <;> rename_i h
 ·simp at h
 ·exact Int.emod_nonneg _ (by decide))
theorem DW (z:Int):(IntKind.u8.wrap z≤255)=True:=eq_true (by
 simp only [IntKind.wrap,IntKind.bits,IntKind.signed,Bool.false_and];split <;> rename_i h
 ·simp at h
 ·have:=Int.emod_lt_of_pos z (show (0:Int)<2 ^ 8 by decide);omega)
attribute [go_sem] DX DW
def vL (x:Nat) (k:Nat):UInt8:=UInt8.ofNat (IntKind.u8.wrap ((x:Int).fdiv (2 ^ k))).toNat
def HX (x:Nat):List UInt8:=[vL x 56,vL x 48,vL x 40,vL x 32,vL x 24,vL x 16,vL x 8,vL x 0]
def zA (x:Nat):Bool:=HX x == HX (cY x)
def aS (n:Nd):Bool:=!(decide (n.m<0) || decide (4095<n.m) || !zA n.t) && (if n.k == 1 then decide ((n.d.length:Int)≤2000) else if n.k == 2 then (n.d.length:Int) == 0 else if n.k == 3 then jK n.d else false)
def lV (t:List It) (p:List UInt8) (n:Nd):List It × Int :=
 if p == [] || !bT p || !aS n then ([],1) else if !aV t (aR p) then ([],9)
 else if decide ((120:Int)<(sP (if n.k != 2 then bE t p else t) p n).length) then ([],16) else (sP (if n.k != 2 then bE t p else t) p n,0)
theorem WZ (p:List UInt8) (n:Nd):∀ (t:List It) (d:Bool),(vD p n d t).length≤t.length+(if d then 0 else 1)
 | [],d=>by cases d <;> simp [vD]
 | x::r,d=>by
  have h:=WZ p n r (d || !bL x.p p);simp only [vD,List.length_append,List.length_cons];cases d <;> cases hb:bL x.p p <;> cases hp:x.p == p <;> simp [hb] at h ⊢ <;> omega
theorem oW (t:List It) (p:List UInt8) (n:Nd):(sP t p n).length≤t.length+1:=WZ p n t false
theorem rQ (t:List It) (p:List UInt8):(bE t p).length≤t.length:=List.length_filter_le ..
def eW (a b:List UInt8):List It→List It→List It × Int
 | out,[]=>(out,0)
 | out,x::r=>if !(x.p == a) && !aP a x.p then eW a b out r else if decide ((120:Int)<(b.length+(x.p.drop a.length).length:Nat)) then ([],12) else eW a b (sP out (b++x.p.drop a.length) x.n) r
def nN (t:List It) (a b:List UInt8):List It × Int :=
 if a == [] || b == [] || !bT a || !bT b then ([],1) else if !(aQ t a).isSome then ([],6) else if aP a b then ([],18) else if (aQ t b).isSome then ([],7) else if !aV t (aR b) then ([],9) else eW a b (bU t a) t
theorem dO {a q:List UInt8} (h:aP a q=true):a.length≤q.length:=by
 unfold aP at h;split at h
 ·rename_i h1;have h1:=eq_of_beq h1;subst h1;simp
 ·simp only [Bool.or_eq_true,Bool.and_eq_true,decide_eq_true_eq] at h;omega
def XH (R:DV→aC→Prop):Exit→DS→Prop
 | .normal,s=>R (.tup []) s.h
 | .ret,s=>R (.tup []) s.h
 | _,_=>False
theorem zHS {R:DV→aC→Prop} {s:DS}:XH R .normal s=R (.tup []) s.h:=nr rfl
theorem zHT {R:DV→aC→Prop} {s:DS}:XH R .ret s=R (.tup []) s.h:=nr rfl
theorem zNF {P:Program} {T:Tab} (hT:bD P T) (hm:P.follows .mixedOrders=true) {f:FuncId} {fn:Func} {c:Code} {args:List DV} {h:aC} {R:DV→aC→Prop} (hf:P.funcs[f]? = some fn) (hb:fn.body=some c)
  (hc:(Nat.ble args.length fn.ntmps && (!(fn.name == "runtime.NumGoroutine") && fn.results.toList.isEmpty))=true)
  (hs:∀ X0:Ctx,X0.h=h→vc P T X0 c ⟨fn.ntmps,iP 0 args,h⟩ (XH R)):aA P f args h R:=by
 simp only [Bool.and_eq_true,Bool.not_eq_true',List.isEmpty_iff] at hc;refine dW hT hf hb (Nat.le_of_ble_eq_true hc.1) hc.2.1 fun X0 hX=>?_;rw [eJ,hc.2.2];refine eY (dG hT hm c (hs X0 hX)) fun e s h=>?_;cases e <;> simp only [XH,dpost] at h ⊢
 case normal=>exact .inl h
 case ret=>exact .inl h
attribute [go_sem] zHS zHT
end Go.Dm
end
end
