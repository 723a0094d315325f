/- Part 6 of the proof of roomStays_card, set without needless blanks. No condition. -/
import Derived.Test.YtlbfnbldeefgmaaGreatDoorT03
set_option linter.all false
set_option maxRecDepth 100000
set_option maxHeartbeats 16000000
section
section
namespace Go.Dm
open Go
variable {r q w a b:Nat}
def rg(w:Nat):Nat:=w % 9223372036854775808
def sn(w:Nat):Bool:=w / 9223372036854775808 % 2==1
def mgn(r:Nat):Nat:=if r<4503599627370496 then r else 4503599627370496+r % 4503599627370496
def plc(r:Nat):Nat:=if r<4503599627370496 then 0 else r / 4503599627370496-1
def mv(r:Nat):Nat:=mgn r*2 ^ plc r
def sg(s:Bool)(v:Nat):Int:=if s then -(v:Int) else v
theorem zEZ(r:Nat):mv r<mv (r+1):=by
 unfold mv mgn plc;by_cases h1:r+1<4503599627370496
 .rw[if_pos (by omega),if_pos (by omega),if_pos h1,if_pos h1];simp
 .by_cases h2:r<4503599627370496
  .have:r+1=4503599627370496:=by omega
   rw[if_pos h2,if_pos h2,this];simp;omega
  .rw [if_neg h2,if_neg h2,if_neg h1,if_neg h1];have he:1<=r / 4503599627370496:=by omega
   by_cases h3:r % 4503599627370496+1<4503599627370496
   .have e1:(r+1) / 4503599627370496=r / 4503599627370496:=by omega
    have e2:(r+1) % 4503599627370496=r % 4503599627370496+1:=by omega
    rw[e1,e2];exact Nat.mul_lt_mul_of_pos_right (by omega) (Nat.two_pow_pos _)
   .have e1:(r+1) / 4503599627370496-1=(r / 4503599627370496-1)+1:=by omega
    have e2:(r+1) % 4503599627370496=0:=by omega
    rw[e1,e2,Nat.pow_succ];have hp:=Nat.two_pow_pos (r / 4503599627370496-1);generalize 2 ^ (r / 4503599627370496-1)=p at hp ⊢;generalize hm:r % 4503599627370496=m at h3;have hm':m<4503599627370496:=by omega
    have:(4503599627370496+m)*p<(4503599627370496+4503599627370496)*p:=Nat.mul_lt_mul_of_pos_right (by omega) hp;have e3:(4503599627370496+0)*(p*2)=(4503599627370496+4503599627370496)*p:=by rw[Nat.add_zero,Nat.mul_comm p 2,<- Nat.mul_assoc]
    rw[e3];exact this
theorem zIZ(h:r<q):mv r<mv q:=by
 induction q with
 | zero=>omega
 | succ q ih =>
  rcases Nat.lt_or_ge r q with h'|h'
  .exact Nat.lt_trans (ih h') (zEZ q)
  .have:r=q:=by omega
   subst this;exact zEZ r
theorem NY: mv r<mv q↔r<q:=by
 refine⟨λh=>?_,zIZ⟩;rcases Nat.lt_or_ge r q with h'|h'
 .exact h'
 .rcases Nat.eq_or_lt_of_le h' with h2|h2
  .subst h2;omega
  .have:=zIZ h2;omega
theorem JK: mv 0=0:=by decide
theorem nU(h:rg w<9218868437227405312):Ieee.double.read w=.number (sn w) (mgn (rg w)) (-1074+(plc (rg w):Int)):=by
 have e1:Ieee.double.signWeight=9223372036854775808:=by decide
 have e2:Ieee.double.binade=4503599627370496:=by decide
 have e3:Ieee.double.infRung=9218868437227405312:=by decide
 have e4:Ieee.double.leastPlace = -1074:=by decide
 simp only[Ieee.Format.read,e1,e2,e3,e4];simp only[rg] at h ⊢;unfold mgn plc sn;by_cases h1:w % 9223372036854775808<4503599627370496
 .simp only[if_pos h1];rfl
 .simp only[if_neg h1,if_pos h]
theorem yI(h:rg w=9218868437227405312):Ieee.double.read w=.infinity (sn w):=by
 have e1:Ieee.double.signWeight=9223372036854775808:=by decide
 have e2:Ieee.double.binade=4503599627370496:=by decide
 have e3:Ieee.double.infRung=9218868437227405312:=by decide
 simp only[Ieee.Format.read,e1,e2,e3];simp only[rg] at h;rw[h];rfl
theorem zJi(h:9218868437227405312<rg w):∃s f,Ieee.double.read w=.nan s f:=by
 have e1:Ieee.double.signWeight=9223372036854775808:=by decide
 have e2:Ieee.double.binade=4503599627370496:=by decide
 have e3:Ieee.double.infRung=9218868437227405312:=by decide
 simp only[Ieee.Format.read,e1,e2,e3];simp only[rg] at h;rw[if_neg (by omega),if_neg (by omega),if_neg (by omega)];exact⟨_,_,rfl⟩
def SQ(a b:Int):Ordering:=if a<b then .lt else if a=b then .eq else .gt
theorem SR(a b:Int):compare a b=SQ a b:=rfl
theorem zAj{a b c d:Int}(h1:a<b↔c<d)(h2:a=b↔c=d):SQ a b=SQ c d:=by
 unfold SQ;by_cases x:a<b
 .rw[if_pos x,if_pos (h1.1 x)]
 .rw[if_neg x,if_neg (λh=>x (h1.2 h))];by_cases y:a=b
  .rw[if_pos y,if_pos (h2.1 y)]
  .rw[if_neg y,if_neg (λh=>y (h2.2 h))]
theorem TX(ha:rg a<9218868437227405312)(hb:rg b<9218868437227405312):MY a b=some (SQ (sg (sn a) (rg a)) (sg (sn b) (rg b))):=by
 show Ieee.double.order a b=_;simp only[Ieee.Format.order,nU ha,nU hb,Ieee.Datum.order,SR]
 congr 1
 generalize hx:(-1074+(plc (rg a):Int)-min (-1074+(plc (rg a):Int)) (-1074+(plc (rg b):Int))).toNat=x;generalize hy:(-1074+(plc (rg b):Int)-min (-1074+(plc (rg a):Int)) (-1074+(plc (rg b):Int))).toNat=y;have hx':plc (rg a)=x+min (plc (rg a)) (plc (rg b)):=by omega
 have hy':plc (rg b)=y+min (plc (rg a)) (plc (rg b)):=by omega
 generalize min (plc (rg a)) (plc (rg b))=z at hx' hy';have ea:mv (rg a)=(mgn (rg a) <<< x)*2 ^ z:=by rw[mv,hx',Nat.pow_add,Nat.shiftLeft_eq,Nat.mul_assoc]
 have eb:mv (rg b)=(mgn (rg b) <<< y)*2 ^ z:=by rw[mv,hy',Nat.pow_add,Nat.shiftLeft_eq,Nat.mul_assoc]
 have hz:=Nat.two_pow_pos z;have l1:(mgn (rg a) <<< x)<(mgn (rg b) <<< y)↔rg a<rg b:=by
  rw[<- NY (r:=rg a),ea,eb];exact⟨λh=>Nat.mul_lt_mul_of_pos_right h hz,λh=>Nat.lt_of_mul_lt_mul_right h⟩
 have l2:(mgn (rg b) <<< y)<(mgn (rg a) <<< x)↔rg b<rg a:=by
  rw[<- NY (r:=rg b),ea,eb];exact⟨λh=>Nat.mul_lt_mul_of_pos_right h hz,λh=>Nat.lt_of_mul_lt_mul_right h⟩
 have z1:mgn (rg a) <<< x=0↔rg a=0:=by
  constructor
  .intro h;rw[h,Nat.zero_mul,<- JK] at ea;rcases Nat.lt_or_ge 0 (rg a) with h'|h'
   .have:=zIZ h';omega
   .omega
  .intro h;rw[h,JK] at ea;rw[h];rcases Nat.eq_zero_or_pos (mgn 0 <<< x) with h'|h'
   .exact h'
   .have:=Nat.mul_pos h' hz;omega
 have z2:mgn (rg b) <<< y=0↔rg b=0:=by
  constructor
  .intro h;rw[h,Nat.zero_mul,<- JK] at eb;rcases Nat.lt_or_ge 0 (rg b) with h'|h'
   .have:=zIZ h';omega
   .omega
  .intro h;rw[h,JK] at eb;rw[h];rcases Nat.eq_zero_or_pos (mgn 0 <<< y) with h'|h'
   .exact h'
   .have:=Nat.mul_pos h' hz;omega
 simp only[Ieee.signed];generalize mgn (rg a) <<< x=A at *;generalize mgn (rg b) <<< y=B at *;unfold sg;refine zAj ?_ ?_
 .cases sn a<;>cases sn b<;>simp<;>omega
 .cases sn a<;>cases sn b<;>simp<;>omega
theorem HT(ha:rg a<=9218868437227405312)(hb:rg b<=9218868437227405312):MY a b=some (SQ (sg (sn a) (rg a)) (sg (sn b) (rg b))):=by
 rcases Nat.lt_or_ge (rg a) 9218868437227405312 with h1|h1<;>rcases Nat.lt_or_ge (rg b) 9218868437227405312 with h2|h2
 .exact TX h1 h2
 .have h2':rg b=9218868437227405312:=by omega
  show Ieee.double.order a b=_;simp only[Ieee.Format.order,nU h1,yI h2',Ieee.Datum.order]
  congr 1
  rw[h2'];unfold SQ sg;cases sn a<;>cases sn b<;>simp<;>(repeat' split)<;>first|rfl|omega
 .have h1':rg a=9218868437227405312:=by omega
  show Ieee.double.order a b=_;simp only[Ieee.Format.order,nU h2,yI h1',Ieee.Datum.order]
  congr 1
  rw[h1'];unfold SQ sg;cases sn a<;>cases sn b<;>simp<;>(repeat' split)<;>first|rfl|omega
 .have h1':rg a=9218868437227405312:=by omega
  have h2':rg b=9218868437227405312:=by omega
  show Ieee.double.order a b=_;simp only[Ieee.Format.order,yI h1',yI h2',Ieee.Datum.order]
  congr 1
  rw[h1',h2'];cases sn a<;>cases sn b<;>decide
theorem zAG(ha:9218868437227405312<rg a):MY a b=none:=by
 obtain⟨s,f,h⟩:=zJi ha;show Ieee.double.order a b=_;simp only[Ieee.Format.order,h,Ieee.Datum.order]
end Go.Dm
end
section
namespace Go.Dm
open Go
variable {x y:Nat}
def isNaN(x:Nat):Bool:=MY x x != some .eq
def GK: Nat:=9221120237041090561
def dC(x:Nat):Nat:=if isNaN x then GK else x
def zA6(x:Nat):Bool:=decide (IntKind.i64.wrap x<0)
def lT(x:Nat):Int × Int:=if isNaN x then (1,0) else if MY x 0==some .eq && zA6 x then (0,-1) else (0,0)
def LI(a b:Int):Int:=if a<b then -1 else if b<a then 1 else 0
def zM7(a b:Nat):Int:=if isNaN a then (if isNaN b then 0 else -1) else if isNaN b then 1 else if MY a b==some .lt then -1 else if MY a b==some .gt then 1 else 0
def oE(a b:Nat):Int:=if 0<IntKind.i64.wrap ((lT a).1+(lT b).1) then LI (lT a).1 (lT b).1 else if zM7 a b==0 then LI (lT a).2 (lT b).2 else zM7 a b
def wN(a b:Nat):Nat:=if oE a b<0 then dC b else dC a
theorem zCH(a:Int):SQ a a=.eq:=by unfold SQ;rw[if_neg (by omega),if_pos rfl]
theorem oX(x:Nat):isNaN x=decide (9218868437227405312<rg x):=by
 unfold isNaN;rcases Nat.lt_or_ge 9218868437227405312 (rg x) with h|h
 .rw[zAG h,decide_eq_true h];rfl
 .rw[HT h h,zCH,decide_eq_false (by omega)];rfl
theorem zOr(x:Nat):rg x<9223372036854775808:=Nat.mod_lt _ (by omega)
theorem AF: isNaN GK=true:=by rw[oX];decide
theorem sQ(h:x<18446744073709551616):dC x<18446744073709551616:=by
 unfold dC;split
 .decide
 .exact h
theorem zAb(x:Nat):dC (dC x)=dC x:=by
 unfold dC;by_cases h:isNaN x=true
 .rw[if_pos h,if_pos AF]
 .rw[if_neg h,if_neg h]
theorem zI0(h:x<18446744073709551616):zA6 x=decide (9223372036854775808<=x):=by
 unfold zA6
 congr 1
 simp only[IntKind.wrap,IntKind.bits,IntKind.signed,Bool.true_and,eq_iff_iff];split<;>rename_i h'<;>simp at h'<;>omega
def yC(x:Nat):Int:=if isNaN x then 9223372036854775808 else if sn x then -(rg x:Int)-1 else rg x
theorem JB(hn:isNaN x=false):yC x<=9218868437227405312:=by
 unfold yC;rw[hn];rw[oX] at hn;have:=of_decide_eq_false hn;simp only[Bool.false_eq_true,if_false];split<;>omega
theorem zNj(p q:Int):(some (SQ p q)==some Ordering.lt)=decide (p<q):=by
 unfold SQ;by_cases h:p<q
 .rw[if_pos h,decide_eq_true h];rfl
 .rw[if_neg h,decide_eq_false h];split<;>rfl
theorem zNi(p q:Int):(some (SQ p q)==some Ordering.gt)=decide (q<p):=by
 unfold SQ;by_cases h:p<q
 .rw[if_pos h,decide_eq_false (by omega)];rfl
 .rw[if_neg h];by_cases h':p=q
  .rw[if_pos h',decide_eq_false (by omega)];rfl
  .rw[if_neg h',decide_eq_true (by omega)];rfl
theorem zCG(p q:Int):(LI p q==0)=decide (p=q):=by
 unfold LI;by_cases h:p<q
 .rw[if_pos h,decide_eq_false (by omega)];rfl
 .rw[if_neg h];by_cases h':q<p
  .rw[if_pos h',decide_eq_false (by omega)];rfl
  .rw[if_neg h',decide_eq_true (by omega)];rfl
theorem zBa(hx:x<18446744073709551616)(hy:y<18446744073709551616):oE x y=LI (yC x) (yC y):=by
 have w2:IntKind.i64.wrap (1+1)=2:=by decide
 have w1:IntKind.i64.wrap (1+0)=1:=by decide
 have w1':IntKind.i64.wrap (0+1)=1:=by decide
 have w0:IntKind.i64.wrap (0+0)=0:=by decide
 have s1:∀z,isNaN z=true->lT z=(1,0):=λz h=>by unfold lT;rw[if_pos h]
 have s0:∀z,z<18446744073709551616->isNaN z=false->(lT z).1=0/\(lT z).2=if rg z=0/\sn z=true then -1 else 0:=by
  intro z hz h;have hr:rg z<=9218868437227405312:=by rw[oX] at h;have:=of_decide_eq_false h;omega
  have e:(MY z 0==some Ordering.eq)=decide (rg z=0):=by
   rw[HT hr (by decide)];have:sg (sn 0) (rg 0)=0:=by decide
   rw[this];by_cases hz:rg z=0
   .rw[hz,decide_eq_true rfl];cases sn z<;>rfl
   .rw[decide_eq_false hz];unfold SQ sg;cases sn z<;>simp only[Bool.false_eq_true,if_false,if_true]
    .rw[if_neg (by omega),if_neg (by omega)];rfl
    .rw[if_pos (by omega)];rfl
  have e2:zA6 z=sn z:=by
   rw[zI0 hz];unfold sn;rcases Nat.lt_or_ge z 9223372036854775808 with h'|h'
   .have:z / 9223372036854775808=0:=by omega
    rw[this,decide_eq_false (by omega)];rfl
   .have:z / 9223372036854775808=1:=by omega
    rw[this,decide_eq_true h'];rfl
  unfold lT;rw[h,e,e2];simp only[Bool.false_eq_true,if_false];by_cases hz0:rg z=0<;>cases hsn:sn z<;>simp[hz0]
 unfold oE;by_cases h1:isNaN x=true<;>by_cases h2:isNaN y=true
 .rw[s1 x h1,s1 y h2];simp only[w2];rw[if_pos (by decide)];unfold yC;rw[if_pos h1,if_pos h2];rfl
 .have h2':isNaN y=false:=by simpa using h2
  rw[s1 x h1,(s0 y hy h2').1];simp only[w1];rw[if_pos (by decide)];have:=JB h2';unfold LI;have e:yC x=9223372036854775808:=by unfold yC;rw[if_pos h1]
  rw[e,if_neg (by omega),if_pos (by omega),if_neg (by omega),if_pos (by omega)]
 .have h1':isNaN x=false:=by simpa using h1
  rw[s1 y h2,(s0 x hx h1').1];simp only[w1'];rw[if_pos (by decide)];have:=JB h1';unfold LI;have e:yC y=9223372036854775808:=by unfold yC;rw[if_pos h2]
  rw[e,if_pos (by omega),if_pos (by omega)]
 .have h1':isNaN x=false:=by simpa using h1
  have h2':isNaN y=false:=by simpa using h2
  rw[(s0 x hx h1').1,(s0 y hy h2').1,(s0 x hx h1').2,(s0 y hy h2').2,w0,if_neg (by decide)];have hr1:rg x<=9218868437227405312:=by rw[oX] at h1';have:=of_decide_eq_false h1';omega
  have hr2:rg y<=9218868437227405312:=by rw[oX] at h2';have:=of_decide_eq_false h2';omega
  have ef:zM7 x y=LI (sg (sn x) (rg x)) (sg (sn y) (rg y)):=by
   unfold zM7;rw[h1',h2',HT hr1 hr2,zNj,zNi];unfold LI;simp only[Bool.false_eq_true,if_false,decide_eq_true_eq]
  rw[ef,zCG];unfold yC;rw[h1',h2'];simp only[Bool.false_eq_true,if_false,decide_eq_true_eq];unfold LI sg;cases sn x<;>cases sn y<;>simp only[Bool.false_eq_true,if_false,if_true,and_false,and_true]<;>(repeat' split)<;>first|rfl|omega
theorem WE(hx:x<18446744073709551616)(hy:y<18446744073709551616):(oE x y==0)=(dC x==dC y):=by
 rw [zBa hx hy];have e:(LI (yC x) (yC y)==0)=decide (yC x=yC y):=by
  unfold LI;by_cases h:yC x<yC y
  .rw[if_pos h,decide_eq_false (by omega)];rfl
  .rw[if_neg h];by_cases h':yC y<yC x
   .rw[if_pos h',decide_eq_false (by omega)];rfl
   .rw[if_neg h',decide_eq_true (by omega)];rfl
 rw[e];unfold dC;by_cases h1:isNaN x=true<;>by_cases h2:isNaN y=true
 .unfold yC;simp only[if_pos h1,if_pos h2];simp
 .have:=JB (x:=y) (by simpa using h2);have e:yC x=9223372036854775808:=by unfold yC;rw[if_pos h1]
  rw[e,if_pos h1,if_neg h2,decide_eq_false (by omega)];symm;rw[beq_eq_false_iff_ne];intro h;exact h2 (h▸AF)
 .have:=JB (x:=x) (by simpa using h1);have e:yC y=9223372036854775808:=by unfold yC;rw[if_pos h2]
  rw[e,if_neg h1,if_pos h2,decide_eq_false (by omega)];symm;rw[beq_eq_false_iff_ne];intro h;exact h1 (h▸AF)
 .rw [if_neg h1,if_neg h2];rw[Bool.eq_iff_iff,decide_eq_true_iff,beq_iff_eq];unfold yC;rw[if_neg h1,if_neg h2];constructor
  .intro h;have ex:x=(if sn x then 9223372036854775808 else 0)+rg x:=by
    unfold sn rg;rcases Nat.lt_or_ge x 9223372036854775808 with h'|h'
    .have:x / 9223372036854775808=0:=by omega
     rw[this];simp;omega
    .have:x / 9223372036854775808=1:=by omega
     rw[this];simp;omega
   have ey:y=(if sn y then 9223372036854775808 else 0)+rg y:=by
    unfold sn rg;rcases Nat.lt_or_ge y 9223372036854775808 with h'|h'
    .have:y / 9223372036854775808=0:=by omega
     rw[this];simp;omega
    .have:y / 9223372036854775808=1:=by omega
     rw[this];simp;omega
   rw[ex,ey];have l1:=zOr x;have l2:=zOr y;cases hsx:sn x<;>cases hsy:sn y<;>simp only[hsx,hsy,Bool.false_eq_true,if_false,if_true] at h ⊢<;>omega
  .intro h;subst h;rfl
end Go.Dm
end
section
namespace Go.Dm
open Go
structure Nd where
 k:Int
 m:Int
 t:Nat
 d:List UInt8
abbrev ndc(k m:Int)(t:Nat)(d:List UInt8):List CV:=[.p (.i .i64 k),.p (.i .i64 m),.p (.f t),.p (.sl 1 (bJ d))]
abbrev Nd.cv(x:Nd):List CV:=[.p (.i .i64 x.k),.p (.i .i64 x.m),.p (.f x.t),.p (.sl 1 (bJ x.d))]
attribute [go_sem] Nd.cv ndc
theorem zKr(x:Nd):Nd.mk x.k x.m x.t x.d=x:=rfl
attribute [go_sem] zKr
def pF(x y:Nd):Bool:=x.k==y.k && x.m==y.m && (oE x.t y.t==0) && x.d==y.d
def lC(x y:Nd):Bool:=x.k==y.k && x.m==y.m && x.d==y.d && (dC x.t==dC y.t)
def zGG(x y:Nd):Bool:=x.k==y.k && x.d==y.d
def Nd.ok(x:Nd):Prop:=x.d.length<=140737488355328
def zF7(base alike o t:Bool):Int:=if alike || base && t then 1 else if base && o then 2 else 0
def zF0(x y:Nd)(p q:Bool):Bool:=p==q && (!p || pF x y)
def nd0:Nd:=⟨0,0,0,[]⟩
def wQ(base o t:Nd)(b:Bool):Nd × Bool :=
 let w:=zF7 b (zGG o t) (zGG base o) (zGG base t)
 let m:=zF7 b (o.m==t.m) (base.m==o.m) (base.m==t.m)
 let c:=zF7 b (oE o.t t.t==0) (oE base.t o.t==0) (oE base.t t.t==0)
 (⟨if w==2 then t.k else o.k,if m==2 then t.m else o.m,if c==2 then t.t else if c==0 then wN o.t t.t else o.t,if w==2 then t.d else o.d⟩,w != 0 && m != 0)
def BB(base o t:Nd)(b isO isT:Bool):Nd × Bool × Int :=
 if zF0 o t isO isT || zF0 base t b isT then (if isO then o else nd0,isO,0)
 else if zF0 base o b isO then (if isT then t else nd0,isT,0)
 else if !isO then (nd0,false,3)
 else if !isT then (nd0,false,2)
 else if (wQ base o t b).2 then ((wQ base o t b).1,true,0)
 else if !b then (nd0,false,5)
 else if o.k != t.k then (nd0,false,4)
 else (nd0,false,1)
end Go.Dm
end
section
namespace Go.Dm
open Go
def zOd:List (List UInt8):=[[97],[98],[99],[100,46,101],[102,45,49],[255]]
def vN(n:Int):List UInt8:=zOd.getD (n % 6).toNat []
def PK:Nat->Int->List UInt8->List UInt8
 | 0,_,p=>p
 | k+1,n,p=>PK k (n / 7) (p++47::vN (n / 7))
def tT(n:Int):List UInt8:=PK (n % 1073741824 / 6 % 3).toNat (n % 1073741824) (vN (n % 1073741824))
def zOC:List Nat:=[0,9223372036854775808,4607182418800017408,13830554455654793216,9218868437227405312,18442240474082181120,9221120237041090561,4612811918334230528,1,9223372036854775809,9218868437227405311,18444492273895866373]
def CI(n:Int)(x:Nat):Nat:=if n % 15<12 then zOC.getD (n % 15).toNat 0 else x
structure RN where
 k:Int
 m:Int
 t:Int
 x:Nat
 d:List UInt8
abbrev rnc(k m t:Int)(x:Nat)(d:List UInt8):List CV:=[.p (.i .i64 k),.p (.i .i64 m),.p (.i .i64 t),.p (.f x),.p (.sl 1 (bJ d))]
attribute [go_sem] rnc
def JG(m:Int):List UInt8 :=
 let a:=if m.tmod 4==0 then [46,46,47]++tT m else tT m
 if m.tmod 5==0 then [47]++a else a
def zL9(x:RN):List UInt8:=if 1+x.k % 3==1 then x.d.take 60 else if 1+x.k % 3==3 then JG x.m else []
def zI3(x:RN):Nd:=⟨1+x.k % 3,x.m % 4096,dC (CI x.t x.x),zL9 x⟩
theorem zJM{n m:Int}(hm:0<m)(h:¬ n.tmod m<0):n.tmod m=n % m:=by
 rw[Int.tmod_eq_emod] at h ⊢;split
 .simp
 .rename_i hc;rw[if_neg hc] at h;have:=Int.emod_lt_of_pos n hm;omega
theorem tmod_neg{n m:Int}(hm:0<m)(h:n.tmod m<0):n.tmod m+m=n % m:=by
 rw[Int.tmod_eq_emod] at h ⊢;split
 .rename_i hc;rw[if_pos hc] at h;have:=Int.emod_nonneg n (show m≠0 by omega)
  omega
 .omega
theorem iC(n:Int):(vN n).length<=3:=by
 unfold vN;have h1:=Int.emod_nonneg n (show (6:Int)≠0 by decide)
 have h2:=Int.emod_lt_of_pos n (show (0:Int)<6 by decide)
 generalize n % 6=k at h1 h2;have:k=0∨k=1∨k=2∨k=3∨k=4∨k=5:=by omega
 rcases this with rfl|rfl|rfl|rfl|rfl|rfl<;>decide
theorem PL:∀(k:Nat) (n:Int) (p:List UInt8),(PK k n p).length<=p.length+4*k
 | 0,_,_=>by simp[PK]
 | k+1,n,p=>by
  have h1:=PL k (n / 7) (p++47::vN (n / 7));have h2:=iC (n / 7);simp only[PK,List.length_append,List.length_cons] at h1 ⊢;omega
theorem tU(n:Int):(tT n).length<=11:=by
 have h1:=PL (n % 1073741824 / 6 % 3).toNat (n % 1073741824) (vN (n % 1073741824));have h2:=iC (n % 1073741824);unfold tT;omega
theorem zEM(m:Int):(JG m).length<=15:=by
 have:=tU m;unfold JG;simp only;split<;>split<;>simp<;>omega
end Go.Dm
end
section
namespace Go.Dm
open Go
def Nd.wf(x:Nd):Prop:=x.t<18446744073709551616
theorem AW{x y:Nd}(hx:x.wf)(hy:y.wf):pF x y=lC x y:=by
 unfold pF lC;rw[WE hx hy];cases x.k==y.k<;>cases x.m==y.m<;>cases x.d==y.d<;>cases dC x.t==dC y.t<;>rfl
theorem sE(x:Nd):lC x x=true:=by simp[lC]
theorem zJL{n:Int}{x:Nat}(hx:x<18446744073709551616):CI n x<18446744073709551616:=by
 unfold CI;split
 .rename_i h;have h1:=Int.emod_nonneg n (show (15:Int)≠0 by decide)
  generalize n % 15=k at h h1;have:k=0∨k=1∨k=2∨k=3∨k=4∨k=5∨k=6∨k=7∨k=8∨k=9∨k=10∨k=11:=by omega
  rcases this with rfl|rfl|rfl|rfl|rfl|rfl|rfl|rfl|rfl|rfl|rfl|rfl<;>decide
 .exact hx
end Go.Dm
end
section
namespace Go.Dm
open Go
variable {k:Nat}{R:DV->aB->Prop}{s:DS}
structure It where
 p:List UInt8
 n:Nd
def It.cs(x:It):List PV:=[.s x.p,.i .i64 x.n.k,.i .i64 x.n.m,.f x.n.t,.sl 1 (bJ x.n.d)]
def aQ(t:List It):List (List PV):=t.map It.cs
theorem cS(t:List It):(aQ t).length=t.length:=by simp[aQ]
theorem YE: aQ []=[]:=rfl
theorem zIc(a b:List It):aQ a++aQ b=aQ (a++b):=by simp[aQ]
theorem zT(a:List It)(n:Nat):(aQ a).take n=aQ (a.take n):=by simp[aQ]
theorem zDU(a:List It)(n:Nat):(aQ a).drop n=aQ (a.drop n):=by simp[aQ]
theorem zId(t:List It):(∀x∈aQ t,x.length=5)=True:=eq_true λx hx=>by
 simp only[aQ,List.mem_map] at hx;obtain⟨y,_,rfl⟩:=hx;rfl
theorem cZ{t:List It}{x:It}(h:t[k]?=some x):(aQ t).getD k []=[.s x.p,.i .i64 x.n.k,.i .i64 x.n.m,.f x.n.t,.sl 1 (bJ x.n.d)]:=by
 simp only[aQ,List.getD_eq_getElem?_getD,List.getElem?_map,h];rfl
theorem zDV(t:List It)(p:List UInt8)(k m:Int)(tt:Nat)(d:List UInt8):aQ t++[[.s p,.i .i64 k,.i .i64 m,.f tt,.sl 1 (bJ d)]]=aQ (t++[⟨p,⟨k,m,tt,d⟩⟩]):=by simp[aQ,It.cs]
theorem zNY(x:It):It.mk x.p x.n=x:=rfl
attribute [go_sem] cS YE zIc zT zDU zId zDV zNY Nat.sub_zero
theorem drop_at{α:Type}{l:List α}{x:α}(h:l[k]?=some x):l.drop k=x::l.drop (k+1):=by
 have:=List.getElem?_eq_some_iff.1 h;obtain⟨h1,h2⟩:=this;rw[<- h2];exact List.drop_eq_getElem_cons h1
def aJ(p q:List UInt8):Bool:=if p == [] then !(q == []) else (decide ((q.length:Int) > p.length+1) && q.take (p.length+1)==p++[47]) || (decide ((q.length:Int)=p.length+1) && q==p++[47])
def cB(t:List It)(p:List UInt8):List It:=t.filter λx=>!aJ p x.p
def eV(p:List UInt8):Nat->Option Nat
 | 0=>none
 | j+1=>if ((p.getD j 0).toNat:Int)==47 then some j else eV p j
def aM(p:List UInt8):List UInt8:=match eV p p.length with
 | some j=>p.take j
 | none=>[]
def zFb(b:UInt8):Bool:=!(((b.toNat:Int)==0) || ((b.toNat:Int)==47))
def aZ(s:List UInt8):Bool:=s.all zFb && (decide ((1:Int)<=s.length) && decide ((s.length:Int)<=24) && !(s == [46]) && !(s == [46,46]))
def CZ: List UInt8->List UInt8->List (List UInt8)
 | w,[]=>[w]
 | w,b::r=>if ((b.toNat:Int)==47) then w::CZ [] r else CZ (w++[b]) r
def KT(s:List UInt8):List (List UInt8):=CZ [] s
def cI(p:List UInt8):Bool:=p == [] || ((KT p).all aZ && decide ((p.length:Int)<=120))
def encS(l:List (List UInt8)):List (List PV):=l.map λs=>[.s s]
theorem iB(t:List (List UInt8)):(encS t).length=t.length:=by simp[encS]
theorem HM: encS []=[]:=rfl
theorem zIa(a b:List (List UInt8)):encS a++encS b=encS (a++b):=by simp[encS]
theorem zDT(a:List (List UInt8))(n:Nat):(encS a).take n=encS (a.take n):=by simp[encS]
theorem zDR(a:List (List UInt8))(n:Nat):(encS a).drop n=encS (a.drop n):=by simp[encS]
theorem zIb(t:List (List UInt8)):(∀x∈encS t,x.length=1)=True:=eq_true λx hx=>by
 simp only[encS,List.mem_map] at hx;obtain⟨y,_,rfl⟩:=hx;rfl
theorem encS_at{t:List (List UInt8)}{x:List UInt8}(h:t[k]?=some x):(encS t).getD k []=[.s x]:=by
 simp only[encS,List.getD_eq_getElem?_getD,List.getElem?_map,h];rfl
theorem zDS(t:List (List UInt8))(p:List UInt8):encS t++[[.s p]]=encS (t++[p]):=by simp[encS]
attribute [go_sem] iB HM zIa zDT zDR zIb zDS
theorem sU: ∀(s w:List UInt8),(CZ w s).length<=s.length+1
 | [],w=>by simp[CZ]
 | b::r,w=>by
  simp only[CZ];split
  .have:=sU r [];simp;omega
  .have:=sU r (w++[b]);simp;omega
theorem xP: ∀(s w:List UInt8) (x:List UInt8),x∈CZ w s->x.length<=w.length+s.length
 | [],w,x,h=>by simp[CZ] at h;subst h;simp
 | b::r,w,x,h=>by
  simp only[CZ] at h;split at h
  .rcases List.mem_cons.1 h with rfl|h
   .simp
   .have:=xP r [] x h;simp at this ⊢;omega
  .have:=xP r (w++[b]) x h;simp at this ⊢;omega
def aN: List It->List UInt8->Option Nd
 | [],_=>none
 | x::r,p=>if x.p==p then some x.n else aN r p
def aX(t:List It)(p:List UInt8):Bool:=p == [] || (match aN t p with
 | some n=>n.k==2
 | none=>false)
def CW(p:List UInt8)(n:Nd):Bool->List It->List It
 | done,[]=>if done then [] else [⟨p,n⟩]
 | done,x::r=>(if !done && !bT x.p p then [⟨p,n⟩] else [])++((if !(x.p==p) then [x] else [])++CW p n (done || !bT x.p p) r)
def xL(t:List It)(p:List UInt8)(n:Nd):List It:=CW p n false t
def rG(t:List It)(p:List UInt8):List It:=t.filter λx=>!(x.p==p)
def cA(t:List It)(p:List UInt8):List It:=rG (cB t p) p
def pQ(b:List UInt8):Bool:=b.all (λb=>!((b.toNat:Int)==0)) && (decide ((1:Int)<=b.length) && decide ((b.length:Int)<=120))
theorem lW(n:Nat)(h:n<9223372036854775808):IntKind.i64.wrap (no_index (OfNat.ofNat n))=OfNat.ofNat n:=wrap_i64 (by show _<=(n:Int);omega) (by show (n:Int)<=_;omega)
theorem zCa(z:Int):(0<=IntKind.u8.wrap z)=True:=eq_true (by
 simp only[IntKind.wrap,IntKind.bits,IntKind.signed,Bool.false_and];split<;>rename_i h
 .simp at h
 .exact Int.emod_nonneg _ (by decide))
theorem zB9(z:Int):(IntKind.u8.wrap z<=255)=True:=eq_true (by
 simp only[IntKind.wrap,IntKind.bits,IntKind.signed,Bool.false_and];split<;>rename_i h
 .simp at h
 .have:=Int.emod_lt_of_pos z (show (0:Int)<2 ^ 8 by decide);omega)
attribute [go_sem] zCa zB9
def xF(x:Nat)(k:Nat):UInt8:=UInt8.ofNat (IntKind.u8.wrap ((x:Int).fdiv (2 ^ k))).toNat
def LD(x:Nat):List UInt8:=[xF x 56,xF x 48,xF x 40,xF x 32,xF x 24,xF x 16,xF x 8,xF x 0]
def FJ(x:Nat):Bool:=LD x==LD (dC x)
def aP(n:Nd):Bool:=!(decide (n.m<0) || decide (4095<n.m) || !FJ n.t) && (if n.k==1 then decide ((n.d.length:Int)<=2000) else if n.k==2 then (n.d.length:Int)==0 else if n.k==3 then pQ n.d else false)
def wR(t:List It)(p:List UInt8)(n:Nd):List It × Int :=
 if p == [] || !cI p || !aP n then ([],1) else if !aX t (aM p) then ([],9)
 else if decide ((120:Int)<(xL (if n.k != 2 then cB t p else t) p n).length) then ([],16) else (xL (if n.k != 2 then cB t p else t) p n,0)
theorem ZL(p:List UInt8)(n:Nd):∀(t:List It) (d:Bool),(CW p n d t).length<=t.length+(if d then 0 else 1)
 | [],d=>by cases d<;>simp[CW]
 | x::r,d=>by
  have h:=ZL p n r (d || !bT x.p p);simp only[CW,List.length_append,List.length_cons];cases d<;>cases hb:bT x.p p<;>cases hp:x.p==p<;>simp[hb] at h ⊢<;>omega
theorem yJ(t:List It)(p:List UInt8)(n:Nd):(xL t p n).length<=t.length+1:=ZL p n t false
theorem JR(t:List It)(p:List UInt8):(cB t p).length<=t.length:=List.length_filter_le ..
def fT(a b:List UInt8):List It->List It->List It × Int
 | out,[]=>(out,0)
 | out,x::r=>if !(x.p==a) && !aJ a x.p then fT a b out r else if decide ((120:Int)<(b.length+(x.p.drop a.length).length:Nat)) then ([],12) else fT a b (xL out (b++x.p.drop a.length) x.n) r
def pE(t:List It)(a b:List UInt8):List It × Int :=
 if a == [] || b == [] || !cI a || !cI b then ([],1) else if !(aN t a).isSome then ([],6) else if aJ a b then ([],18) else if (aN t b).isSome then ([],7) else if !aX t (aM b) then ([],9) else fT a b (cA t a) t
theorem eE{a q:List UInt8}(h:aJ a q=true):a.length<=q.length:=by
 unfold aJ at h;split at h
 .rename_i h1;have h1:=eq_of_beq h1;subst h1;simp
 .simp only[Bool.or_eq_true,Bool.and_eq_true,decide_eq_true_eq] at h;omega
def zKN(R:DV->aB->Prop):Exit->DS->Prop
 | .normal,s=>R (.tup []) s.h
 | .ret,s=>R (.tup []) s.h
 | _,_=>False
theorem zJT: zKN R .normal s=R (.tup []) s.h:=nr rfl
theorem zJU: zKN R .ret s=R (.tup []) s.h:=nr rfl
attribute [go_sem] zJT zJU
end Go.Dm
end
end
