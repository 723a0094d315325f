/- Part 6 of the proof of roomMerges_card, set without needless blanks. No condition. -/
import Derived.Test.YtflcjdohmojepaaGreatDoorM03
set_option linter.all false
set_option maxRecDepth 100000
set_option maxHeartbeats 16000000
section
section
namespace Go.Dm
open Go
variable {r q w a b:Nat}
def rg(w:Nat):Nat:=w % 9223372036854775808
def sn(w:Nat):Bool:=w / 9223372036854775808 % 2==1
def mgn(r:Nat):Nat:=if r<4503599627370496 then r else 4503599627370496+r % 4503599627370496
def plc(r:Nat):Nat:=if r<4503599627370496 then 0 else r / 4503599627370496-1
def mv(r:Nat):Nat:=mgn r*2 ^ plc r
def sg(s:Bool)(v:Nat):Int:=if s then -(v:Int) else v
theorem zM4(r:Nat):mv r<mv (r+1):=by
 unfold mv mgn plc;by_cases h1:r+1<4503599627370496
 .grind
 .by_cases h2:r<4503599627370496
  .grind
  .rw [if_neg h2,if_neg h2,if_neg h1,if_neg h1];by_cases h3:r % 4503599627370496+1<4503599627370496
   .have e1:(r+1) / 4503599627370496=r / 4503599627370496:=by omega
    have e2:(r+1) % 4503599627370496=r % 4503599627370496+1:=by omega
    simp_all[Nat.two_pow_pos]
   .have e1:(r+1) / 4503599627370496-1=(r / 4503599627370496-1)+1:=by omega
    grind
theorem zJS(h:r<q):mv r<mv q:=by
 induction q<;>grind [zM4]
theorem RR: mv r<mv q↔r<q:=by
 refine⟨λh=>?_,zJS⟩;rcases Nat.lt_or_ge r q with h'|h'
 .exact h'
 .rcases Nat.eq_or_lt_of_le h' with h2|h2
  .simp_all
  .have:=zJS h2;omega
theorem zF4: mv 0=0:=by decide
theorem oH(h:rg w<9218868437227405312):Ieee.double.read w=.number (sn w) (mgn (rg w)) (-1074+(plc (rg w):Int)):=by
 have e1:Ieee.double.signWeight=9223372036854775808:=by decide
 have e2:Ieee.double.binade=4503599627370496:=by decide
 have e3:Ieee.double.infRung=9218868437227405312:=by decide
 have e4:Ieee.double.leastPlace = -1074:=by decide
 grind [Ieee.Format.read,rg,mgn,plc,sn]
theorem zT(h:rg w=9218868437227405312):Ieee.double.read w=.infinity (sn w):=by
 have e1:Ieee.double.signWeight=9223372036854775808:=by decide
 have e2:Ieee.double.binade=4503599627370496:=by decide
 have e3:Ieee.double.infRung=9218868437227405312:=by decide
 simp only[Ieee.Format.read,e1,e2,e3];simp only[rg] at h;rw[h];rfl
theorem zKk(h:9218868437227405312<rg w):∃s f,Ieee.double.read w=.nan s f:=by
 have e1:Ieee.double.signWeight=9223372036854775808:=by decide
 have e2:Ieee.double.binade=4503599627370496:=by decide
 have e3:Ieee.double.infRung=9218868437227405312:=by decide
 simp only[Ieee.Format.read,e1,e2,e3];simp only[rg] at h;rw[if_neg (by omega),if_neg (by omega),if_neg (by omega)];simp_all
def WE(a b:Int):Ordering:=if a<b then .lt else if a=b then .eq else .gt
theorem WG(a b:Int):compare a b=WE a b:=rfl
theorem zBp{a b c d:Int}(h1:a<b↔c<d)(h2:a=b↔c=d):WE a b=WE c d:=by grind [WE]
theorem WZ(ha:rg a<9218868437227405312)(hb:rg b<9218868437227405312):VQ a b=some (WE (sg (sn a) (rg a)) (sg (sn b) (rg b))):=by
 show Ieee.double.order a b=_;simp only[Ieee.Format.order,oH ha,oH hb,Ieee.Datum.order,WG]
 congr 1
 generalize hx:(-1074+(plc (rg a):Int)-min (-1074+(plc (rg a):Int)) (-1074+(plc (rg b):Int))).toNat=x;generalize hy:(-1074+(plc (rg b):Int)-min (-1074+(plc (rg a):Int)) (-1074+(plc (rg b):Int))).toNat=y;have hx':plc (rg a)=x+min (plc (rg a)) (plc (rg b)):=by omega
 have hy':plc (rg b)=y+min (plc (rg a)) (plc (rg b)):=by omega
 generalize min (plc (rg a)) (plc (rg b))=z at hx' hy';have ea:mv (rg a)=(mgn (rg a) <<< x)*2 ^ z:=by grind [mv,Nat.shiftLeft_eq]
 have eb:mv (rg b)=(mgn (rg b) <<< y)*2 ^ z:=by grind [mv,Nat.shiftLeft_eq]
 have hz:=Nat.two_pow_pos z;have l1:(mgn (rg a) <<< x)<(mgn (rg b) <<< y)↔rg a<rg b:=by
  rw[<- RR (r:=rg a),ea,eb];simp_all
 have l2:(mgn (rg b) <<< y)<(mgn (rg a) <<< x)↔rg b<rg a:=by
  rw[<- RR (r:=rg b),ea,eb];simp_all
 have z1:mgn (rg a) <<< x=0↔rg a=0:=by
  constructor
  .intro h;rw[h,Nat.zero_mul,<- zF4] at ea;rcases Nat.lt_or_ge 0 (rg a) with h'|h'
   .have:=zJS h';omega
   .omega
  .grind [mgn]
 have z2:mgn (rg b) <<< y=0↔rg b=0:=by
  constructor
  .intro h;rw[h,Nat.zero_mul,<- zF4] at eb;rcases Nat.lt_or_ge 0 (rg b) with h'|h'
   .have:=zJS h';omega
   .omega
  .grind [mgn]
 simp only[Ieee.signed];unfold sg;refine zBp ?_ ?_
 .grind
 .grind
theorem KN(ha:rg a<=9218868437227405312)(hb:rg b<=9218868437227405312):VQ a b=some (WE (sg (sn a) (rg a)) (sg (sn b) (rg b))):=by
 rcases Nat.lt_or_ge (rg a) 9218868437227405312 with h1|h1<;>rcases Nat.lt_or_ge (rg b) 9218868437227405312 with h2|h2
 .exact WZ h1 h2
 .have h2':rg b=9218868437227405312:=by omega
  show Ieee.double.order a b=_;simp only[Ieee.Format.order,oH h1,zT h2',Ieee.Datum.order]
  congr 1
  rw[h2'];unfold WE sg;cases sn a<;>cases sn b<;>simp<;>(repeat' split)<;>first|rfl|omega
 .have h1':rg a=9218868437227405312:=by omega
  show Ieee.double.order a b=_;simp only[Ieee.Format.order,oH h2,zT h1',Ieee.Datum.order]
  congr 1
  rw[h1'];unfold WE sg;cases sn a<;>cases sn b<;>simp<;>(repeat' split)<;>first|rfl|omega
 .have h1':rg a=9218868437227405312:=by omega
  have h2':rg b=9218868437227405312:=by omega
  show Ieee.double.order a b=_;simp only[Ieee.Format.order,zT h1',zT h2',Ieee.Datum.order]
  congr 1
  rw[h1',h2'];cases sn a<;>cases sn b<;>decide
theorem zBM(ha:9218868437227405312<rg a):VQ a b=none:=by
 obtain⟨s,f,h⟩:=zKk ha;show Ieee.double.order a b=_;grind [Ieee.Format.order,Ieee.Datum.order]
end Go.Dm
end
section
namespace Go.Dm
open Go
variable {x y:Nat}
def isNaN(x:Nat):Bool:=VQ x x != some .eq
def JB: Nat:=9221120237041090561
def bJ(x:Nat):Nat:=if isNaN x then JB else x
def zF5(x:Nat):Bool:=decide (IntKind.i64.wrap x<0)
def lU(x:Nat):Int × Int:=if isNaN x then (1,0) else if VQ x 0==some .eq && zF5 x then (0,-1) else (0,0)
def LW(x:Nat):Int:=if Int.fdiv (bJ x) (2 ^ (min (63:Int).toNat 64))==1 then bits .xor .u64 (if IntKind.u64.signed then -1 else IntKind.u64.max) (bJ x) else bits .or .u64 (bJ x) 9223372036854775808
def zL2(x y:Nat):Int:=if LW x<LW y then -1 else if LW y<LW x then 1 else 0
def zDb(a b:Int):Int:=if a<b then -1 else if b<a then 1 else 0
def zOp(a b:Nat):Int:=if isNaN a then (if isNaN b then 0 else -1) else if isNaN b then 1 else if VQ a b==some .lt then -1 else if VQ a b==some .gt then 1 else 0
def mW(a b:Nat):Int:=if 0<IntKind.i64.wrap ((lU a).1+(lU b).1) then zDb (lU a).1 (lU b).1 else if zOp a b==0 then zDb (lU a).2 (lU b).2 else zOp a b
def rZ(a b:Nat):Nat:=if mW a b<0 then bJ b else bJ a
def GI(a b:Nat):Nat:=if zL2 a b<0 then bJ b else bJ a
theorem zDI(a:Int):WE a a=.eq:=by grind [WE]
theorem uJ(x:Nat):isNaN x=decide (9218868437227405312<rg x):=by grind [isNaN,zBM,KN,zDI]
theorem zFx: isNaN JB=true:=by rw[uJ];decide
theorem lN(h:x<18446744073709551616):bJ x<18446744073709551616:=by
 unfold bJ;split
 .decide
 .exact h
theorem zBg(x:Nat):bJ (bJ x)=bJ x:=by grind [bJ]
theorem zJT(h:x<18446744073709551616):zF5 x=decide (9223372036854775808<=x):=by grind [zF5,IntKind.wrap,IntKind.bits,IntKind.signed]
theorem zN6{b:Nat}(h:b<18446744073709551616):bits .xor .u64 (if IntKind.u64.signed then -1 else IntKind.u64.max) (b:Int)=18446744073709551615-(b:Int):=by
 have e:(if IntKind.u64.signed then (-1:Int) else IntKind.u64.max)=18446744073709551615:=by decide
 rw[e];have e1:BitVec.ofInt 64 18446744073709551615=BitVec.allOnes 64:=by decide
 show IntKind.u64.wrap (((BitVec.ofInt 64 18446744073709551615:BitVec 64) ^^^ (BitVec.ofInt 64 (b:Int):BitVec 64)).toNat:Int)=_;rw[e1,BitVec.allOnes_xor,BitVec.toNat_not];have e2:(BitVec.ofInt 64 (b:Int)).toNat=b:=by
  rw[BitVec.ofInt_natCast,BitVec.toNat_ofNat];omega
 rw[e2,wrap_u64 (by omega) (by omega)];omega
theorem zPl{b:Nat}(h:b<9223372036854775808):bits .or .u64 (b:Int) 9223372036854775808=(b:Int)+9223372036854775808:=by
 show IntKind.u64.wrap (((BitVec.ofInt 64 (b:Int):BitVec 64) ||| (BitVec.ofInt 64 9223372036854775808:BitVec 64)).toNat:Int)=_
 have e2:(BitVec.ofInt 64 (b:Int)).toNat=b:=by
  rw[BitVec.ofInt_natCast,BitVec.toNat_ofNat];omega
 have e3:(BitVec.ofInt 64 (9223372036854775808:Int)).toNat=9223372036854775808:=by decide
 rw [BitVec.toNat_or,e2,e3];have:b ||| 9223372036854775808=9223372036854775808+b:=by
  have:=Nat.two_pow_add_eq_or_of_lt (i:=63) (b:=b) (by omega) 1;rw[Nat.or_comm];simpa using this.symm
 rw[this,wrap_u64 (by omega) (by omega)];omega
theorem zKj{x:Nat}(h:x<18446744073709551616):LW x=if 9223372036854775808<=bJ x then 18446744073709551615-(bJ x:Int) else (bJ x:Int)+9223372036854775808:=by
 have hb:=lN h;unfold LW;generalize bJ x=b at hb ⊢;have e:Int.fdiv (b:Int) (2 ^ (min (63:Int).toNat 64))=((b / 9223372036854775808:Nat):Int):=by
  show Int.fdiv (b:Int) 9223372036854775808=_;rw[Int.fdiv_eq_ediv_of_nonneg _ (by decide)];omega
 rw[e];by_cases hc:9223372036854775808<=b
 .rw[if_pos hc,if_pos (by rw[show b / 9223372036854775808=1 by omega];rfl),zN6 hb]
 .rw[if_neg hc,if_neg (by rw[show b / 9223372036854775808=0 by omega];decide),zPl (by omega)]
def BS(x:Nat):Int:=if isNaN x then 9223372036854775808 else if sn x then -(rg x:Int)-1 else rg x
theorem zAR{x:Nat}(h:x<18446744073709551616):LW x=(if isNaN x then 18444492273895866369 else BS x+9223372036854775808):=by
 rw[zKj h];unfold BS bJ;by_cases hn:isNaN x=true
 .simp only[if_pos hn];decide
 .simp only[if_neg hn];have e:sn x=decide (9223372036854775808<=x):=by
   unfold sn;rcases Nat.lt_or_ge x 9223372036854775808 with h'|h'
   .have:x / 9223372036854775808=0:=by omega
    rw[this,decide_eq_false (by omega)];rfl
   .have:x / 9223372036854775808=1:=by omega
    rw[this,decide_eq_true h'];rfl
  rw[e];unfold rg;by_cases hc:9223372036854775808<=x
  .simp only[if_pos hc,decide_eq_true hc,if_true];omega
  .simp only[if_neg hc,decide_eq_false hc,Bool.false_eq_true,if_false];omega
theorem zFE(hn:isNaN x=false):BS x<=9218868437227405312:=by grind [BS,uJ]
theorem zIa{x y:Nat}(hx:x<18446744073709551616)(hy:y<18446744073709551616):zL2 x y=zDb (BS x) (BS y):=by
 unfold zL2 zDb;rw[zAR hx,zAR hy];by_cases h1:isNaN x=true<;>by_cases h2:isNaN y=true
 .simp only[if_pos h1,if_pos h2,BS];simp
 .have:=zFE (by simpa using h2);have e:BS x=9223372036854775808:=by unfold BS;rw[if_pos h1]
  simp only[if_pos h1,if_neg h2,e];rw[if_neg (by omega),if_pos (by omega),if_neg (by omega),if_pos (by omega)]
 .have:=zFE (x:=x) (by simpa using h1);have e:BS y=9223372036854775808:=by unfold BS;rw[if_pos h2]
  simp only[if_neg h1,if_pos h2,e];rw[if_pos (by omega),if_pos (by omega)]
 .simp only[if_neg h1,if_neg h2];have a1:(BS x+9223372036854775808<BS y+9223372036854775808)↔BS x<BS y:=by omega
  have a2:(BS y+9223372036854775808<BS x+9223372036854775808)↔BS y<BS x:=by omega
  simp only[a1,a2]
theorem zOm(p q:Int):(some (WE p q)==some Ordering.lt)=decide (p<q):=by grind [WE]
theorem zOl(p q:Int):(some (WE p q)==some Ordering.gt)=decide (q<p):=by grind [WE]
theorem GP(hx:x<18446744073709551616)(hy:y<18446744073709551616):mW x y=zDb (BS x) (BS y):=by
 have w2:IntKind.i64.wrap (1+1)=2:=by decide
 have w1:IntKind.i64.wrap (1+0)=1:=by decide
 have w0:IntKind.i64.wrap (0+0)=0:=by decide
 have s1:∀z,isNaN z=true->lU z=(1,0):=λz h=>by unfold lU;rw[if_pos h]
 have s0:∀z,z<18446744073709551616->isNaN z=false->(lU z).1=0/\(lU z).2=if rg z=0/\sn z=true then -1 else 0:=by grind [rg,uJ,KN,sg,sn,WE,zJT,lU]
 grind [mW,BS,zDb,uJ,zOp,sg,KN,zOm,zOl]
theorem zGh{x y:Nat}(hx:x<18446744073709551616)(hy:y<18446744073709551616):mW x y=zL2 x y:=by rw[GP hx hy,zIa hx hy]
theorem QW{x y:Nat}(hx:x<18446744073709551616)(hy:y<18446744073709551616):rZ x y=GI x y:=by unfold rZ GI;rw[zGh hx hy]
theorem gL(hx:x<18446744073709551616)(hy:y<18446744073709551616):(mW x y==0)=(bJ x==bJ y):=by grind [GP,zDb,BS,bJ,zFx,sn,rg]
end Go.Dm
end
section
namespace Go.Dm
open Go
structure Nd where
 k:Int
 m:Int
 t:Nat
 d:List UInt8
abbrev ndc(k m:Int)(t:Nat)(d:List UInt8):List CV:=[.p (.i .i64 k),.p (.i .i64 m),.p (.f t),.p (.sl 1 (bU d))]
abbrev Nd.cv(x:Nd):List CV:=[.p (.i .i64 x.k),.p (.i .i64 x.m),.p (.f x.t),.p (.sl 1 (bU x.d))]
attribute [go_sem] Nd.cv ndc
theorem GN(x:Nd):Nd.mk x.k x.m x.t x.d=x:=rfl
attribute [go_sem] GN
def mT(x y:Nd):Bool:=x.k==y.k && x.m==y.m && (mW x.t y.t==0) && x.d==y.d
def cH(x y:Nd):Bool:=x.k==y.k && x.m==y.m && x.d==y.d && (bJ x.t==bJ y.t)
def iW(x y:Nd):Bool:=x.k==y.k && x.d==y.d
def Nd.ok(x:Nd):Prop:=x.d.length<=140737488355328
def ZC(base alike o t:Bool):Int:=if alike || base && t then 1 else if base && o then 2 else 0
def YX(x y:Nd)(p q:Bool):Bool:=p==q && (!p || mT x y)
def nd0:Nd:=⟨0,0,0,[]⟩
def sA(base o t:Nd)(b:Bool):Nd × Bool :=
 let w:=ZC b (iW o t) (iW base o) (iW base t)
 let m:=ZC b (o.m==t.m) (base.m==o.m) (base.m==t.m)
 let c:=ZC b (mW o.t t.t==0) (mW base.t o.t==0) (mW base.t t.t==0)
 (⟨if w==2 then t.k else o.k,if m==2 then t.m else o.m,if c==2 then t.t else if c==0 then rZ o.t t.t else o.t,if w==2 then t.d else o.d⟩,w != 0 && m != 0)
def jS(base o t:Nd)(b isO isT:Bool):Nd × Bool × Int :=
 if YX o t isO isT || YX base t b isT then (if isO then o else nd0,isO,0)
 else if YX base o b isO then (if isT then t else nd0,isT,0)
 else if !isO then (nd0,false,3)
 else if !isT then (nd0,false,2)
 else if (sA base o t b).2 then ((sA base o t b).1,true,0)
 else if !b then (nd0,false,5)
 else if o.k != t.k then (nd0,false,4)
 else (nd0,false,1)
def nD(x y:Nd)(p q:Bool):Bool:=p==q && (!p || cH x y)
def yO(b alike o t:Bool):Option Bool:=if alike then some true else if b && o then some false else if b && t then some true else none
def wH(base o t:Nd)(b isO isT:Bool):Nd × Bool × Int :=
 if nD o t isO isT then (o,isO,0)
 else if nD base o b isO then (t,isT,0)
 else if nD base t b isT then (o,isO,0)
 else if !isO then (nd0,false,3)
 else if !isT then (nd0,false,2)
 else
  let bad:Int:=if !b then 5 else if o.k != t.k then 4 else 1
  match yO b (iW o t) (iW base o) (iW base t),yO b (o.m==t.m) (base.m==o.m) (base.m==t.m) with
  | some w,some m=>(⟨if w then o.k else t.k,if m then o.m else t.m,
    match yO b (bJ o.t==bJ t.t) (bJ base.t==bJ o.t) (bJ base.t==bJ t.t) with
    | some true=>o.t
    | some false=>t.t
    | none=>GI o.t t.t,if w then o.d else t.d⟩,true,0)
  | _,_=>(nd0,false,bad)
end Go.Dm
end
section
namespace Go.Dm
open Go
def zPd:List (List UInt8):=[[97],[98],[99],[100,46,101],[102,45,49],[255]]
def YA(n:Int):List UInt8:=zPd.getD (n % 6).toNat []
def SE:Nat->Int->List UInt8->List UInt8
 | 0,_,p=>p
 | k+1,n,p=>SE k (n / 7) (p++47::YA (n / 7))
def tE(n:Int):List UInt8:=SE (n % 1073741824 / 6 % 3).toNat (n % 1073741824) (YA (n % 1073741824))
def zPD:List Nat:=[0,9223372036854775808,4607182418800017408,13830554455654793216,9218868437227405312,18442240474082181120,9221120237041090561,4612811918334230528,1,9223372036854775809,9218868437227405311,18444492273895866373]
def ZH(n:Int)(x:Nat):Nat:=if n % 15<12 then zPD.getD (n % 15).toNat 0 else x
structure RN where
 k:Int
 m:Int
 t:Int
 x:Nat
 d:List UInt8
abbrev rnc(k m t:Int)(x:Nat)(d:List UInt8):List CV:=[.p (.i .i64 k),.p (.i .i64 m),.p (.i .i64 t),.p (.f x),.p (.sl 1 (bU d))]
attribute [go_sem] rnc
def zJF(m:Int):List UInt8 :=
 let a:=if m.tmod 4==0 then [46,46,47]++tE m else tE m
 if m.tmod 5==0 then [47]++a else a
def zJW(x:RN):List UInt8:=if 1+x.k % 3==1 then x.d.take 60 else if 1+x.k % 3==3 then zJF x.m else []
def EX(x:RN):Nd:=⟨1+x.k % 3,x.m % 4096,bJ (ZH x.t x.x),zJW x⟩
theorem zKM{n m:Int}(hm:0<m)(h:¬ n.tmod m<0):n.tmod m=n % m:=by
 rw[Int.tmod_eq_emod] at h ⊢;split
 .simp
 .rename_i hc;rw[if_neg hc] at h;have:=Int.emod_lt_of_pos n hm;omega
theorem tmod_neg{n m:Int}(hm:0<m)(h:n.tmod m<0):n.tmod m+m=n % m:=by
 rw[Int.tmod_eq_emod] at h ⊢;split
 .rename_i hc;rw[if_pos hc] at h;have:=Int.emod_nonneg n (show m≠0 by omega)
  omega
 .omega
theorem pV(n:Int):(YA n).length<=3:=by
 unfold YA;have h1:=Int.emod_nonneg n (show (6:Int)≠0 by decide)
 have h2:=Int.emod_lt_of_pos n (show (0:Int)<6 by decide)
 generalize n % 6=k at h1 h2;have:k=0∨k=1∨k=2∨k=3∨k=4∨k=5:=by omega
 rcases this with rfl|rfl|rfl|rfl|rfl|rfl<;>decide
theorem SF:∀(k:Nat) (n:Int) (p:List UInt8),(SE k n p).length<=p.length+4*k
 | 0,_,_=>by simp[SE]
 | k+1,n,p=>by
  have h1:=SF k (n / 7) (p++47::YA (n / 7));grind [pV,SE]
theorem mY(n:Int):(tE n).length<=11:=by grind [SF,pV,tE]
theorem zFP(m:Int):(zJF m).length<=15:=by grind [mY,zJF]
theorem RT(x:RN):(zJW x).length<=60:=by
 unfold zJW;have:=zFP x.m;split
 .simp;omega
 .split
  .omega
  .simp
end Go.Dm
end
section
namespace Go.Dm
open Go
def Nd.wf(x:Nd):Prop:=x.t<18446744073709551616
theorem mU{x y:Nd}(hx:x.wf)(hy:y.wf):mT x y=cH x y:=by
 unfold mT cH;rw[gL hx hy];grind
theorem eQ(x:Nd):cH x x=true:=by simp[cH]
theorem YY{x y:Nd}(h:cH x y=true):cH y x=true:=by
 simp only[cH,Bool.and_eq_true,beq_iff_eq] at h ⊢;obtain⟨⟨⟨h1,h2⟩,h3⟩,h4⟩:=h;exact⟨⟨⟨h1.symm,h2.symm⟩,h3.symm⟩,h4.symm⟩
theorem TN{x y z:Nd}(h:cH x y=true)(k:cH y z=true):cH x z=true:=by
 simp only[cH,Bool.and_eq_true,beq_iff_eq] at h k ⊢;obtain⟨⟨⟨h1,h2⟩,h3⟩,h4⟩:=h;obtain⟨⟨⟨k1,k2⟩,k3⟩,k4⟩:=k;exact⟨⟨⟨h1.trans k1,h2.trans k2⟩,h3.trans k3⟩,h4.trans k4⟩
theorem rO{x y:Nd}(hx:x.wf)(hy:y.wf)(p q:Bool):YX x y p q=nD x y p q:=by
 unfold YX nD;rw[mU hx hy]
theorem HP{x y z:Nd}{p q r:Bool}(h:nD x y p q=true)(k:nD x z p r=true):nD y z q r=true:=by
 simp only[nD,Bool.and_eq_true,Bool.or_eq_true,beq_iff_eq,Bool.not_eq_true'] at h k ⊢;obtain⟨rfl,h2⟩:=h;obtain⟨rfl,k2⟩:=k;refine⟨rfl,?_⟩;rcases h2 with h2|h2
 .exact .inl h2
 .rcases k2 with k2|k2
  .exact .inl k2
  .exact .inr (TN (YY h2) k2)
theorem JF{x y z:Nd}(h:iW x y=true)(k:iW x z=true):iW y z=true:=by
 simp only[iW,Bool.and_eq_true,beq_iff_eq] at h k ⊢;exact⟨h.1.symm.trans k.1,h.2.symm.trans k.2⟩
theorem nE{b alike o t:Bool}(h:o=true->t=true->alike=true):ZC b alike o t=match yO b alike o t with
  | some true=>1
  | some false=>2
  | none=>0:=by
 cases b<;>cases alike<;>cases o<;>cases t<;>simp_all[ZC,yO]
theorem zAJ{base o t:Nd}(hb:base.wf)(ho:o.wf)(ht:t.wf)(b p q:Bool):
  (jS base o t b p q).2.2=(wH base o t b p q).2.2/\(jS base o t b p q).2.1=(wH base o t b p q).2.1/\((jS base o t b p q).2.1=false->(jS base o t b p q).1.k=0) /\
   ((jS base o t b p q).2.1=true->cH (jS base o t b p q).1 (wH base o t b p q).1=true):=by
 unfold jS wH;rw[rO ho ht,rO hb ht,rO hb ho];by_cases h1:nD o t p q=true
 .simp only[h1,Bool.true_or,if_true];cases p<;>simp[nd0,eQ]
 .by_cases h2:nD base t b q=true
  .have h3:nD base o b p=false:=by
    cases h3:nD base o b p with
    | false=>rfl
    | true=>exact absurd (HP h3 h2) h1
   simp only[h1,h2,h3,Bool.or_true,if_true,Bool.false_eq_true,if_false];cases p<;>simp[nd0,eQ]
  .by_cases h3:nD base o b p=true
   .simp only[h1,h2,h3,Bool.or_self,Bool.false_eq_true,if_false,if_true];cases q<;>simp[nd0,eQ]
   .simp only[h1,h2,h3,Bool.or_self,Bool.false_eq_true,if_false];cases p with
    | false=>simp[nd0]
    | true =>
     cases q with
     | false=>simp[nd0]
     | true =>
      simp only[Bool.not_true,Bool.false_eq_true,if_false,sA];have e1:=nE (b:=b) (o:=iW base o) (t:=iW base t) (alike:=iW o t) (λx y=>JF x y);have e2:=nE (b:=b) (o:=base.m==o.m) (t:=base.m==t.m) (alike:=o.m==t.m) (λx y=>by simp only[beq_iff_eq] at x y ⊢;exact x.symm.trans y)
      have e3:=nE (b:=b) (o:=bJ base.t==bJ o.t) (t:=bJ base.t==bJ t.t) (alike:=bJ o.t==bJ t.t) (λx y=>by simp only[beq_iff_eq] at x y ⊢;exact x.symm.trans y)
      simp only[gL ho ht,gL hb ho,gL hb ht,QW ho ht,e1,e2,e3];clear e1 e2 e3;cases yO b (iW o t) (iW base o) (iW base t) with
      | none=>cases b<;>by_cases hk:o.k=t.k<;>simp[nd0,hk]
      | some w =>
       cases yO b (o.m==t.m) (base.m==o.m) (base.m==t.m) with
       | none=>cases w<;>cases b<;>by_cases hk:o.k=t.k<;>simp[nd0,hk]
       | some m =>
        cases yO b (bJ o.t==bJ t.t) (bJ base.t==bJ o.t) (bJ base.t==bJ t.t) with
        | none=>cases w<;>cases m<;>simp[eQ]
        | some c=>cases w<;>cases m<;>cases c<;>simp[eQ]
theorem zA5{n:Int}{x:Nat}(hx:x<18446744073709551616):ZH n x<18446744073709551616:=by
 unfold ZH;split
 .rename_i h;have h1:=Int.emod_nonneg n (show (15:Int)≠0 by decide)
  generalize n % 15=k at h h1;have:k=0∨k=1∨k=2∨k=3∨k=4∨k=5∨k=6∨k=7∨k=8∨k=9∨k=10∨k=11:=by omega
  rcases this with rfl|rfl|rfl|rfl|rfl|rfl|rfl|rfl|rfl|rfl|rfl|rfl<;>decide
 .exact hx
theorem zQ{x:RN}(hx:x.x<18446744073709551616):(EX x).wf:=lN (zA5 hx)
end Go.Dm
end
section
namespace Go.Dm
open Go
variable {k:Nat}{R:DV->aD->Prop}{s:DS}
structure It where
 p:List UInt8
 n:Nd
def It.cs(x:It):List PV:=[.s x.p,.i .i64 x.n.k,.i .i64 x.n.m,.f x.n.t,.sl 1 (bU x.n.d)]
def aS(t:List It):List (List PV):=t.map It.cs
theorem cN(t:List It):(aS t).length=t.length:=by simp[aS]
theorem gI: aS []=[]:=rfl
theorem zI4(a b:List It):aS a++aS b=aS (a++b):=by simp[aS]
theorem BE(a:List It)(n:Nat):(aS a).take n=aS (a.take n):=by simp[aS]
theorem zEV(a:List It)(n:Nat):(aS a).drop n=aS (a.drop n):=by simp[aS]
theorem zI5(t:List It):(∀x∈aS t,x.length=5)=True:=eq_true λx hx=>by
 simp only[aS,List.mem_map] at hx;obtain⟨y,_,rfl⟩:=hx;rfl
theorem bZ{t:List It}{x:It}(h:t[k]?=some x):(aS t).getD k []=[.s x.p,.i .i64 x.n.k,.i .i64 x.n.m,.f x.n.t,.sl 1 (bU x.n.d)]:=by
 simp only[aS,List.getD_eq_getElem?_getD,List.getElem?_map,h];rfl
theorem zEW(t:List It)(p:List UInt8)(k m:Int)(tt:Nat)(d:List UInt8):aS t++[[.s p,.i .i64 k,.i .i64 m,.f tt,.sl 1 (bU d)]]=aS (t++[⟨p,⟨k,m,tt,d⟩⟩]):=by simp[aS,It.cs]
theorem zOZ(x:It):It.mk x.p x.n=x:=rfl
attribute [go_sem] cN gI zI4 BE zEV zI5 zEW zOZ Nat.sub_zero
theorem drop_at{α:Type}{l:List α}{x:α}(h:l[k]?=some x):l.drop k=x::l.drop (k+1):=by grind [List.drop_eq_getElem_cons]
def aO(p q:List UInt8):Bool:=if p == [] then !(q == []) else (decide ((q.length:Int) > p.length+1) && q.take (p.length+1)==p++[47]) || (decide ((q.length:Int)=p.length+1) && q==p++[47])
def bG(t:List It)(p:List UInt8):List It:=t.filter λx=>!aO p x.p
def dG(p:List UInt8):Nat->Option Nat
 | 0=>none
 | j+1=>if ((p.getD j 0).toNat:Int)==47 then some j else dG p j
def aU(p:List UInt8):List UInt8:=match dG p p.length with
 | some j=>p.take j
 | none=>[]
def pY(b:UInt8):Bool:=!(((b.toNat:Int)==0) || ((b.toNat:Int)==47))
def aZ(s:List UInt8):Bool:=s.all pY && (decide ((1:Int)<=s.length) && decide ((s.length:Int)<=24) && !(s == [46]) && !(s == [46,46]))
def yW: List UInt8->List UInt8->List (List UInt8)
 | w,[]=>[w]
 | w,b::r=>if ((b.toNat:Int)==47) then w::yW [] r else yW (w++[b]) r
def qW(s:List UInt8):List (List UInt8):=yW [] s
def bW(p:List UInt8):Bool:=p == [] || ((qW p).all aZ && decide ((p.length:Int)<=120))
def encS(l:List (List UInt8)):List (List PV):=l.map λs=>[.s s]
theorem encS_len(t:List (List UInt8)):(encS t).length=t.length:=by simp[encS]
theorem nT: encS []=[]:=rfl
theorem zI2(a b:List (List UInt8)):encS a++encS b=encS (a++b):=by simp[encS]
theorem zEU(a:List (List UInt8))(n:Nat):(encS a).take n=encS (a.take n):=by simp[encS]
theorem zES(a:List (List UInt8))(n:Nat):(encS a).drop n=encS (a.drop n):=by simp[encS]
theorem zI3(t:List (List UInt8)):(∀x∈encS t,x.length=1)=True:=by grind [encS]
theorem encS_at{t:List (List UInt8)}{x:List UInt8}(h:t[k]?=some x):(encS t).getD k []=[.s x]:=by grind [encS]
theorem zET(t:List (List UInt8))(p:List UInt8):encS t++[[.s p]]=encS (t++[p]):=by simp[encS]
theorem XB{l:List UInt8}{k:Nat}{x:UInt8}(h:l[k]?=some x):l.getD k 0=x:=by simp[List.getD_eq_getElem?_getD,h]
theorem zPj{l:List UInt8}{k:Nat}{x:UInt8}(h:l[k]?=some x):(l.take (k+1)).drop k=[x]:=by
 have:=List.getElem?_eq_some_iff.1 h;obtain⟨h1,rfl⟩:=this;rw[List.take_succ_eq_append_getElem h1,List.drop_append_of_le_length (by simp;omega)];simp
attribute [go_sem] encS_len nT zI2 zEU zES zI3 zET
theorem qV: ∀(s w:List UInt8),(yW w s).length<=s.length+1
 | [],w=>by simp[yW]
 | b::r,w=>by
  simp only[yW];split
  .have:=qV r [];simp;omega
  .have:=qV r (w++[b]);simp;omega
theorem yY: ∀(s w:List UInt8) (x:List UInt8),x∈yW w s->x.length<=w.length+s.length
 | [],w,x,h=>by grind [yW]
 | b::r,w,x,h=>by
  simp only[yW] at h;split at h
  .rcases List.mem_cons.1 h with rfl|h
   .simp
   .have:=yY r [] x h;simp at this ⊢;omega
  .have:=yY r (w++[b]) x h;simp at this ⊢;omega
def aM: List It->List UInt8->Option Nd
 | [],_=>none
 | x::r,p=>if x.p==p then some x.n else aM r p
def bC(t:List It)(p:List UInt8):Bool:=p == [] || (match aM t p with
 | some n=>n.k==2
 | none=>false)
def xW(p:List UInt8)(n:Nd):Bool->List It->List It
 | done,[]=>if done then [] else [⟨p,n⟩]
 | done,x::r=>(if !done && !cD x.p p then [⟨p,n⟩] else [])++((if !(x.p==p) then [x] else [])++xW p n (done || !cD x.p p) r)
def tP(t:List It)(p:List UInt8)(n:Nd):List It:=xW p n false t
def mM(t:List It)(p:List UInt8):List It:=t.filter λx=>!(x.p==p)
def bR(t:List It)(p:List UInt8):List It:=mM (bG t p) p
theorem zMo{t:List UInt8}{k:Nat}{x:UInt8}(h:t[k]?=some x):(bU t).getD k []=[.i .u8 x.toNat]:=by
 simp only[bU,List.getD_eq_getElem?_getD,List.getElem?_map,h];rfl
def lA(b:List UInt8):Bool:=b.all (λb=>!((b.toNat:Int)==0)) && (decide ((1:Int)<=b.length) && decide ((b.length:Int)<=120))
theorem iX(n:Nat)(h:n<9223372036854775808):IntKind.i64.wrap (no_index (OfNat.ofNat n))=OfNat.ofNat n:=wrap_i64 (by show _<=(n:Int);omega) (by show (n:Int)<=_;omega)
theorem VM(n:Nat)(h:n<9223372036854775808):IntKind.u64.wrap (no_index (OfNat.ofNat n))=OfNat.ofNat n:=wrap_u64 (by show _<=(n:Int);omega) (by show (n:Int)<=_;omega)
theorem ZP:IntKind.i64.wrap (-1) = -1:=wrap_i64 (by decide) (by decide)
theorem JI(z:Int):(0<=IntKind.u8.wrap z)=True:=by grind [IntKind.wrap,IntKind.bits,IntKind.signed]
theorem JH(z:Int):(IntKind.u8.wrap z<=255)=True:=by grind [IntKind.wrap,IntKind.bits]
attribute [go_sem] JI JH
def EM(x:Nat)(k:Nat):UInt8:=UInt8.ofNat (IntKind.u8.wrap ((x:Int).fdiv (2 ^ k))).toNat
def NQ(x:Nat):List UInt8:=[EM x 56,EM x 48,EM x 40,EM x 32,EM x 24,EM x 16,EM x 8,EM x 0]
def CM(x:Nat):Bool:=NQ x==NQ (bJ x)
def aR(n:Nd):Bool:=!(decide (n.m<0) || decide (4095<n.m) || !CM n.t) && (if n.k==1 then decide ((n.d.length:Int)<=2000) else if n.k==2 then (n.d.length:Int)==0 else if n.k==3 then lA n.d else false)
def mE(t:List It)(p:List UInt8)(n:Nd):List It × Int :=
 if p == [] || !bW p || !aR n then ([],1) else if !bC t (aU p) then ([],9)
 else if decide ((120:Int)<(tP (if n.k != 2 then bG t p else t) p n).length) then ([],16) else (tP (if n.k != 2 then bG t p else t) p n,0)
theorem zAY(p:List UInt8)(n:Nd):∀(t:List It) (d:Bool),(xW p n d t).length<=t.length+(if d then 0 else 1)
 | [],d=>by grind [xW]
 | x::r,d=>by
  have h:=zAY p n r (d || !cD x.p p);grind [xW]
theorem oL(t:List It)(p:List UInt8)(n:Nd):(tP t p n).length<=t.length+1:=zAY p n t false
theorem oG(t:List It)(p:List UInt8):(bG t p).length<=t.length:=List.length_filter_le ..
theorem YP(t:List It)(p:List UInt8):(bR t p).length<=t.length:=Nat.le_trans (List.length_filter_le ..) (oG t p)
def eN(a b:List UInt8):List It->List It->List It × Int
 | out,[]=>(out,0)
 | out,x::r=>if !(x.p==a) && !aO a x.p then eN a b out r else if decide ((120:Int)<(b.length+(x.p.drop a.length).length:Nat)) then ([],12) else eN a b (tP out (b++x.p.drop a.length) x.n) r
def jQ(t:List It)(a b:List UInt8):List It × Int :=
 if a == [] || b == [] || !bW a || !bW b then ([],1) else if !(aM t a).isSome then ([],6) else if aO a b then ([],18) else if (aM t b).isSome then ([],7) else if !bC t (aU b) then ([],9) else eN a b (bR t a) t
theorem dR{a q:List UInt8}(h:aO a q=true):a.length<=q.length:=by grind [aO]
def zA8(R:DV->aD->Prop):Exit->DS->Prop
 | .normal,s=>R (.tup []) s.h
 | .ret,s=>R (.tup []) s.h
 | _,_=>False
theorem zKX: zA8 R .normal s=R (.tup []) s.h:=nr rfl
theorem zKY: zA8 R .ret s=R (.tup []) s.h:=nr rfl
theorem zRi {P:Program} {T:Tab} (hT:bM P T) (hm:P.follows .mixedOrders=true) {f:FuncId} {fn:Func} {c:Code} {args:List DV} {h:aD} {R:DV->aD->Prop} (hf:P.funcs[f]?=some fn) (hb:fn.body=some c)
  (hc:(Nat.ble args.length fn.ntmps && (!(fn.name == "runtime.NumGoroutine") && fn.results.toList.isEmpty))=true)
  (hs:∀X0:Ctx,X0.h=h->vc P T X0 c ⟨fn.ntmps,jA 0 args,h⟩ (zA8 R)):aA P f args h R:=by
 simp only[Bool.and_eq_true,Bool.not_eq_true',List.isEmpty_iff] at hc;refine eM hT hf hb (Nat.le_of_ble_eq_true hc.1) hc.2.1 λX0 hX=>?_;rw[fK,hc.2.2];refine fW (dP hT hm c (hs X0 hX)) λe s h=>?_;cases e<;>simp only[zA8,dpost] at h ⊢
 case normal=>exact .inl h
 case ret=>exact .inl h
attribute [go_sem] zKX zKY
end Go.Dm
end
end
