/- Part 6 of roomPlays_card. No condition. -/
import Derived.Test.YtfcindonokhbeaaGreatDoorP03
set_option linter.all false
set_option maxRecDepth 100000
set_option maxHeartbeats 0
section
section
namespace Go.Dm
open Go
section
variable {r q w a b:Nat}
def rg(w:Nat):Nat:=w % 9223372036854775808
def sn(w:Nat):Bool:=w / 9223372036854775808 % 2==1
def mgn(r:Nat):Nat:=if r<4503599627370496 then r else 4503599627370496+r % 4503599627370496
def plc(r:Nat):Nat:=if r<4503599627370496 then 0 else r / 4503599627370496-1
def mv(r:Nat):Nat:=mgn r*2 ^ plc r
def sg(s:Bool)(v:Nat):Int:=if s then -(v:Int) else v
theorem zPZ(r:Nat):mv r<mv (r+1):=by
 unfold mv mgn plc;by_cases c:r+1<4503599627370496
 .grind
 .by_cases d:r<4503599627370496
  .grind
  .rw [au d,au d,au c,au c];by_cases f:r % 4503599627370496+1<4503599627370496
   .have e:(r+1) / 4503599627370496=r / 4503599627370496:=qd
    have g:(r+1) % 4503599627370496=r % 4503599627370496+1:=qd
    simp_all[Nat.two_pow_pos]
   .have e:(r+1) / 4503599627370496-1=(r / 4503599627370496-1)+1:=qd
    grind
theorem zMw(h:r<q):mv r<mv q:=by
 induction q<;>grind [zPZ]
theorem XD: mv r<mv q↔r<q:=by
 refine⟨λh=>?_,zMw⟩;rcases cc r q with c|c
 .exact c
 .rcases Nat.eq_or_lt_of_le c with d|d
  .simp_all
  .have:=zMw d;omega
theorem zIi: mv 0=0:=qh
theorem qR(h:rg w<9218868437227405312):Ieee.double.read w=.number (sn w) (mgn (rg w)) (-1074+(plc (rg w):Int)):=by
 have c:Ieee.double.signWeight=9223372036854775808:=qh
 have d:Ieee.double.binade=4503599627370496:=qh
 have e:Ieee.double.infRung=9218868437227405312:=qh
 have f:Ieee.double.leastPlace = -1074:=qh
 grind [Ieee.Format.read,rg,mgn,plc,sn]
theorem CU(h:rg w=9218868437227405312):Ieee.double.read w=.infinity (sn w):=by
 have c:Ieee.double.signWeight=9223372036854775808:=qh
 have d:Ieee.double.binade=4503599627370496:=qh
 have e:Ieee.double.infRung=9218868437227405312:=qh
 simp only[Ieee.Format.read,c,d,e];simp only[rg] at h;rw[h];rfl
theorem zM4(h:9218868437227405312<rg w):∃s f,Ieee.double.read w=.nan s f:=by
 have c:Ieee.double.signWeight=9223372036854775808:=qh
 have d:Ieee.double.binade=4503599627370496:=qh
 have e:Ieee.double.infRung=9218868437227405312:=qh
 simp only[Ieee.Format.read,c,d,e];simp only[rg] at h;rw[au qd,au qd,au qd];simp_all
def zAl(a b:Int):Ordering:=if a<b then .lt else if a=b then .eq else .gt
theorem zAm(a b:Int):compare a b=zAl a b:=rfl
theorem zDg{a b c d:Int}(h1:a<b↔c<d)(e:a=b↔c=d):zAl a b=zAl c d:=by grind [zAl]
theorem zAK(i:rg a<9218868437227405312)(j:rg b<9218868437227405312):ZZ a b=some (zAl (sg (sn a) (rg a)) (sg (sn b) (rg b))):=by
 show Ieee.double.order a b=_;simp only[Ieee.Format.order,qR i,qR j,Ieee.Datum.order,zAm]
 congr 1
 generalize l:(-1074+(plc (rg a):Int)-min (-1074+(plc (rg a):Int)) (-1074+(plc (rg b):Int))).toNat=x;generalize m:(-1074+(plc (rg b):Int)-min (-1074+(plc (rg a):Int)) (-1074+(plc (rg b):Int))).toNat=y;have d:plc (rg a)=x+min (plc (rg a)) (plc (rg b)):=qd
 have e:plc (rg b)=y+min (plc (rg a)) (plc (rg b)):=qd
 generalize min (plc (rg a)) (plc (rg b))=z at d e;have f:mv (rg a)=(mgn (rg a) <<< x)*2 ^ z:=by grind [mv,Nat.shiftLeft_eq]
 have g:mv (rg b)=(mgn (rg b) <<< y)*2 ^ z:=by grind [mv,Nat.shiftLeft_eq]
 have n:=Nat.two_pow_pos z;have o:(mgn (rg a) <<< x)<(mgn (rg b) <<< y)↔rg a<rg b:=by
  rw[<- XD (r:=rg a),f,g];simp_all
 have p:(mgn (rg b) <<< y)<(mgn (rg a) <<< x)↔rg b<rg a:=by
  rw[<- XD (r:=rg b),f,g];simp_all
 have t:mgn (rg a) <<< x=0↔rg a=0:=by
  constructor
  .intro h;rw[h,me,<- zIi] at f;rcases cc 0 (rg a) with c|c
   .have:=zMw c;omega
   .omega
  .grind [mgn]
 have u:mgn (rg b) <<< y=0↔rg b=0:=by
  constructor
  .intro h;rw[h,me,<- zIi] at g;rcases cc 0 (rg b) with c|c
   .have:=zMw c;omega
   .omega
  .grind [mgn]
 simp only[Ieee.signed];unfold sg;refine zDg ?_ ?_
 .grind
 .grind
theorem PJ(g:rg a<=9218868437227405312)(h:rg b<=9218868437227405312):ZZ a b=some (zAl (sg (sn a) (rg a)) (sg (sn b) (rg b))):=by
 rcases cc (rg a) 9218868437227405312 with e|e<;>rcases cc (rg b) 9218868437227405312 with f|f
 .exact zAK e f
 .have c:rg b=9218868437227405312:=qd
  show Ieee.double.order a b=_;simp only[Ieee.Format.order,qR e,CU c,Ieee.Datum.order]
  congr 1
  rw[c];unfold zAl sg;cases sn a<;>cases sn b<;>simp<;>(repeat' split)<;>first|rfl|omega
 .have d:rg a=9218868437227405312:=qd
  show Ieee.double.order a b=_;simp only[Ieee.Format.order,qR f,CU d,Ieee.Datum.order]
  congr 1
  rw[d];unfold zAl sg;cases sn a<;>cases sn b<;>simp<;>(repeat' split)<;>first|rfl|omega
 .have d:rg a=9218868437227405312:=qd
  have c:rg b=9218868437227405312:=qd
  show Ieee.double.order a b=_;simp only[Ieee.Format.order,CU d,CU c,Ieee.Datum.order]
  congr 1
  rw[d,c];cases sn a<;>cases sn b<;>decide
theorem zDH(c:9218868437227405312<rg a):ZZ a b=none:=by
 obtain⟨s,f,h⟩:=zM4 c;show Ieee.double.order a b=_;grind [Ieee.Format.order,Ieee.Datum.order]
end
section
variable {x y:Nat}
def oJ(x:Nat):Bool:=ZZ x x != some .eq
def MT: Nat:=9221120237041090561
def bL(x:Nat):Nat:=if oJ x then MT else x
def zIk(x:Nat):Bool:=decide (IntKind.i64.wrap x<0)
def oC(x:Nat):Int × Int:=if oJ x then (1,0) else if ZZ x 0==some .eq && zIk x then (0,-1) else (0,0)
def QV(x:Nat):Int:=if Int.fdiv (bL x) (2 ^ (min (63:Int).toNat 64))==1 then bits .xor .u64 (if IntKind.u64.signed then -1 else IntKind.u64.max) (bL x) else bits .or .u64 (bL x) 9223372036854775808
def zOR(x y:Nat):Int:=if QV x<QV y then -1 else if QV y<QV x then 1 else 0
def zE2(a b:Int):Int:=if a<b then -1 else if b<a then 1 else 0
def zRs(a b:Nat):Int:=if oJ a then (if oJ b then 0 else -1) else if oJ b then 1 else if ZZ a b==some .lt then -1 else if ZZ a b==some .gt then 1 else 0
def pC(a b:Nat):Int:=if 0<IntKind.i64.wrap ((oC a).1+(oC b).1) then zE2 (oC a).1 (oC b).1 else if zRs a b==0 then zE2 (oC a).2 (oC b).2 else zRs a b
def uW(a b:Nat):Nat:=if pC a b<0 then bL b else bL a
def KS(a b:Nat):Nat:=if zOR a b<0 then bL b else bL a
theorem zFF(a:Int):zAl a a=.eq:=by grind [zAl]
theorem xH(x:Nat):oJ x=decide (9218868437227405312<rg x):=by grind [oJ,zDH,PJ,zFF]
theorem zHK: oJ MT=true:=by rw[xH];decide
theorem tI(h:x<18446744073709551616):bL x<18446744073709551616:=by
 unfold bL;split
 .decide
 .exact h
theorem zDa(x:Nat):bL (bL x)=bL x:=by grind [bL]
theorem zMx(h:x<18446744073709551616):zIk x=decide (9223372036854775808<=x):=by grind [zIk,IntKind.wrap,IntKind.bits,IntKind.signed]
theorem zRa{b:Nat}(h:b<18446744073709551616):bits .xor .u64 (if IntKind.u64.signed then -1 else IntKind.u64.max) (b:Int)=18446744073709551615-(b:Int):=by
 have e:(if IntKind.u64.signed then (-1:Int) else IntKind.u64.max)=18446744073709551615:=qh
 rw[e];have c:BitVec.ofInt 64 18446744073709551615=BitVec.allOnes 64:=qh
 show IntKind.u64.wrap (((BitVec.ofInt 64 18446744073709551615:BitVec 64) ^^^ (BitVec.ofInt 64 (b:Int):BitVec 64)).toNat:Int)=_;rw[c,BitVec.allOnes_xor,BitVec.toNat_not];have d:(BitVec.ofInt 64 (b:Int)).toNat=b:=by
  rw[BitVec.ofInt_natCast,BitVec.toNat_ofNat];omega
 rw[d,oF qd qd];omega
theorem zSv{b:Nat}(h:b<9223372036854775808):bits .or .u64 (b:Int) 9223372036854775808=(b:Int)+9223372036854775808:=by
 show IntKind.u64.wrap (((BitVec.ofInt 64 (b:Int):BitVec 64) ||| (BitVec.ofInt 64 9223372036854775808:BitVec 64)).toNat:Int)=_
 have c:(BitVec.ofInt 64 (b:Int)).toNat=b:=by
  rw[BitVec.ofInt_natCast,BitVec.toNat_ofNat];omega
 have d:(BitVec.ofInt 64 (9223372036854775808:Int)).toNat=9223372036854775808:=qh
 rw [BitVec.toNat_or,c,d];have:b ||| 9223372036854775808=9223372036854775808+b:=by
  have:=Nat.two_pow_add_eq_or_of_lt (i:=63) (b:=b) qd 1;rw[Nat.or_comm];simpa using this.symm
 rw[this,oF qd qd];omega
theorem zM3{x:Nat}(h:x<18446744073709551616):QV x=if 9223372036854775808<=bL x then 18446744073709551615-(bL x:Int) else (bL x:Int)+9223372036854775808:=by
 have c:=tI h;unfold QV;generalize bL x=b at c ⊢;have e:Int.fdiv (b:Int) (2 ^ (min (63:Int).toNat 64))=((b / 9223372036854775808:Nat):Int):=by
  show Int.fdiv (b:Int) 9223372036854775808=_;rw[oe _ qh];omega
 rw[e];by_cases d:9223372036854775808<=b
 .rw[aw d,aw (by rw[show b / 9223372036854775808=1 by omega];rfl),zRa c]
 .rw[au d,au (by rw[show b / 9223372036854775808=0 by omega];decide),zSv qd]
def FA(x:Nat):Int:=if oJ x then 9223372036854775808 else if sn x then -(rg x:Int)-1 else rg x
theorem zCH{x:Nat}(h:x<18446744073709551616):QV x=(if oJ x then 18444492273895866369 else FA x+9223372036854775808):=by
 rw[zM3 h];unfold FA bL;by_cases d:oJ x=true
 .simp only[aw d];decide
 .simp only[au d];have e:sn x=decide (9223372036854775808<=x):=by
   unfold sn;rcases cc x 9223372036854775808 with f|f
   .have:x / 9223372036854775808=0:=qd
    rw[this,er qd];rfl
   .have:x / 9223372036854775808=1:=qd
    rw[this,df f];rfl
  rw[e];unfold rg;by_cases c:9223372036854775808<=x
  .simp only[aw c,df c,az];omega
  .simp only[au c,er c,av,ax];omega
theorem zHR(c:oJ x=false):FA x<=9218868437227405312:=by grind [FA,xH]
theorem zKG{x y:Nat}(f:x<18446744073709551616)(g:y<18446744073709551616):zOR x y=zE2 (FA x) (FA y):=by
 unfold zOR zE2;rw[zCH f,zCH g];by_cases c:oJ x=true<;>by_cases d:oJ y=true
 .simp only[aw c,aw d,FA];simp
 .have:=zHR (by simpa using d);have e:FA x=9223372036854775808:=by unfold FA;rw[aw c]
  simp only[aw c,au d,e];rw[au qd,aw qd,au qd,aw qd]
 .have:=zHR (x:=x) (by simpa using c);have e:FA y=9223372036854775808:=by unfold FA;rw[aw d]
  simp only[au c,aw d,e];rw[aw qd,aw qd]
 .simp only[au c,au d];have h:(FA x+9223372036854775808<FA y+9223372036854775808)↔FA x<FA y:=qd
  have i:(FA y+9223372036854775808<FA x+9223372036854775808)↔FA y<FA x:=qd
  simp only[h,i]
theorem zRp(p q:Int):(some (zAl p q)==some Ordering.lt)=decide (p<q):=by grind [zAl]
theorem zRo(p q:Int):(some (zAl p q)==some Ordering.gt)=decide (q<p):=by grind [zAl]
theorem KZ(c:x<18446744073709551616)(d:y<18446744073709551616):pC x y=zE2 (FA x) (FA y):=by
 have e:IntKind.i64.wrap (1+1)=2:=qh
 have f:IntKind.i64.wrap (1+0)=1:=qh
 have g:IntKind.i64.wrap (0+0)=0:=qh
 have i:∀z,oJ z=true->oC z=(1,0):=λz h=>by unfold oC;rw[aw h]
 have j:∀z,z<18446744073709551616->oJ z=false->(oC z).1=0/\(oC z).2=if rg z=0/\sn z=true then -1 else 0:=by grind [rg,xH,PJ,sg,sn,zAl,zMx,oC]
 grind [pC,FA,zE2,xH,zRs,sg,PJ,zRp,zRo]
theorem zIu{x y:Nat}(c:x<18446744073709551616)(d:y<18446744073709551616):pC x y=zOR x y:=by rw[KZ c d,zKG c d]
theorem WL{x y:Nat}(c:x<18446744073709551616)(d:y<18446744073709551616):uW x y=KS x y:=by unfold uW KS;rw[zIu c d]
theorem iU(c:x<18446744073709551616)(d:y<18446744073709551616):(pC x y==0)=(bL x==bL y):=by grind [KZ,zE2,FA,bL,zHK,sn,rg]
end
structure Nd where
 k:Int
 m:Int
 t:Nat
 d:Ba
abbrev ndc(k m:Int)(t:Nat)(d:Ba):Bf:=[.p (.i .i64 k),.p (.i .i64 m),.p (.f t),.p (.sl 1 (bS d))]
abbrev Nd.cv(x:Nd):Bf:=[.p (.i .i64 x.k),.p (.i .i64 x.m),.p (.f x.t),.p (.sl 1 (bS x.d))]
attribute [go_sem] Nd.cv ndc
theorem AR(x:Nd):Nd.mk x.k x.m x.t x.d=x:=rfl
attribute [go_sem] AR
def uX(x y:Nd):Bool:=x.k==y.k && x.m==y.m && (pC x.t y.t==0) && x.d==y.d
def cH(x y:Nd):Bool:=x.k==y.k && x.m==y.m && x.d==y.d && (bL x.t==bL y.t)
def lD(x y:Nd):Bool:=x.k==y.k && x.d==y.d
def Nd.ok(x:Nd):Prop:=x.d.length<=140737488355328
def zBA(c alike o t:Bool):Int:=if alike || c && t then 1 else if c && o then 2 else 0
def zBv(x y:Nd)(p q:Bool):Bool:=p==q && (!p || uX x y)
def nd0:Nd:=⟨0,0,0,[]⟩
def uZ(e o t:Nd)(b:Bool):Nd × Bool :=
 let w:=zBA b (lD o t) (lD e o) (lD e t)
 let m:=zBA b (o.m==t.m) (e.m==o.m) (e.m==t.m)
 let c:=zBA b (pC o.t t.t==0) (pC e.t o.t==0) (pC e.t t.t==0)
 (⟨if w==2 then t.k else o.k,if m==2 then t.m else o.m,if c==2 then t.t else if c==0 then uW o.t t.t else o.t,if w==2 then t.d else o.d⟩,w != 0 && m != 0)
def mB(c o t:Nd)(b d e:Bool):Nd × Bool × Int :=
 if zBv o t d e || zBv c t b e then (if d then o else nd0,d,0)
 else if zBv c o b d then (if e then t else nd0,e,0)
 else if !d then (nd0,false,3)
 else if !e then (nd0,false,2)
 else if (uZ c o t b).2 then ((uZ c o t b).1,true,0)
 else if !b then (nd0,false,5)
 else if o.k != t.k then (nd0,false,4)
 else (nd0,false,1)
def pI(x y:Nd)(p q:Bool):Bool:=p==q && (!p || cH x y)
def BR(b alike o t:Bool):Option Bool:=if alike then some true else if b && o then some false else if b && t then some true else none
def zI(c o t:Nd)(b e f:Bool):Nd × Bool × Int :=
 if pI o t e f then (o,e,0)
 else if pI c o b e then (t,f,0)
 else if pI c t b f then (o,e,0)
 else if !e then (nd0,false,3)
 else if !f then (nd0,false,2)
 else
  let g:Int:=if !b then 5 else if o.k != t.k then 4 else 1
  match BR b (lD o t) (lD c o) (lD c t),BR b (o.m==t.m) (c.m==o.m) (c.m==t.m) with
  | some w,some m=>(⟨if w then o.k else t.k,if m then o.m else t.m,
    match BR b (bL o.t==bL t.t) (bL c.t==bL o.t) (bL c.t==bL t.t) with
    | some true=>o.t
    | some false=>t.t
    | none=>KS o.t t.t,if w then o.d else t.d⟩,true,0)
  | _,_=>(nd0,false,g)
def zSn:List Ba:=[[97],[98],[99],[100,46,101],[102,45,49],[255]]
def BN(n:Int):Ba:=zSn.getD (n % 6).toNat []
def XQ:Nat->Int->Ba->Ba
 | 0,_,p=>p
 | k+1,n,p=>XQ k (n / 7) (p++47::BN (n / 7))
def xQ(n:Int):Ba:=XQ (n % 1073741824 / 6 % 3).toNat (n % 1073741824) (BN (n % 1073741824))
def zSP:List Nat:=[0,9223372036854775808,4607182418800017408,13830554455654793216,9218868437227405312,18442240474082181120,9221120237041090561,4612811918334230528,1,9223372036854775809,9218868437227405311,18444492273895866373]
def HF(n:Int)(x:Nat):Nat:=if n % 15<12 then zSP.getD (n % 15).toNat 0 else x
structure RN where
 k:Int
 m:Int
 t:Int
 x:Nat
 d:Ba
abbrev rnc(k m t:Int)(x:Nat)(d:Ba):Bf:=[.p (.i .i64 k),.p (.i .i64 m),.p (.i .i64 t),.p (.f x),.p (.sl 1 (bS d))]
attribute [go_sem] rnc
def QC(m:Int):Ba :=
 let a:=if m.tmod 4==0 then [46,46,47]++xQ m else xQ m
 if m.tmod 5==0 then [47]++a else a
def zP5(x:RN):Ba:=if 1+x.k % 3==1 then x.d.take 60 else if 1+x.k % 3==3 then QC x.m else []
def zMB(x:RN):Nd:=⟨1+x.k % 3,x.m % 4096,bL (HF x.t x.x),zP5 x⟩
def zNA{n m:Int}(c:0<m)(h:¬ n.tmod m<0):n.tmod m=n % m:=by
 rw[Int.tmod_eq_emod] at h ⊢;split
 .simp
 .rename_i d;rw[au d] at h;have:=gl n c;omega
def zNz{n m:Int}(d:0<m)(h:n.tmod m<0):n.tmod m+m=n % m:=by
 rw[Int.tmod_eq_emod] at h ⊢;split
 .rename_i c;rw[aw c] at h;have:=fy n (show m≠0 by omega)
  omega
 .omega
theorem jQ(n:Int):(BN n).length<=3:=by
 unfold BN;have c:=fy n (show (6:Int)≠0 by decide)
 have d:=gl n (show (0:Int)<6 by decide)
 generalize n % 6=k at c d;have:k=0∨k=1∨k=2∨k=3∨k=4∨k=5:=qd
 rcases this with rfl|rfl|rfl|rfl|rfl|rfl<;>decide
theorem XR:∀(k:Nat) (n:Int) (p:Ba),(XQ k n p).length<=p.length+4*k
 | 0,_,_=>by simp[XQ]
 | k+1,n,p=>by
  have c:=XR k (n / 7) (p++47::BN (n / 7));grind [jQ,XQ]
theorem xR(n:Int):(xQ n).length<=11:=by grind [XR,jQ,xQ]
def zH4(m:Int):(QC m).length<=15:=by grind [xR,QC]
def Nd.wf(x:Nd):Prop:=x.t<18446744073709551616
theorem mY{x y:Nd}(c:x.wf)(d:y.wf):uX x y=cH x y:=by
 unfold uX cH;rw[iU c d];grind
theorem dK(x:Nd):cH x x=true:=by simp[cH]
def zBw{x y:Nd}(h:cH x y=true):cH y x=true:=by
 simp only[cH,bn,dq] at h ⊢;obtain⟨⟨⟨c,d⟩,e⟩,f⟩:=h;exact⟨⟨⟨c.symm,d.symm⟩,e.symm⟩,f.symm⟩
def YZ{x y z:Nd}(h:cH x y=true)(k:cH y z=true):cH x z=true:=by
 simp only[cH,bn,dq] at h k ⊢;obtain⟨⟨⟨c,d⟩,e⟩,f⟩:=h;obtain⟨⟨⟨g,i⟩,j⟩,l⟩:=k;exact⟨⟨⟨c.trans g,d.trans i⟩,e.trans j⟩,f.trans l⟩
def uC{x y:Nd}(c:x.wf)(d:y.wf)(p q:Bool):zBv x y p q=pI x y p q:=by
 unfold zBv pI;rw[mY c d]
def MJ{x y z:Nd}{p q r:Bool}(h:pI x y p q=true)(k:pI x z p r=true):pI y z q r=true:=by
 simp only[pI,bn,fj,dq,dg] at h k ⊢;obtain⟨rfl,c⟩:=h;obtain⟨rfl,d⟩:=k;refine⟨rfl,?_⟩;rcases c with c|c
 .exact .inl c
 .rcases d with d|d
  .exact .inl d
  .exact .inr (YZ (zBw c) d)
def MV{x y z:Nd}(h:lD x y=true)(k:lD x z=true):lD y z=true:=by
 simp only[lD,bn,dq] at h k ⊢;exact⟨h.1.symm.trans k.1,h.2.symm.trans k.2⟩
def pK{b alike o t:Bool}(h:o=true->t=true->alike=true):zBA b alike o t=match BR b alike o t with
  | some true=>1
  | some false=>2
  | none=>0:=by
 cases b<;>cases alike<;>cases o<;>cases t<;>simp_all[zBA,BR]
def zCw{d o t:Nd}(i:d.wf)(f:o.wf)(g:t.wf)(b p q:Bool):
  (mB d o t b p q).2.2=(zI d o t b p q).2.2/\(mB d o t b p q).2.1=(zI d o t b p q).2.1/\((mB d o t b p q).2.1=false->(mB d o t b p q).1.k=0) /\
   ((mB d o t b p q).2.1=true->cH (mB d o t b p q).1 (zI d o t b p q).1=true):=by
 unfold mB zI;rw[uC f g,uC i g,uC i f];by_cases h:pI o t p q=true
 .simp only[h,e8,az];cases p<;>simp[nd0,dK]
 .by_cases j:pI d t b q=true
  .have e:pI d o b p=false:=by
    cases e:pI d o b p with
    | false=>rfl
    | true=>exact absurd (MJ e j) h
   simp only[h,j,e,ej,az,av,ax];cases p<;>simp[nd0,dK]
  .by_cases e:pI d o b p=true
   .simp only[h,j,e,iw,av,ax,az];cases q<;>simp[nd0,dK]
   .simp only[h,j,e,iw,av,ax];cases p with
    | false=>simp[nd0]
    | true =>
     cases q with
     | false=>simp[nd0]
     | true =>
      simp only[bh,av,ax,uZ];have n:=pK (b:=b) (o:=lD d o) (t:=lD d t) (alike:=lD o t) (λx y=>MV x y);have u:=pK (b:=b) (o:=d.m==o.m) (t:=d.m==t.m) (alike:=o.m==t.m) (λx y=>by simp only[dq] at x y ⊢;exact x.symm.trans y)
      have v:=pK (b:=b) (o:=bL d.t==bL o.t) (t:=bL d.t==bL t.t) (alike:=bL o.t==bL t.t) (λx y=>by simp only[dq] at x y ⊢;exact x.symm.trans y)
      simp only[iU f g,iU i f,iU i g,WL f g,n,u,v];clear n u v;cases BR b (lD o t) (lD d o) (lD d t) with
      | none=>cases b<;>by_cases l:o.k=t.k<;>simp[nd0,l]
      | some w =>
       cases BR b (o.m==t.m) (d.m==o.m) (d.m==t.m) with
       | none=>cases w<;>cases b<;>by_cases l:o.k=t.k<;>simp[nd0,l]
       | some m =>
        cases BR b (bL o.t==bL t.t) (bL d.t==bL o.t) (bL d.t==bL t.t) with
        | none=>cases w<;>cases m<;>simp[dK]
        | some c=>cases w<;>cases m<;>cases c<;>simp[dK]
def zNy{n:Int}{x:Nat}(c:x<18446744073709551616):HF n x<18446744073709551616:=by
 unfold HF;split
 .rename_i h;have d:=fy n (show (15:Int)≠0 by decide)
  generalize n % 15=k at h d;have:k=0∨k=1∨k=2∨k=3∨k=4∨k=5∨k=6∨k=7∨k=8∨k=9∨k=10∨k=11:=qd
  rcases this with rfl|rfl|rfl|rfl|rfl|rfl|rfl|rfl|rfl|rfl|rfl|rfl<;>decide
 .exact c
section
variable {k:Nat}{R:Bd}{s:DS}
structure It where
 p:Ba
 n:Nd
abbrev Bl:=List It
def It.cs(x:It):List PV:=[.s x.p,.i .i64 x.n.k,.i .i64 x.n.m,.f x.n.t,.sl 1 (bS x.n.d)]
def aP(t:Bl):Bc:=t.map It.cs
theorem cV(t:Bl):(aP t).length=t.length:=by simp[aP]
theorem tO: aP []=[]:=rfl
theorem zLH(a b:Bl):aP a++aP b=aP (a++b):=by simp[aP]
theorem EI(a:Bl)(n:Nat):(aP a).take n=aP (a.take n):=by simp[aP]
theorem zG6(a:Bl)(n:Nat):(aP a).drop n=aP (a.drop n):=by simp[aP]
theorem zLI(t:Bl):(∀x∈aP t,x.length=5)=True:=fr λx c=>by
 simp only[aP,cg] at c;obtain⟨y,_,rfl⟩:=c;rfl
theorem bX{t:Bl}{x:It}(h:t[k]?=some x):(aP t).getD k []=[.s x.p,.i .i64 x.n.k,.i .i64 x.n.m,.f x.n.t,.sl 1 (bS x.n.d)]:=by
 simp only[aP,ed,dv,h];rfl
theorem zG7(t:Bl)(p:Ba)(k m:Int)(tt:Nat)(d:Ba):aP t++[[.s p,.i .i64 k,.i .i64 m,.f tt,.sl 1 (bS d)]]=aP (t++[⟨p,⟨k,m,tt,d⟩⟩]):=by simp[aP,It.cs]
theorem zR9(x:It):It.mk x.p x.n=x:=rfl
attribute [go_sem] cV tO zLH EI zG6 zLI zG7 zR9 Nat.sub_zero
theorem drop_at{α:Type}{l:List α}{x:α}(h:l[k]?=some x):l.drop k=x::l.drop (k+1):=by grind [List.drop_eq_getElem_cons]
def aT(p q:Ba):Bool:=if p == [] then !(q == []) else (decide ((q.length:Int) > p.length+1) && q.take (p.length+1)==p++[47]) || (decide ((q.length:Int)=p.length+1) && q==p++[47])
def bN(t:Bl)(p:Ba):Bl:=t.filter λx=>!aT p x.p
def cS(p:Ba):Nat->Option Nat
 | 0=>none
 | j+1=>if ((p.getD j 0).toNat:Int)==47 then some j else cS p j
def aU(p:Ba):Ba:=match cS p p.length with
 | some j=>p.take j
 | none=>[]
def sH(b:UInt8):Bool:=!(((b.toNat:Int)==0) || ((b.toNat:Int)==47))
def bB(s:Ba):Bool:=s.all sH && (decide ((1:Int)<=s.length) && decide ((s.length:Int)<=24) && !(s == [46]) && !(s == [46,46]))
def BZ: Ba->Ba->List Ba
 | w,[]=>[w]
 | w,b::r=>if ((b.toNat:Int)==47) then w::BZ [] r else BZ (w++[b]) r
def rL(s:Ba):List Ba:=BZ [] s
def bZ(p:Ba):Bool:=p == [] || ((rL p).all bB && decide ((p.length:Int)<=120))
def encS(l:List Ba):Bc:=l.map λs=>[.s s]
theorem encS_len(t:List Ba):(encS t).length=t.length:=by simp[encS]
theorem PC: encS []=[]:=rfl
theorem zLF(a b:List Ba):encS a++encS b=encS (a++b):=by simp[encS]
theorem zG5(a:List Ba)(n:Nat):(encS a).take n=encS (a.take n):=by simp[encS]
theorem zG3(a:List Ba)(n:Nat):(encS a).drop n=encS (a.drop n):=by simp[encS]
theorem zLG(t:List Ba):(∀x∈encS t,x.length=1)=True:=by grind [encS]
theorem encS_at{t:List Ba}{x:Ba}(h:t[k]?=some x):(encS t).getD k []=[.s x]:=by grind [encS]
theorem zG4(t:List Ba)(p:Ba):encS t++[[.s p]]=encS (t++[p]):=by simp[encS]
theorem zAN{l:Ba}{k:Nat}{x:UInt8}(h:l[k]?=some x):l.getD k 0=x:=by simp[ed,h]
theorem zSt{l:Ba}{k:Nat}{x:UInt8}(h:l[k]?=some x):(l.take (k+1)).drop k=[x]:=by
 have:=bz.1 h;obtain⟨c,rfl⟩:=this;rw[List.take_succ_eq_append_getElem c,List.drop_append_of_le_length qk];simp
attribute [go_sem] encS_len PC zLF zG5 zG3 zLG zG4
theorem pY: ∀(s w:Ba),(BZ w s).length<=s.length+1
 | [],w=>by simp[BZ]
 | b::r,w=>by
  simp only[BZ];split
  .have:=pY r [];simp;omega
  .have:=pY r (w++[b]);simp;omega
theorem CB: ∀(s w:Ba) (x:Ba),x∈BZ w s->x.length<=w.length+s.length
 | [],w,x,h=>by grind [BZ]
 | b::r,w,x,h=>by
  simp only[BZ] at h;split at h
  .rcases bx.1 h with rfl|h
   .simp
   .have:=CB r [] x h;simp at this ⊢;omega
  .have:=CB r (w++[b]) x h;simp at this ⊢;omega
def aN: Bl->Ba->Option Nd
 | [],_=>none
 | x::r,p=>if x.p==p then some x.n else aN r p
def aZ(t:Bl)(p:Ba):Bool:=p == [] || (match aN t p with
 | some n=>n.k==2
 | none=>false)
def zV(p:Ba)(n:Nd):Bool->Bl->Bl
 | done,[]=>if done then [] else [⟨p,n⟩]
 | done,x::r=>(if !done && !cC x.p p then [⟨p,n⟩] else [])++((if !(x.p==p) then [x] else [])++zV p n (done || !cC x.p p) r)
def wL(t:Bl)(p:Ba)(n:Nd):Bl:=zV p n false t
def oV(t:Bl)(p:Ba):Bl:=t.filter λx=>!(x.p==p)
def bU(t:Bl)(p:Ba):Bl:=oV (bN t p) p
theorem zGr{t:Ba}{k:Nat}{x:UInt8}(h:t[k]?=some x):(bS t).getD k []=[.i .u8 x.toNat]:=by
 simp only[bS,ed,dv,h];rfl
def gZ(b:Ba):Bool:=b.all (λb=>!((b.toNat:Int)==0)) && (decide ((1:Int)<=b.length) && decide ((b.length:Int)<=120))
theorem lE(n:Nat)(h:n<9223372036854775808):IntKind.i64.wrap (no_index (OfNat.ofNat n))=OfNat.ofNat n:=wrap_i64 (by show _<=(n:Int);omega) (by show (n:Int)<=_;omega)
theorem ZW(n:Nat)(h:n<9223372036854775808):IntKind.u64.wrap (no_index (OfNat.ofNat n))=OfNat.ofNat n:=oF (by show _<=(n:Int);omega) (by show (n:Int)<=_;omega)
theorem zBL:IntKind.i64.wrap (-1) = -1:=wrap_i64 qh qh
theorem MY(z:Int):(0<=IntKind.u8.wrap z)=True:=qy
theorem MX(z:Int):(IntKind.u8.wrap z<=255)=True:=by grind [IntKind.wrap,IntKind.bits]
attribute [go_sem] MY MX
def HV(x:Nat)(k:Nat):UInt8:=UInt8.ofNat (IntKind.u8.wrap ((x:Int).fdiv (2 ^ k))).toNat
def SN(x:Nat):Ba:=[HV x 56,HV x 48,HV x 40,HV x 32,HV x 24,HV x 16,HV x 8,HV x 0]
def xT(x:Nat):Bool:=SN x==SN (bL x)
def aO(n:Nd):Bool:=!(decide (n.m<0) || decide (4095<n.m) || !xT n.t) && (if n.k==1 then decide ((n.d.length:Int)<=2000) else if n.k==2 then (n.d.length:Int)==0 else if n.k==3 then gZ n.d else false)
def vB(t:Bl)(p:Ba)(n:Nd):Bl × Int :=
 if p == [] || !bZ p || !aO n then ([],1) else if !aZ t (aU p) then ([],9)
 else if decide ((120:Int)<(wL (if n.k != 2 then bN t p else t) p n).length) then ([],16) else (wL (if n.k != 2 then bN t p else t) p n,0)
theorem zCS(p:Ba)(n:Nd):∀(t:Bl) (d:Bool),(zV p n d t).length<=t.length+(if d then 0 else 1)
 | [],d=>by grind [zV]
 | x::r,d=>by
  have h:=zCS p n r (d || !cC x.p p);grind [zV]
theorem qV(t:Bl)(p:Ba)(n:Nd):(wL t p n).length<=t.length+1:=zCS p n t false
theorem qP(t:Bl)(p:Ba):(bN t p).length<=t.length:=ei ..
theorem zBp(t:Bl)(p:Ba):(bU t p).length<=t.length:=bj (ei ..) (qP t p)
def fW(a b:Ba):Bl->Bl->Bl × Int
 | c,[]=>(c,0)
 | c,x::r=>if !(x.p==a) && !aT a x.p then fW a b c r else if decide ((120:Int)<(b.length+(x.p.drop a.length).length:Nat)) then ([],12) else fW a b (wL c (b++x.p.drop a.length) x.n) r
def mA(t:Bl)(a b:Ba):Bl × Int :=
 if a == [] || b == [] || !bZ a || !bZ b then ([],1) else if !(aN t a).isSome then ([],6) else if aT a b then ([],18) else if (aN t b).isSome then ([],7) else if !aZ t (aU b) then ([],9) else fW a b (bU t a) t
theorem eR{a q:Ba}(h:aT a q=true):a.length<=q.length:=by grind [aT]
def zCX(R:Bd):Be
 | .normal,s=>R (.tup []) s.h
 | .ret,s=>R (.tup []) s.h
 | _,_=>False
theorem zNJ: zCX R .normal s=R (.tup []) s.h:=nr rfl
theorem zNK: zCX R .ret s=R (.tup []) s.h:=nr rfl
theorem zUk {P:Program} {T:Tab} (i:bQ P T) (j:P.follows .mixedOrders=true) {f:FuncId} {d:Func} {c:Code} {args:Bi} {h:aF} {R:Bd} (l:P.funcs[f]?=some d) (m:d.body=some c)
  (g:(Nat.ble args.length d.ntmps && (!(d.name == "runtime.NumGoroutine") && d.results.toList.isEmpty))=true)
  (n:∀X0:Ctx,X0.h=h->vc P T X0 c ⟨d.ntmps,mV 0 args,h⟩ (zCX R)):aA P f args h R:=by
 simp only[bn,dg,List.isEmpty_iff] at g;refine hZ i l m (gk g.1) g.2.1 λX0 o=>?_;rw[iR,g.2.2];refine iP (eN i j c (n X0 o)) λe s h=>?_;cases e<;>simp only[zCX,BK] at h ⊢
 case normal=>exact .inl h
 case ret=>exact .inl h
attribute [go_sem] zNJ zNK
end
end Go.Dm
end
end
