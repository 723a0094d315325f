/- Part 9 of roomPlays_card. No condition. -/
import Derived.Test.YtfcindonokhbeaaGreatDoorP07
set_option linter.all false
set_option maxRecDepth 100000
set_option maxHeartbeats 0
section
section
namespace Go.Dm
open Go
def zN0:∀a b:Ba,cC a b=decide (a<b)
 | a,[]=>by rw[NI];simp
 | [],y::b=>by show true=_;simp
 | x::a,y::b=>by
  rw[wT,zN0 a b];grind [List.cons_lt_cons_iff]
def zOi{a b:Ba}:a<=b↔cC b a=false:=by rw[zN0,ik,List.not_lt]
def leS(x y:Ba):Bool:=decide (x<=y)
theorem QA{a b:Ba}:leS a b = !cC b a:=by grind [leS,zOi.2,zOi.1]
def zH0{a b c:Ba}(h1:leS a b=true)(d:leS b c=true):leS a c=true:=by grind [QA,fM,cO]
def zHZ{a b:Ba}:(leS a b || leS b a)=true:=by grind [QA,fL]
def sX(l:List Ba):(l.mergeSort λx y=>decide (x<=y)).Pairwise λx y=>leS x y=true :=
 np (le:=leS) (λa b c=>zH0) (λa b=>zHZ) l
def oH{l:List Ba}(a:l.Pairwise λx y=>leS x y=true):∀m,m<=l.length->(Lib.compactUpTo l.toArray m).Pairwise (λx y=>cC x y=true)/\∀x∈Lib.compactUpTo l.toArray m,∃(j:Nat) (_:j<m) (h:j<l.length),x=l[j]
 | 0,_=>by simp[Lib.compactUpTo]
 | m+1,b=>by
  obtain⟨c,d⟩:=oH a m qd;rw[Lib.compactUpTo_succ];have e:l.toArray[m]! = l[m]:=by grind
  split
  .grind [Lib.keeps,List.pairwise_iff_getElem.1,QA,fM]
  .grind
def oA(l:List Ba):(Lib.compact (l.mergeSort λx y=>decide (x<=y))).Pairwise λx y=>cC x y=true :=
 (oH (sX l) _ (bg _)).1
def NM{a b:Bl}{p:Ba}{x:Ch}(h:x∈chF a b p):x=⟨p,xI (aN a p).isSome (aN b p).isSome ((aN a p).getD nd0) ((aN b p).getD nd0),(aN a p).getD nd0,(aN b p).getD nd0⟩/\xI (aN a p).isSome (aN b p).isSome ((aN a p).getD nd0) ((aN b p).getD nd0)≠0:=by grind [chF]
def wV{a b:Bl}{x:Ch}:∀{l:List Ba},x∈zAk a b l->x.p∈l/\x∈chF a b x.p
 | [],h=>by grind [zAk]
 | p::r,h=>by
  rcases c9.1 h with h|h
  .have:=(NM h).1;simp_all
  .obtain⟨c,d⟩:=wV h;simp_all
def zBT{a b:Bl}:∀{l:List Ba},l.Pairwise (λx y=>cC x y=true)->(zAk a b l).Pairwise λx y=>cC x.p y.p=true
 | [],_=>by simp[zAk]
 | p::r,h=>by
  obtain⟨c,d⟩:=dx.1 h;refine ic.2 ⟨?_,zBT d,λx e y f=>?_⟩
  .unfold chF;split<;>simp
  .rw[(NM e).1];exact c _ (wV f).1
def vG{l:List Ba}:∀m,m<=l.length->∀j (d:j<l.length),j<m->l[j]∈Lib.compactUpTo l.toArray m
 | 0,_,_,_,h=>by omega
 | m+1,f,j,d,h=>by
  rw[Lib.compactUpTo_succ];have e:l.toArray[m]! = l[m]:=by grind
  by_cases b:j<m
  .exact fg _ (vG m qd j d b)
  .have:j=m:=qd
   subst this;cases a:Lib.keeps l.toArray j
   .have c:l.toArray[j-1]! = l[j-1]:=by simp[nq,show j-1<l.length by omega]
    unfold Lib.keeps at a;rw[e,c] at a;simp only[ik,jo,Decidable.not_not] at a;rw[a.2];exact fg _ (vG j qd (j-1) qd qd)
   .simp_all
theorem vF{l:List Ba}{p:Ba}:p∈Lib.compact (l.mergeSort λx y=>decide (x<=y))↔p∈l:=by
 have b:∀q,q∈(l.mergeSort λx y=>decide (x<=y))↔q∈l:=λq=>List.mem_mergeSort;constructor
 .intro h;obtain⟨j,_,a,rfl⟩:=(oH (sX l) _ (bg _)).2 p h;grind
 .intro h;obtain⟨j,a,rfl⟩:=ie.1 ((b p).2 h);exact vG _ (bg _) j a a
def qW{α:Type}{lt:α->α->Bool}(c:∀a,lt a a=false)(d:∀{a b},lt a b=true->lt b a=false):∀{a b:List α},a.Pairwise (λx y=>lt x y=true)->b.Pairwise (λx y=>lt x y=true)->(∀x,x∈a↔x∈b)->a=b
 | [],[],_,_,_=>rfl
 | [],y::b,_,_,h=>by have:=(h y).2 cz;simp at this
 | x::a,[],_,_,h=>by have:=(h x).1 cz;simp at this
 | x::a,y::b,o,p,h=>by
  obtain ⟨f,j⟩:=dx.1 o;obtain⟨g,k⟩:=dx.1 p;have l:x=y:=by
   rcases bx.1 ((h x).1 cz) with e|e
   .exact e
   .rcases bx.1 ((h y).2 cz) with m|m
    .exact m.symm
    .have n:=d (g x e);rw[f y m] at n;cases n
  subst l;rw[qW c d j k λz=>?_];constructor
  .intro i;rcases bx.1 ((h z).1 (cu _ i)) with e|e
   .subst e;have:=f z i;rw[c] at this;cases this
   .exact e
  .intro i;rcases bx.1 ((h z).2 (cu _ i)) with e|e
   .subst e;have:=g z i;rw[c] at this;cases this
   .exact e
def AV(a b:Bl):List Ba:=Lib.compact (((a++b).map It.p).mergeSort λx y=>decide (x<=y))
def dB(a b:Bl):Bh:=zAk a b (AV a b)
def zK{a b:Bl}{p:Ba}:p∈AV a b↔(∃x∈a,x.p=p)∨∃x∈b,x.p=p:=by grind [AV,vF]
def zA8{x:Nd}(h:x.wf):uX x x=true:=by grind [mY,dK]
theorem zBS{a b:Bl}:∀l:List Ba,(zAk a b l).length<=l.length
 | []=>by simp[zAk]
 | p::r=>by
  have:=zBS (a:=a) (b:=b) r;grind [chF,zAk]
theorem JY(l:List Ba):(Lib.compact l).length<=l.length:=by grind [Lib.compact,Lib.compactUpTo]
def jG(a b:Bl):(dB a b).length<=a.length+b.length:=by grind [dB,AV,zBS,JY,List.length_mergeSort]
def zF2{a b:Bl}{x:Ch}(h:x∈dB a b):x.k=xI (aN a x.p).isSome (aN b x.p).isSome ((aN a x.p).getD nd0) ((aN b x.p).getD nd0)/\xI (aN a x.p).isSome (aN b x.p).isSome ((aN a x.p).getD nd0) ((aN b x.p).getD nd0)≠0:=by
 obtain⟨c,d⟩:=NM (wV h).2;grind
def iQ{a b:Bl}{x:Ch}(h:x∈dB a b):x.o=(aN a x.p).getD nd0/\x.n=(aN b x.p).getD nd0:=by
 obtain⟨c,_⟩:=NM (wV h).2;grind
def xA{a b:Bl}(c:OkT a)(d:OkT b){x:Ch}(h:x∈dB a b):x.o.wf/\x.n.wf:=by
 obtain⟨e,f⟩:=iQ h;rw[e,f];exact⟨c.gett _,d.gett _⟩
def TN(a b:Bl):(dB a b).Pairwise λx y=>cC x.p y.p=true:=zBT (oA _)
def tS{x:It}:∀{t:Bl},x∈t->(aN t x.p).isSome=true
 | y::r,h=>by
  rw[aN];split
  .rfl
  .rename_i a;rcases bx.1 h with rfl|h
   .simp at a
   .exact tS h
def AO(s:Ba):List Ba->List Ba
 | []=>[s]
 | x::l=>if cC x s then x::AO s l else if x==s then x::l else s::x::l
theorem CJ{s q:Ba}:∀{l:List Ba},q∈AO s l↔q=s∨q∈l
 | []=>by simp[AO]
 | x::l=>by
  rw[AO];split
  .rw [bx,CJ,bx];constructor
   .rintro (h|h|h)
    .exact .inr (.inl h)
    .exact .inl h
    .exact .inr (.inr h)
   .rintro (h|h|h)
    .exact .inr (.inl h)
    .exact .inl h
    .exact .inr (.inr h)
  .split
   .rename_i h;have h:=eq_of_beq h;subst h;simp
   .simp
def PS{s:Ba}:∀{l:List Ba},l.Pairwise (λx y=>cC x y=true)->(AO s l).Pairwise λx y=>cC x y=true
 | [],_=>by simp[AO]
 | x::l,h=>by
  obtain⟨c,e⟩:=dx.1 h;rw[AO];split
  .rename_i b;refine dx.2 ⟨λy a=>?_,PS e⟩;rcases CJ.1 a with rfl|a
   .exact b
   .exact c y a
  .rename_i b;split
   .exact h
   .rename_i f;have d:cC s x=true:=by
     cases g:cC s x
     .have:=fM (by simpa using b) g;subst this;simp at f
     .rfl
    refine dx.2 ⟨λy a=>?_,h⟩;rcases bx.1 a with rfl|a
    .exact d
    .exact cO d (c y a)
def zAY{s:Ba}:∀{l:List Ba} {k:Nat},k<=l.length->(∀j x,l[j]?=some x->j<k->cC x s=true)->(∀x,l[k]?=some x->cC x s=false) ->
  AO s l=match l[k]? with
   | some x=>if x==s then l else l.take k++s::l.drop k
   | none=>l++[s]
 | [],k,c,_,_=>by simp[AO]
 | x::l,0,_,_,a=>by
  have:=a x rfl;simp only[AO,this,av,ax,eu,lu,e9,j9]
 | x::l,k+1,c,d,a=>by
  have e:=d 0 x rfl qd;have f:=zAY (s:=s) (l:=l) (k:=k) (by simpa using c) (λj y b g=>d (j+1) y (by simpa using b) qd) (λy b=>a y (by simpa using b));rw[AO,aw e,f,fp];cases l[k]? with
  | none=>rfl
  | some y =>
   simp only[List.take_succ_cons,oz,gn];split<;>rfl
def dX(o:List Ba)(t:Bl):List Ba:=t.foldl (λo x=>AO x.p o) o
theorem iZ:∀{t:Bl} {o:List Ba},o.Pairwise (λx y=>cC x y=true)->(dX o t).Pairwise λx y=>cC x y=true
 | [],_,h=>h
 | _::t,_,h=>iZ (t:=t) (PS h)
theorem kI{q:Ba}:∀{t:Bl} {o:List Ba},q∈dX o t↔q∈o∨∃x∈t,x.p=q
 | [],o=>by simp[dX]
 | x::t,o=>by
  show q∈dX (AO x.p o) t↔_;rw[kI,CJ];constructor
  .rintro ((h|h)|⟨y,a,h⟩)
   .exact .inr ⟨x,cz,h.symm⟩
   .exact .inl h
   .exact .inr ⟨y,cu _ a,h⟩
  .rintro (h|⟨y,a,h⟩)
   .exact .inl (.inr h)
   .rcases bx.1 a with rfl|a
    .exact .inl (.inl h.symm)
    .exact .inr ⟨y,a,h⟩
theorem PR(s:Ba):∀l:List Ba,(AO s l).length<=l.length+1
 | []=>by simp[AO]
 | x::l=>by
  have:=PR s l;rw[AO];repeat' split
  all_goals simp only[bw];omega
theorem kH:∀(t:Bl) (o:List Ba),(dX o t).length<=o.length+t.length
 | [],o=>by simp[dX]
 | x::t,o=>by
  have a:=kH t (AO x.p o);have b:=PR x.p o;show (dX (AO x.p o) t).length<=_;rw[bw];omega
def AW(a b:Bl):List Ba:=dX (dX [] a) b
def zII(a b:Bl):AW a b=AV a b :=
 qW (lt:=cC) cD (λh=>fL h) (iZ (iZ ql)) (oA _) λp=>by
  show p∈AW a b↔p∈AV a b;rw[zK];unfold AW;rw[kI,kI];simp
def BL(x y:Nd)(p q:Bool):Int:=if !p then 1 else if !q then 2 else if x.k != y.k then 4 else if !(x.d==y.d) then 3 else 5
def zM6(a b:Bl)(p:Ba):Bh :=
 if (aN a p).isSome && (aN b p).isSome && cH ((aN a p).getD nd0) ((aN b p).getD nd0) then [] else [⟨p,BL ((aN a p).getD nd0) ((aN b p).getD nd0) (aN a p).isSome (aN b p).isSome,(aN a p).getD nd0,(aN b p).getD nd0⟩]
def rD(a b:Bl):List Ba->Bh
 | []=>[]
 | p::r=>zM6 a b p++rD a b r
def QZ(a b:Bl):Bh:=rD a b (AW a b)
def zM7{a b:Bl}(c:OkT a)(d:OkT b){p:Ba}(e:(aN a p).isSome=true∨(aN b p).isSome=true):zM6 a b p=chF a b p:=by
 have f:=mY (c.gett p) (d.gett p);unfold zM6 chF xI BL;rw[f];generalize (aN a p).isSome=u at *;generalize (aN b p).isSome=v at *;generalize (aN a p).getD nd0=x at *;generalize (aN b p).getD nd0=y at *;cases u<;>cases v
 .simp at e
 .rfl
 .rfl
 .simp only[bh,cy,az,av,ax];cases cH x y
  .simp only[av,ax]
   repeat' split
   all_goals first|rfl|(rename_i h;exact absurd h qh)|(rename_i h _;exact absurd h qh)|(rename_i h _ _;exact absurd h qh)
  .rfl
def XZ{a b:Bl}(c:OkT a)(d:OkT b):∀{l:List Ba},(∀p∈l,(aN a p).isSome=true∨(aN b p).isSome=true)->rD a b l=zAk a b l
 | [],_=>rfl
 | p::r,h=>by rw[rD,zAk,zM7 c d (h p cz),XZ c d λq e=>h q (cu _ e)]
def XS{a b:Bl}{p:Ba}(h:p∈AV a b):(aN a p).isSome=true∨(aN b p).isSome=true:=by
 rcases zK.1 h with⟨x,c,rfl⟩|⟨x,c,rfl⟩
 .exact .inl (tS c)
 .exact .inr (tS c)
def zO{a b:Bl}(c:OkT a)(d:OkT b):QZ a b=dB a b:=by
 unfold QZ dB;rw[zII,XZ c d λp e=>XS e]
theorem zFx(x k:Nat):(HV x k).toNat=x / 2 ^ k % 256:=by
 have h:IntKind.u8.wrap ((x:Int).fdiv (2 ^ k))=((x / 2 ^ k % 256:Nat):Int):=qy
 unfold HV;rw[h,ix];simp_all
theorem zDe{x y:Nat}(a:x<18446744073709551616)(b:y<18446744073709551616)(h:SN x=SN y):x=y:=by grind [SN,zFx]
def XT{x:Nat}(a:x<18446744073709551616):xT x=(bL x==x):=by grind [xT,zDe,tI]
def zDl(n:Nd):Bool:=if n.k==1 then decide ((n.d.length:Int)<=2000) else if n.k==2 then (n.d.length:Int)==0 else if n.k==3 then (decide ((1:Int)<=n.d.length) && decide ((n.d.length:Int)<=120)) && n.d.all λb=>!(b==0) else false
theorem zNV(b:UInt8):((b.toNat:Int)==0)=(b==0):=by
 rw[gi];simp only[dq];exact⟨λh=>kl.1 (by have:(0:UInt8).toNat=0:=rfl;omega),λh=>by rw[h];rfl⟩
theorem zEV(d:Ba):gZ d=((decide ((1:Int)<=d.length) && decide ((d.length:Int)<=120)) && d.all λb=>!(b==0)):=by grind [gZ,zNV]
def pB(n:Nd):Bool:=zDl n && decide (0<=n.m) && decide (n.m<=4095) && (bL n.t==n.t)
def mC{n:Nd}(h:n.wf):pB n=aO n:=by
 unfold pB aO zDl;rw[XT h];grind [zEV]
def nQ(n:Nd):Bool:=n.k==0 && n.m==0 && n.t==0 && n.d.length==0
def zMp(c:Ch):Bool:=!(c.p == []) && bZ c.p && (nQ c.o || !(c.k==1)) && (nQ c.n || !(c.k==2)) && (c.k==1 || aO c.o) && (c.k==2 || aO c.n) && !(c.k==0) && (xI (!(c.k==1)) (!(c.k==2)) c.o c.n==c.k)
def pV:Option Ba->Ba->Bool
 | none,_=>true
 | some q,p=>cC q p
def gV:Option Ba->Bh->Bool
 | _,[]=>true
 | q,c::l=>zMp c && pV q c.p && gV (some c.p) l
def OkT.getok{t:Bl}(h:OkT t){p:Ba}(c:(aN t p).isSome=true):p≠[]/\bZ p=true/\aO ((aN t p).getD nd0)=true:=by
 cases a:aN t p with
 | none=>simp_all
 | some n =>
  obtain⟨x,b,rfl,rfl⟩:=cP a;have:=h.its x b;exact⟨this.1,this.2.1,this.2.2.1⟩
def zF1{a b:Bl}(e:OkT a)(f:OkT b):∀c∈dB a b,zMp c=true:=by
 intro c d;obtain⟨i,j⟩:=zF2 d;obtain⟨k,l⟩:=iQ d;have m:=e.getok (p:=c.p);have n:=f.getok (p:=c.p);have o:(aN a c.p).isSome=false->(aN a c.p).getD nd0=nd0:=λh=>by cases g:aN a c.p with
  | none=>rfl
  | some _=>simp_all
 have q:(aN b c.p).isSome=false->(aN b c.p).getD nd0=nd0:=λh=>by cases g:aN b c.p with
  | none=>rfl
  | some _=>simp_all
 grind [xI,zMp,nQ,nd0]
theorem KR(a:Ba):∀k,k<=a.length->Lib.lastIdx ⟨a.toArray⟩ 47 k=match cS a k with
  | some j=>(j:Int)
  | none=>-1
 | 0,_=>rfl
 | k+1,e=>by
  have b:k<a.length:=qd
  have c:(ByteArray.mk a.toArray).data[k]! = a[k]:=qw
  have d:a.getD k 0=a[k]:=qw
  rw[Lib.lastIdx,cS,c,d];by_cases h:((a[k].toNat:Int)=47)
  .simp_all
  .rw[au h,au (by simpa using h),KR a k qd]
def rC(a:Ba):Lib.lastIndexByte ⟨a.toArray⟩ 47=match cS a a.length with
  | some j=>(j:Int)
  | none=>-1:=by grind [ByteArray.size,Lib.lastIndexByte,KR]
def AQ{p:Ba}{j:Nat}(h:cS p p.length=some j):j<p.length:=by grind [kR]
def oG(p:Ba):Ba:=match cS p p.length with
 | some j=>p.drop (j+1)
 | none=>p
def SM{p q:Ba}(a:p≠[]):(p++[47]).isPrefixOf q=aT p q:=by
 rw[gi,List.isPrefixOf_iff_prefix,zFo a];constructor
 .rintro⟨r,b⟩;exact⟨r,by rw[<- b];simp⟩
 .simp_all
def jP(d n:Ba):Ba:=if d == [] then n else d++47::n
def zKR(p:Ba)(a:aU p=[]->47 ∉ p):jP (aU p) (oG p)=p:=by grind [jP,oG,kR,aU,List.take_append_drop,List.drop_eq_getElem_cons]
def xB(t:Bl)(p:Ba):List Ba:=(t.filter λx=>aU x.p==p).map λx=>oG x.p
def eZ(t:Bl)(p:Ba):List Ba:=(xB t p).mergeSort λx y=>decide (x<=y)
theorem dI{y:It}:∀{t:Bl},Srt t->y∈t->aN t y.p=some y.n
 | x::t,b,a=>by
  obtain⟨c,d⟩:=dx.1 b;rw[aN];rcases bx.1 a with rfl|a
  .simp_all
  .rw[au (by rw[mO (c y a)];decide)];exact dI d a
theorem zFu(d:Ba)(b:UInt8)(n:Ba):cC d (d++b::n)=true:=by
 induction d with
 | nil=>rfl
 | cons x d a=>grind [wT]
def KQ{t:Bl}(h:OkT t){k:Nat}{x:It}(d:t[k]?=some x):aZ (t.take k) (aU x.p)=true:=by
 by_cases b:aU x.p=[]
 .rw[b];rfl
 obtain⟨m,e,w⟩:=dF b (h.par x (dr d));obtain⟨y,f,g,i⟩:=cP e;obtain⟨n,z,_⟩:=xC b;have l:cC y.p x.p=true:=by grind [zFu]
 obtain ⟨j,o,c⟩:=ie.1 f;obtain⟨q,r⟩:=bz.1 d;have s:j<k:=by
  rcases o0 j k with a|a|a
  .exact a
  .grind [cD]
  .have:=gg.1 h.srt k j q o a;grind [fL]
 have u:y∈t.take k:=ie.2 ⟨j,qk,by rw[km];exact c⟩
 have v:Srt (t.take k):=h.srt.sublist (mi k t);grind [dI,iN]
def JF{p:Ba}(a:bZ p=true)(b:p≠[])(c:aU p=[]):47 ∉ p:=by grind [CE,bZ,rL,BZ,bB]
def OkT.joined{t:Bl}(h:OkT t){x:It}(a:x∈t):jP (aU x.p) (oG x.p)=x.p :=
 zKR _ λb=>JF (h.its x a).2.1 (h.its x a).1 b
def KX(t:Bl)(d:Ba):(eZ t d).length=(t.filter λx=>aU x.p==d).length:=by grind [eZ,xB,List.length_mergeSort]
def fC{α:Type}{g:α->Bool}{t:List α}{i:Nat}{x:α}(a:t[i]?=some x):(t.take (i+1)).filter g=(t.take i).filter g++(if g x then [x] else []):=rl
end Go.Dm
end
end
section
section
namespace Go.Dm
open Go
def SD(z:Int):0<=IntKind.u8.wrap z/\IntKind.u8.wrap z<=255:=⟨of_eq_true (MY z),of_eq_true (MX z)⟩
def zGu(B:Ba)(z:Int):bS B++[[.i .u8 (IntKind.u8.wrap z)]]=bS (B++[UInt8.ofNat (IntKind.u8.wrap z).toNat]):=by
 obtain ⟨a,b⟩:=SD z;have:((UInt8.ofNat (IntKind.u8.wrap z).toNat).toNat:Int)=IntKind.u8.wrap z:=by
  have:(UInt8.ofNat (IntKind.u8.wrap z).toNat).toNat=(IntKind.u8.wrap z).toNat:=by
   show _ % 256=_;exact Nat.mod_eq_of_lt qd
  rw[this];omega
 simp only[bS,gh,dt,gw,this]
def zGt(z:Int):[[PV.i .u8 (IntKind.u8.wrap z)]]=bS [UInt8.ofNat (IntKind.u8.wrap z).toNat]:=by
 have:=zGu [] z;simpa[bS] using this
def zTM(b:Ba):Nat:=b.foldl (λv c=>v*256+c.toNat) 0
structure Rd where
 b:Ba
 l:Bool
def Rd.raw(r:Rd)(n:Nat):Ba × Rd:=if r.l || decide (r.b.length<n) then ([],⟨[],true⟩) else (r.b.take n,⟨r.b.drop n,false⟩)
def Rd.num(r:Rd)(n:Nat):Nat × Rd:=(zTM (r.raw n).1,(r.raw n).2)
def Rd.text(r:Rd):Ba × Rd:=(r.num 2).2.raw (r.num 2).1
def Rd.node(r:Rd):Nd × Rd :=
 let k:=r.num 1
 let m:=k.2.num 2
 let t:=m.2.num 8
 let d:=t.2.text
 (⟨k.1,m.1,t.1,d.1⟩,d.2)
def Rd.items:Nat->Rd->Bl × Rd
 | 0,r=>([],r)
 | n+1,r =>
  if r.l then ([],r) else
   let p:=r.text
   let x:=p.2.node
   let y:=Rd.items n x.2
   (⟨p.1,x.1⟩::y.1,y.2)
def kW(pre:Bl)(p:Ba):Bool:=match pre.getLast? with
 | some y=>cC y.p p
 | none=>true
def pH(pre:Bl)(x:It):Bool:=!(x.p == []) && (bZ x.p && (kW pre x.p && (aO x.n && aZ pre (aU x.p))))
def gW:Bl->Bl->Bool
 | _,[]=>true
 | a,x::r=>pH a x && gW (a++[x]) r
def lC(t:Bl):Bool:=gW [] t && decide ((t.length:Int)<=120)
def nW{t:Bl}{k:Nat}(a:0<k)(b:k<=t.length):(t.take k).getLast?=t[k-1]? := by grind
def RS{t:Bl}{x:It}(h:Srt t)(b:kW t x.p=true):Srt (t++[x]):=by
 refine ic.2 ⟨h,ql,λy a z d=>?_⟩
 have:z=x:=qw
 unfold kW at b;cases c:t.getLast? with
 | none =>
  simp_all
 | some w =>
  obtain⟨s,rfl⟩:=List.getLast?_eq_some_iff.1 c;rcases c9.1 a with a|a
  .have:=(ic.1 h).2.2 y a w ql;grind [cO]
  .simp_all
def MD:∀{r pre:Bl},Srt pre->(∀x∈pre,OkI x)->(∀x∈r,x.n.t<18446744073709551616)->(∀x∈pre,aZ pre (aU x.p)=true)->gW pre r=true->Srt (pre++r)/\(∀x∈pre++r,OkI x)/\∀x∈pre++r,aZ (pre++r) (aU x.p)=true
 | [],pre,d,e,_,f,_=>by rw[dh];exact⟨d,e,f⟩
 | x::r,pre,d,e,j,f,h=>by
  rw [gW,bn] at h;obtain⟨k,o⟩:=h;simp only[pH,bn,dg] at k;obtain⟨q,s,u,v,w⟩:=k;have b:Srt (pre++[x]):=RS d u;have l:∀p,aZ pre p=true->aZ (pre++[x]) p=true:=by
   intro p z;by_cases c:p=[]
   .subst c;rfl
   .obtain⟨m,A,B⟩:=dF c z;obtain⟨y,a,g,i⟩:=cP A;have:=dI b (fg [x] a);rw[g] at this;exact iN this (by rw[i];exact B)
  have:=MD (r:=r) (pre:=pre++[x]) b (λy a=>by
   rcases c9.1 a with a|a
   .exact e y a
   .have:y=x:=by simpa using a
    subst this;exact⟨by simpa using q,s,v,j y cz⟩) (λy a=>j y (cu _ a)) (λy a=>by
   rcases c9.1 a with a|a
   .exact l _ (f y a)
   .have:y=x:=by simpa using a
    subst this;exact l _ w) o
  rw[gf] at this;exact this
def GR{t:Bl}(b:∀x∈t,x.n.t<18446744073709551616)(h:lC t=true):OkT t:=by
 unfold lC at h;rw[bn,ew] at h;obtain⟨c,d⟩:=h;have:=MD (r:=t) (pre:=[]) List.Pairwise.nil (λx a=>by cases a) b (λx a=>by cases a) c
 exact⟨⟨this.1,this.2.1,qd⟩,this.2.2⟩
def zEy{t:Bl}(h:OkT t):∀k,k<=t.length->gW (t.take k) (t.drop k)=true:=by
 have b:∀n k,t.length-k<=n->k<=t.length->gW (t.take k) (t.drop k)=true:=by
  intro n
  induction n with
  | zero =>
   intro k f g;rw[cw qd];rfl
  | succ n i =>
   intro k f g;by_cases a:k<t.length
   .have d:=ay a;rw[ib a,gW];have e:=i (k+1) qd qd;rw[dm,d] at e;obtain⟨j,l,m,_⟩:=h.its _ (ch a);have o:=KQ h d;have q:kW (t.take k) t[k].p=true:=by
     unfold kW;by_cases r:0<k
     .rw[nW r qd,ay qd];exact gg.1 h.srt (k-1) k qd a qd
     .have:k=0:=qd
      subst this;rfl
    have c:(t[k].p == [])=false:=by simpa using j
    rw[pH,c,l,q,m,o];exact e
   .rw[cw qd];rfl
 exactλk s=>b _ k (bg _) s
theorem YG{t:Bl}(h:OkT t):lC t=true:=by
 have:=zEy h 0 (bc _);have a:=h.len;simp only[lu,j9] at this;rw[lC,this,cy];exact df qd
def zP(t pre:Bl)(x:It):Bool:=!(x.p == []) && (bZ x.p && (kW pre x.p && (aO x.n && aZ t (aU x.p))))
def uQ(t:Bl):Bl->Bl->Bool
 | _,[]=>true
 | a,x::r=>zP t a x && uQ t (a++[x]) r
def zEp(t:Bl):Bool:=uQ t [] t && decide ((t.length:Int)<=120)
def zCI{t:Bl}:∀{r pre:Bl},Srt pre->(∀x∈r,x.n.t<18446744073709551616)->uQ t pre r=true->Srt (pre++r)/\(∀x∈r,OkI x)/\∀x∈r,aZ t (aU x.p)=true
 | [],pre,b,_,_=>⟨by rw[dh];exact b,by intro x c;simp at c,by intro x c;simp at c⟩
 | x::r,pre,b,d,h=>by
  rw[uQ,bn] at h;obtain⟨e,g⟩:=h;simp only[zP,bn,dg] at e;obtain⟨i,j,k,l,m⟩:=e;obtain⟨f,o,q⟩:=zCI (r:=r) (pre:=pre++[x]) (RS b k) (λy a=>d y (cu _ a)) g;rw[gf] at f;refine⟨f,λy a=>?_,λy a=>?_⟩
  .rcases bx.1 a with rfl|a
   .exact⟨by simpa using i,j,l,d y cz⟩
   .exact o y a
  .rcases bx.1 a with rfl|a
   .exact m
   .exact q y a
def zQk{t:Bl}(b:∀x∈t,x.n.t<18446744073709551616)(h:zEp t=true):OkT t:=by
 unfold zEp at h;rw[bn,ew] at h;obtain⟨c,f⟩:=h;obtain⟨a,d,e⟩:=zCI (pre:=[]) List.Pairwise.nil b c;rw[e9] at a;exact⟨⟨a,d,qd⟩,e⟩
def zQj{t:Bl}(h:OkT t):zEp t=true:=by
 have c:∀n k,t.length-k<=n->k<=t.length->uQ t (t.take k) (t.drop k)=true:=by
  intro n
  induction n with
  | zero =>
   intro k f g;rw[cw qd];rfl
  | succ n i =>
   intro k f g;by_cases a:k<t.length
   .have j:=ay a;rw[ib a,uQ];have e:=i (k+1) qd qd;rw[dm,j] at e;obtain⟨l,m,o,_⟩:=h.its _ (ch a);have q:=h.par _ (ch a);have r:kW (t.take k) t[k].p=true:=by
     unfold kW;by_cases b:0<k
     .rw[nW b qd,ay qd];exact gg.1 h.srt (k-1) k qd a qd
     .have:k=0:=qd
      subst this;rfl
    have d:(t[k].p == [])=false:=by simpa using l
    rw[zP,d,m,r,o,q];exact e
   .rw[cw qd];rfl
 have b:=c _ 0 (bg _) (bc _);have s:=h.len;simp only[lu,j9] at b;rw[zEp,b,cy];exact df qd
def zEz{t:Bl}(a:∀x∈t,x.n.t<18446744073709551616):lC t=zEp t:=by
 cases h:zEp t
 .cases b:lC t
  .rfl
  .rw[zQj (GR a b)] at h;cases h
 .exact YG (zQk a h)
def Rd.take(r:Rd):Nd × Bool:=if r.node.2.l || !aO r.node.1 then (⟨0,0,0,[]⟩,false) else (r.node.1,true)
def zTj(c:Ch):Bool :=
 !(c.p == []) && (bZ c.p && ((cH c.o nd0 || aO c.o) && ((cH c.n nd0 || aO c.n) && (!(cH c.o nd0 && cH c.n nd0) && (!(!cH c.o nd0 && (!cH c.n nd0 && cH c.o c.n)) && c.k==BL c.o c.n (!cH c.o nd0) (!cH c.n nd0))))))
def wG:Option Ba->Bh->Bool
 | _,[]=>true
 | q,c::l=>zTj c && pV q c.p && wG (some c.p) l
def zKm{n:Nd}(h:nQ n=true):n=nd0:=by
 unfold nQ at h;simp only[bn,dq] at h;obtain⟨⟨⟨a,b⟩,c⟩,f⟩:=h;have e:n.d=[]:=j0 (by simpa using f);cases n;simp only at a b c e;subst a b c e;rfl
def zDb{x:Nat}(h:bL x=0):x=0:=by
 unfold bL at h;split at h
 .exact absurd h qh
 .exact h
def ZB(n:Nd):cH n nd0=nQ n:=by
 rw[gi];constructor
 .intro h;unfold cH at h;simp only[bn,dq] at h;obtain⟨⟨⟨a,b⟩,c⟩,d⟩:=h;have e:bL n.t=0:=d.trans qh;have f:=zDb e;unfold nQ;rw[a,b,c,f];rfl
 .intro h;rw[zKm h];exact dK nd0
def zCL{n:Nd}(h:aO n=true):nQ n=false:=by
 cases a:nQ n
 .rfl
 .rw[zKm a] at h;exact absurd h qh
def zMq{c:Ch}(i:c.o.wf)(j:c.n.wf):zMp c=zTj c:=by
 unfold zMp zTj;rw[ZB,ZB];have l:=mY i j;cases q:(c.p == [])
 .cases r:bZ c.p
  .simp
  .cases a:nQ c.o<;>cases b:nQ c.n<;>cases m:aO c.o<;>cases rn:aO c.n
   all_goals first|(rw[zCL m] at a;cases a;done)|(rw[zCL rn] at b;cases b;done)|skip
   all_goals simp only[bh,br,cy,gp,dp,gz,e8,dw,ej,dn,BL,az,av,ax]
   all_goals (unfold xI;rw[l];cases d:(c.k==1)<;>cases e:(c.k==2))
   all_goals first
    | (have f:=eq_of_beq d;have g:=eq_of_beq e;omega)
    | (have f:=eq_of_beq d;simp[f];done)
    | (have g:=eq_of_beq e;simp[g];done)
    | skip
   all_goals simp only[bh,br,cy,gp,dp,gz,e8,dw,ej,dn,az,av,ax]
   all_goals first
    | (rename_i h;done)
    | skip
   all_goals (cases s:cH c.o c.n<;>simp only[az,av,ax,bh,br,cy,dp])
   all_goals first
    | (rw[gi];simp only[bn,dq,dg,ji];constructor<;>(intro h;(repeat' split at h)<;>(try split)<;>simp_all;try omega))
    | skip
 .simp
def LR:∀{l:Bh} {q:Option Ba},(∀c∈l,c.o.wf/\c.n.wf)->gV q l=wG q l
 | [],_,_=>rfl
 | c::l,q,h=>by
  rw[gV,wG,zMq (h c cz).1 (h c cz).2,LR λd a=>h d (cu _ a)]
def gU(l:Bh):Bool:=gV none l
def zI2(l:Bh):Bool:=wG none l
def GQ{l:Bh}(h:∀c∈l,c.o.wf/\c.n.wf):gU l=zI2 l:=LR h
end Go.Dm
end
end
section
namespace Go.Dm
open Go
def MI(x y:It):Bool:=x.p==y.p && uX x.n y.n
def jB:Bl->Bl->Bool
 | [],[]=>true
 | x::a,y::b=>MI x y && jB a b
 | _,_=>false
def zBx{a b:Bl}{k:Nat}{x y:It}(c:a[k]?=some x)(d:b[k]?=some y):jB (a.drop k) (b.drop k)=(MI x y && jB (a.drop (k+1)) (b.drop (k+1))):=by
 obtain⟨e,rfl⟩:=bz.1 c;obtain⟨f,rfl⟩:=bz.1 d;rw[ib e,ib f,jB]
def ML:∀{a b:Bl},a.length≠b.length->jB a b=false
 | [],[],h=>absurd rfl h
 | [],_::_,_=>rfl
 | _::_,[],_=>rfl
 | x::a,y::b,h=>by
  rw[jB,ML (a:=a) (b:=b) λe=>h (by simp[e]),gz]
def GY:∀{a:Bl},(∀x∈a,x.n.wf)->jB a a=true
 | [],_=>rfl
 | x::a,h=>by
  rw[jB,GY λy b=>h y (cu _ b),MI,zA8 (h x cz)];simp
def LM(n:Nd):Prop:=n.wf/\bL n.t=n.t
def iV{n:Nd}(h:aO n=true)(a:n.wf):LM n:=by
 refine⟨a,?_⟩;unfold aO at h;simp only[bn,dg,ij,ik] at h;obtain⟨⟨⟨_,_⟩,b⟩,_⟩:=h;rw[kd,XT a,dq] at b;exact b
def zD4{x y:Nd}(b:LM x)(c:LM y)(h:uX x y=true):x=y:=by
 rw[mY b.1 c.1] at h;unfold cH at h;simp only[bn,dq] at h;obtain⟨⟨⟨d,e⟩,f⟩,a⟩:=h;rw[b.2,c.2] at a;cases x;cases y;simp only at d e f a;subst d e f a;rfl
def ZA:∀{a b:Bl},(∀x∈a,LM x.n)->(∀x∈b,LM x.n)->jB a b=true->a=b
 | [],[],_,_,_=>rfl
 | [],_::_,_,_,h=>by cases h
 | _::_,[],_,_,h=>by cases h
 | x::a,y::b,d,e,h=>by
  rw[jB,bn,MI,bn,dq] at h;obtain⟨⟨f,i⟩,j⟩:=h;have g:=zD4 (d x cz) (e y cz) i;have k:=ZA (λz c=>d z (cu _ c)) (λz c=>e z (cu _ c)) j;cases x;cases y;simp only at f g;subst f g k;rfl
def OkT.plain{t:Bl}(h:OkT t):∀x∈t,LM x.n:=λx a=>by
 obtain⟨_,_,b,c⟩:=h.its x a;exact iV b c
def nU(l:Bh):Nat->Option Ba
 | 0=>none
 | k+1=>(l[k]?).map Ch.p
def pU{l:Bh}{k:Nat}{x:Ch}(h:l[k]?=some x):nU l (k+1)=some x.p:=by rw[nU,h];rfl
def zOS(a b:Ba):decide (HP a b<=0) = !cC b a:=by
 unfold HP;cases h:cC b a
 .cases c:cC a b
  .have e:=fM c h;subst e;simp
  .simp
 .rw[fL h];cases d:(a==b)
  .simp
  .rw[eq_of_beq d,cD] at h;cases h
end Go.Dm
end
