/- Part 41 of roomPlays_card. No condition. -/
import Derived.Test.YtfcindonokhbeaaGreatDoorP34
import Derived.Test.YtfcindonokhbeaaGreatDoorP24
import Derived.Test.YtfcindonokhbeaaGreatDoorP30
set_option linter.all false
set_option maxRecDepth 100000
set_option maxHeartbeats 0
section
namespace Go.Proofs.YtfcindonokhbeaaGreatDoor
open Go Go.Dm Go.Proofs Go.Proofs.Tryz
section
abbrev plc(t:Bl)(p:Ba)(is:Bool)(k m:Int)(tt:Nat)(d:Ba):Bf:=[.p (.sl 5 (aP t)),.p (.s p),.p (.b is),.p (.i .i64 k),.p (.i .i64 m),.p (.f tt),.p (.sl 1 (bS d))]
abbrev clc(k:Int)(p q:Ba)(m:Int)(tt:Nat)(a n:Int)(d:Ba):Bf:=[.p (.i .i64 k),.p (.s p),.p (.s q),.p (.i .i64 m),.p (.f tt),.p (.i .i64 a),.p (.i .i64 n),.p (.sl 1 (bS d))]
abbrev anc(e:Int)(k m:Int)(tt:Nat)(d b:Ba)(l:List Ba):Bf:=[.p (.i .i64 e),.p (.i .i64 k),.p (.i .i64 m),.p (.f tt),.p (.sl 1 (bS d)),.p (.sl 1 (bS b)),.p (.sl 1 (Go.Dm.encS l))]
def zFa{k:Int}:ag 51 [.c (.p (.i .i64 k))] (.c (.p (.b (jX k)))):=by
 unfold jX;refine aa func51 λa e=>?_
 repeat' (first|exact⟨⟩|refine sp ?_|with_reducible refine aY (λ_=>?_) (λ_=>?_))
 all_goals first|(simp_all;done)|(simp_all;rfl)
def zHq{k:Int}:ag 98 [.c (.p (.i .i64 k))] (.c (.p (.b (gN k)))):=by
 unfold gN;refine aa func98 λa e=>?_
 repeat' (first|exact⟨⟩|refine sp ?_|with_reducible refine aH (λ_=>?_) (λ_=>?_))
 all_goals simp_all
def gX{m:Int}:ag 234 [.c (.p (.i .i64 m))] (.c (.p (.b (nF m)))):=by
 unfold nF;refine aa func234 λa e=>?_
 repeat' (first|exact⟨⟩|refine sp ?_|with_reducible refine aY (λ_=>?_) (λ_=>?_))
 all_goals simp_all
section places
variable {t:Bl}{p:Ba}{is:Bool}{k m:Int}{tt:Nat}{d:Ba}
theorem nG:ag 237 [.agg (plc t p is k m tt d)] (.c (.p (.b (p == [])))):=by
 refine aa func237 λa e=>?_
 repeat' (first|exact⟨⟩|refine sp ?_)
theorem eS:ag 176 [.agg (plc t p is k m tt d)] (.c (.p (.b (is && k==2)))):=by
 refine aa func176 λa e=>?_
 repeat' (first|exact⟨⟩|refine sp ?_|with_reducible refine aY (λ_=>?_) (λ_=>?_))
 all_goals simp_all
theorem kJ{k' m':Int}{tt':Nat}{d':Ba}(h:OkT t)(b:p.length<=1000000000)(e:d'.length<=140737488355328)(f:tt'<18446744073709551616):
  ag 236 [.agg (plc t p is k m tt d),.agg (ndc k' m' tt' d')] (.tup [.c (.p (.sl 5 (aP (vB t p ⟨k',m',tt',d'⟩).1))),.c (.p (.i .i64 (vB t p ⟨k',m',tt',d'⟩).2))]):=by
 have a:=zTP (p:=p) (k:=k') (m:=m') (d:=d') h b e f;refine aa func236 λg j=>?_
 repeat' (first|exact⟨⟩|refine sp ?_|refine uN a ?_)
theorem zOa:ag 182 [.agg (plc t p is k m tt d)] (.c (.p (.i .i64 (zC is ⟨k,m,tt,d⟩)))):=by
 unfold zC zBZ;cases is
 ·
  refine aa func182 λa b=>?_
  repeat' (first|exact⟨⟩|refine sq ?_)
  all_goals rfl
 .cases e:(k==2)
  ·
   refine aa func182 λa b=>?_
   repeat' (first|exact⟨⟩|refine sq ?_|refine uF eS ?_)
  ·
   refine aa func182 λa b=>?_
   repeat' (first|exact⟨⟩|refine sq ?_|refine uF eS ?_)
theorem zUi(h:OkT t)(l:p.length<=1000000000):ag 99 [.c (.p (.sl 5 (aP t))),.c (.p (.s p)),.c (.p (.b is))] (.agg (plc t p is (bK t p).k (bK t p).m (bK t p).t (bK t p).d)):=by
 have e:=h.len;have a:=gF (t:=t) (p:=p) qd h.srt h.ne λx f=>bj (h.dlen x f) qh;refine aG ?_;unfold bK;generalize (aN t p).getD nd0=n at a ⊢;generalize (aN t p).isSome=b at a;obtain⟨k,m,tt,d⟩:=n;cases g:(p == [])
 ·
  refine aa func99 λi j=>?_
  repeat' (first|exact⟨⟩|refine sp ?_|refine uN a ?_)
 ·
  refine aa func99 λi j=>?_
  repeat' (first|exact⟨⟩|refine sp ?_|refine uN a ?_)
  all_goals exact .inr ⟨_,rfl⟩
end places
end
section
def zDh{a b:Ba}(e:a.length<=100000)(f:b.length<=100000):
  aA prog 241 [.c (.p (.sl 1 [[.sl 1 (bS a)],[.sl 1 (bS b)]]))] [] λr h=>r=.c (.own 0 0 (a.length+b.length))/\h=[.arr 1 (bS (a++b)) false]:=by
 have g:IntKind.i64.wrap ((a.length:Int))=a.length:=wrap_i64 qd qd;have i:IntKind.i64.wrap ((a.length:Int)+b.length)=((a.length+b.length:Nat):Int):=by rw[wrap_i64 qd qd];omega
 have j:=aj a.length 0;have l:decide (((a.length+b.length:Nat):Int)<0)=false:=er qd;refine zTy aC aI func241 rfl rfl λo q=>?_;simp only[f241,go_sem]
 repeat' (first|simp only[*,go_sem,Nat.reduceLT,Nat.reduceLeDiff,Nat.reduceEqDiff,↓reduceIte,Nat.reduceAdd,Int.reduceLT,Int.reduceLE,Int.reduceAdd,Int.reduceNeg,Int.reduceToNat,lj]|refine eH aC aI 3 ?_|refine zDN (n:=a.length+b.length) qd ?_|((with_reducible refine And.intro ?_ ?_);omega))
 all_goals exact⟨rfl,bc _,rfl,_,_,rfl,rfl,rfl⟩
section places
variable {t:Bl}{p:Ba}{is:Bool}{k m:Int}{tt:Nat}{d:Ba}
theorem zSj{kind ck:Int}{cp cq:Ba}{cm:Int}{ct:Nat}{ca cn:Int}{cd:Ba}(h:OkT t)(u:p.length<=1000000000)(y:cd.length<=140737488355328)(z:ct<18446744073709551616)(o:kind=1∨kind=2∨kind=3):
  ag 178 [.agg (plc t p is k m tt d),.c (.p (.i .i64 kind)),.agg (clc ck cp cq cm ct ca cn cd)] (.tup [.c (.p (.sl 5 (aP (BM t p is kind ⟨ck,cp,cq,cm,ct,ca,cn,cd⟩).1))),.c (.p (.i .i64 (BM t p is kind ⟨ck,cp,cq,cm,ct,ca,cn,cd⟩).2))]):=by
 refine aG ?_;have v:=tI z;have A:decide (0<=Lib.indexByte cd (Nat.toUInt8 0)) = !(cd.all λb=>!(b==0)):=by
  have:=indexByte_none 0 cd;rw[<- this,<- lp];exact nj.2 (by rw[Int.not_lt];exact Iff.rfl)
 unfold BM zP1;rcases o with rfl|rfl|rfl
 .have a:=kJ (is:=is) (k:=k) (m:=m) (tt:=tt) (d:=d) (k':=1) (m':=cm) (tt':=bL ct) (d':=cd) h u y v;generalize s:vB t p ⟨1,cm,bL ct,cd⟩=P at a;have e:vB t p ⟨1,if ((1:Int)==3)=true then 511 else cm,bL ct,if ((1:Int)==2)=true then [] else cd⟩=P:=s;rw[e];cases is
  .cases w:nF cm
   ·
    refine aa func178 λg j=>?_
    repeat' (first|exact⟨⟩|refine sq ?_|((refine aK (id:=1) aC aI [7,8] [7,0,1,2,3,4,5,6,8] qi ?_);(repeat' (first|(refine aM ?_)|((refine bJ ?_ ?_ rfl rfl rfl ?_ ?_);(rotate_left 2);(focus ((repeat' (first|exact⟨⟩|refine sp ?_));((refine And.intro ?_ ?_<;>exact rfl))));(simp only[aD,aQ]))|((refine bI ?_ rfl rfl rfl ?_ ?_);(rotate_left 1);(focus ((repeat' (first|exact aS|refine aL ?_ ?_));(all_goals ((repeat' (first|exact⟨⟩|refine sp ?_|refine uF (dJ ct) ?_));(try (exact rfl))))));(simp only[aD])))))|refine uF gX ?_)
    all_goals exact .inr ⟨_,rfl⟩
   .cases B:decide ((2000:Int)<(cd.length:Int))
    ·
     refine aa func178 λg j=>?_
     repeat' (first|exact⟨⟩|refine sq ?_|((refine aK (id:=1) aC aI [7,8] [7,0,1,2,3,4,5,6,8] qi ?_);(repeat' (first|(refine aM ?_)|((refine bJ ?_ ?_ rfl rfl rfl ?_ ?_);(rotate_left 2);(focus ((repeat' (first|exact⟨⟩|refine sp ?_));((refine And.intro ?_ ?_<;>exact rfl))));(simp only[aD,aQ]))|((refine bI ?_ rfl rfl rfl ?_ ?_);(rotate_left 1);(focus ((repeat' (first|exact aS|refine aL ?_ ?_));(all_goals ((repeat' (first|exact⟨⟩|refine sp ?_|refine uF (dJ ct) ?_));(try (exact rfl))))));(simp only[aD])))))|refine uF gX ?_|refine uN a ?_)
    ·
     refine aa func178 λg j=>?_
     repeat' (first|exact⟨⟩|refine sq ?_|((refine aK (id:=1) aC aI [7,8] [7,0,1,2,3,4,5,6,8] qi ?_);(repeat' (first|(refine aM ?_)|((refine bJ ?_ ?_ rfl rfl rfl ?_ ?_);(rotate_left 2);(focus ((repeat' (first|exact⟨⟩|refine sp ?_));((refine And.intro ?_ ?_<;>exact rfl))));(simp only[aD,aQ]))|((refine bI ?_ rfl rfl rfl ?_ ?_);(rotate_left 1);(focus ((repeat' (first|exact aS|refine aL ?_ ?_));(all_goals ((repeat' (first|exact⟨⟩|refine sp ?_|refine uF (dJ ct) ?_));(try (exact rfl))))));(simp only[aD])))))|refine uF gX ?_)
     all_goals exact .inr ⟨_,rfl⟩
  ·
   refine aa func178 λg j=>?_
   repeat' (first|exact⟨⟩|refine sp ?_|((refine aK (id:=1) aC aI [7,8] [7,0,1,2,3,4,5,6,8] qi ?_);(repeat' (first|(refine aM ?_)|((refine bJ ?_ ?_ rfl rfl rfl ?_ ?_);(rotate_left 2);(focus ((repeat' (first|exact⟨⟩|refine sp ?_));((refine And.intro ?_ ?_<;>exact rfl))));(simp only[aD,aQ]))|((refine bI ?_ rfl rfl rfl ?_ ?_);(rotate_left 1);(focus ((repeat' (first|exact aS|refine aL ?_ ?_));(all_goals ((repeat' (first|exact⟨⟩|refine sp ?_|refine uF (dJ ct) ?_));(try (exact rfl))))));(simp only[aD]))))))
   all_goals exact .inr ⟨_,rfl⟩
 .have a:=kJ (is:=is) (k:=k) (m:=m) (tt:=tt) (d:=d) (k':=2) (m':=cm) (tt':=bL ct) (d':=[]) h u ql v;generalize s:vB t p ⟨2,cm,bL ct,[]⟩=P at a;have e:vB t p ⟨2,if ((2:Int)==3)=true then 511 else cm,bL ct,if ((2:Int)==2)=true then [] else cd⟩=P:=s;rw[e];have a:ag 236 [.agg (plc t p is k m tt d),.agg [.p (.i .i64 2),.p (.i .i64 cm),.p (.f (bL ct)),.p .nil]] (.tup [.c (.p (.sl 5 (aP P.1))),.c (.p (.i .i64 P.2))]):=by
   refine aA.wkargs ?_ a;simp[zKh,wkD,zE7,wkC,wkP,jJ]
  cases is
  .cases w:nF cm
   ·
    refine aa func178 λg j=>?_
    repeat' (first|exact⟨⟩|refine sq ?_|((refine aK (id:=1) aC aI [7,8] [7,0,1,2,3,4,5,6,8] qi ?_);(repeat' (first|(refine aM ?_)|((refine bJ ?_ ?_ rfl rfl rfl ?_ ?_);(rotate_left 2);(focus ((repeat' (first|exact⟨⟩|refine sp ?_));((refine And.intro ?_ ?_<;>exact rfl))));(simp only[aD,aQ]))|((refine bI ?_ rfl rfl rfl ?_ ?_);(rotate_left 1);(focus ((repeat' (first|exact aS|refine aL ?_ ?_));(all_goals ((repeat' (first|exact⟨⟩|refine sp ?_|refine uF (dJ ct) ?_));(try (exact rfl))))));(simp only[aD])))))|refine uF gX ?_)
    all_goals exact .inr ⟨_,rfl⟩
   ·
    refine aa func178 λg j=>?_
    repeat' (first|exact⟨⟩|refine sq ?_|((refine aK (id:=1) aC aI [7,8] [7,0,1,2,3,4,5,6,8] qi ?_);(repeat' (first|(refine aM ?_)|((refine bJ ?_ ?_ rfl rfl rfl ?_ ?_);(rotate_left 2);(focus ((repeat' (first|exact⟨⟩|refine sp ?_));((refine And.intro ?_ ?_<;>exact rfl))));(simp only[aD,aQ]))|((refine bI ?_ rfl rfl rfl ?_ ?_);(rotate_left 1);(focus ((repeat' (first|exact aS|refine aL ?_ ?_));(all_goals ((repeat' (first|exact⟨⟩|refine sp ?_|refine uF (dJ ct) ?_));(try (exact rfl))))));(simp only[aD])))))|refine uF gX ?_|refine uN a ?_)
  ·
   refine aa func178 λg j=>?_
   repeat' (first|exact⟨⟩|refine sp ?_|((refine aK (id:=1) aC aI [7,8] [7,0,1,2,3,4,5,6,8] qi ?_);(repeat' (first|(refine aM ?_)|((refine bJ ?_ ?_ rfl rfl rfl ?_ ?_);(rotate_left 2);(focus ((repeat' (first|exact⟨⟩|refine sp ?_));((refine And.intro ?_ ?_<;>exact rfl))));(simp only[aD,aQ]))|((refine bI ?_ rfl rfl rfl ?_ ?_);(rotate_left 1);(focus ((repeat' (first|exact aS|refine aL ?_ ?_));(all_goals ((repeat' (first|exact⟨⟩|refine sp ?_|refine uF (dJ ct) ?_));(try (exact rfl))))));(simp only[aD]))))))
   all_goals exact .inr ⟨_,rfl⟩
 .have a:=kJ (is:=is) (k:=k) (m:=m) (tt:=tt) (d:=d) (k':=3) (m':=511) (tt':=bL ct) (d':=cd) h u y v;generalize s:vB t p ⟨3,511,bL ct,cd⟩=P at a;have e:vB t p ⟨3,if ((3:Int)==3)=true then 511 else cm,bL ct,if ((3:Int)==2)=true then [] else cd⟩=P:=s;rw[e];have w:nF 511=true:=rfl;have n:=gX (m:=511);rw[w] at n;cases is
  .cases cd with
   | nil =>
    refine aa func178 λg j=>?_
    repeat' (first|exact⟨⟩|refine sq ?_|((refine aK (id:=1) aC aI [7,8] [7,0,1,2,3,4,5,6,8] qi ?_);(repeat' (first|(refine aM ?_)|((refine bJ ?_ ?_ rfl rfl rfl ?_ ?_);(rotate_left 2);(focus ((repeat' (first|exact⟨⟩|refine sp ?_));((refine And.intro ?_ ?_<;>exact rfl))));(simp only[aD,aQ]))|((refine bI ?_ rfl rfl rfl ?_ ?_);(rotate_left 1);(focus ((repeat' (first|exact aS|refine aL ?_ ?_));(all_goals ((repeat' (first|exact⟨⟩|refine sp ?_|refine uF (dJ ct) ?_));(try (exact rfl))))));(simp only[aD])))))|refine uF n ?_)
    all_goals exact .inr ⟨_,rfl⟩
   | cons x l =>
    have C:decide (((l.length+1:Nat):Int)<1)=false:=er qd;have r:=qZ (d:=x::l) (c:=0) ql;rw[show Int.toNat 0=0 from rfl] at r
    cases B:decide ((120:Int)<((l.length+1:Nat):Int))
    .generalize ((x::l).all λb=>!(b==0))=q at A ⊢;cases q
     ·
      refine aa func178 λg j=>?_
      repeat' (first|exact⟨⟩|refine sq ?_|((refine aK (id:=1) aC aI [7,8] [7,0,1,2,3,4,5,6,8] qi ?_);(repeat' (first|(refine aM ?_)|((refine bJ ?_ ?_ rfl rfl rfl ?_ ?_);(rotate_left 2);(focus ((repeat' (first|exact⟨⟩|refine sp ?_));((refine And.intro ?_ ?_<;>exact rfl))));(simp only[aD,aQ]))|((refine bI ?_ rfl rfl rfl ?_ ?_);(rotate_left 1);(focus ((repeat' (first|exact aS|refine aL ?_ ?_));(all_goals ((repeat' (first|exact⟨⟩|refine sp ?_|refine uF (dJ ct) ?_));(try (exact rfl))))));(simp only[aD])))))|refine uF n ?_|refine uF r ?_)
      all_goals exact .inr ⟨_,rfl⟩
     ·
      refine aa func178 λg j=>?_
      repeat' (first|exact⟨⟩|refine sq ?_|((refine aK (id:=1) aC aI [7,8] [7,0,1,2,3,4,5,6,8] qi ?_);(repeat' (first|(refine aM ?_)|((refine bJ ?_ ?_ rfl rfl rfl ?_ ?_);(rotate_left 2);(focus ((repeat' (first|exact⟨⟩|refine sp ?_));((refine And.intro ?_ ?_<;>exact rfl))));(simp only[aD,aQ]))|((refine bI ?_ rfl rfl rfl ?_ ?_);(rotate_left 1);(focus ((repeat' (first|exact aS|refine aL ?_ ?_));(all_goals ((repeat' (first|exact⟨⟩|refine sp ?_|refine uF (dJ ct) ?_));(try (exact rfl))))));(simp only[aD])))))|refine uF n ?_|refine uF r ?_|refine uN a ?_)
    ·
     refine aa func178 λg j=>?_
     repeat' (first|exact⟨⟩|refine sq ?_|((refine aK (id:=1) aC aI [7,8] [7,0,1,2,3,4,5,6,8] qi ?_);(repeat' (first|(refine aM ?_)|((refine bJ ?_ ?_ rfl rfl rfl ?_ ?_);(rotate_left 2);(focus ((repeat' (first|exact⟨⟩|refine sp ?_));((refine And.intro ?_ ?_<;>exact rfl))));(simp only[aD,aQ]))|((refine bI ?_ rfl rfl rfl ?_ ?_);(rotate_left 1);(focus ((repeat' (first|exact aS|refine aL ?_ ?_));(all_goals ((repeat' (first|exact⟨⟩|refine sp ?_|refine uF (dJ ct) ?_));(try (exact rfl))))));(simp only[aD])))))|refine uF n ?_)
     all_goals exact .inr ⟨_,rfl⟩
  ·
   refine aa func178 λg j=>?_
   repeat' (first|exact⟨⟩|refine sp ?_|((refine aK (id:=1) aC aI [7,8] [7,0,1,2,3,4,5,6,8] qi ?_);(repeat' (first|(refine aM ?_)|((refine bJ ?_ ?_ rfl rfl rfl ?_ ?_);(rotate_left 2);(focus ((repeat' (first|exact⟨⟩|refine sp ?_));((refine And.intro ?_ ?_<;>exact rfl))));(simp only[aD,aQ]))|((refine bI ?_ rfl rfl rfl ?_ ?_);(rotate_left 1);(focus ((repeat' (first|exact aS|refine aL ?_ ?_));(all_goals ((repeat' (first|exact⟨⟩|refine sp ?_|refine uF (dJ ct) ?_));(try (exact rfl))))));(simp only[aD]))))))
   all_goals exact .inr ⟨_,rfl⟩
end places
end
def goC(p:Ba)(it:Bool)(x:It):Bool:=x.p==p || (it && aT p x.p)
def PD{J:Bc}{t:Bl}{k:Nat}{x:It}(h:t[k]?=some x):(aP t++J).getD k []=[.s x.p,.i .i64 x.n.k,.i .i64 x.n.m,.f x.n.t,.sl 1 (bS x.n.d)]:=by
 have a:=(bz.1 h).1;have:=bX h;rw[ed] at this ⊢;rw[fu (by rw[cV];exact a)];exact this
def VJ{J:Bc}{t:Bl}{i:Nat}(x:It)(h:i<t.length):(aP t++J).set i [.s x.p,.i .i64 x.n.k,.i .i64 x.n.m,.f x.n.t,.sl 1 (bS x.n.d)]=aP (t.set i x)++J:=by
 rw[ow _ _ (by rw[cV];exact h),xD]
def zT1{R f:Bl}{i:Nat}{es:Bc}{A:Bc}(h:R.take i=f)(a:f.length=i)(hi:i<=R.length):((aP R++A).take i++es).take i=aP f:=by
 rw[ka (by rw[cr,bo,cV];omega),List.take_append_of_le_length (by rw[cV];exact hi),EI,h]
def zOk{q p:Ba}{it eo:Bool}{a nk nm:Int}{nt:Nat}{nd:Ba}{k m:Int}{tt:Nat}{d:Ba}{es:Bc}(e:p.length<=1000000000):
  aA prog 350 [.agg [.p (.s q),.p (.i .i64 k),.p (.i .i64 m),.p (.f tt),.p (.sl 1 (bS d))],.c (.ptr 2 0),.c (.ptr 3 0)] [.arr 5 es false,.box [.p (.s p),.p (.i .i64 a),.p (.b eo),.p (.i .i64 nk),.p (.i .i64 nm),.p (.f nt),.p (.sl 1 (bS nd))],.box [.p (.s p),.p (.i .i64 a),.p (.b eo),.p (.i .i64 nk),.p (.i .i64 nm),.p (.f nt),.p (.sl 1 (bS nd))],.box [.p (.b it)]]
   λr h=>r=.c (.p (.b (q==p || (it && aT p q))))/\h=[.arr 5 es false,.box [.p (.s p),.p (.i .i64 a),.p (.b eo),.p (.i .i64 nk),.p (.i .i64 nm),.p (.f nt),.p (.sl 1 (bS nd))],.box [.p (.s p),.p (.i .i64 a),.p (.b eo),.p (.i .i64 nk),.p (.i .i64 nm),.p (.f nt),.p (.sl 1 (bS nd))],.box [.p (.b it)]]:=by
 refine aa func350 λg j=>?_
 repeat' (first|simp only[*,go_sem,Nat.reduceLT,Nat.reduceEqDiff,↓reduceIte,Nat.reduceAdd,cG,aX]|refine uF (dE e) ?_|refine aY (λ_=>?_) (λ_=>?_))
 all_goals simp_all
def zOl{q p:Ba}{it eo:Bool}{a nk nm:Int}{nt:Nat}{nd:Ba}{k m:Int}{tt:Nat}{d:Ba}{es:Bc}(e:p.length<=1000000000):
  aA prog 350 [.agg [.p (.s q),.p (.i .i64 k),.p (.i .i64 m),.p (.f tt),.p (.sl 1 (bS d))],.c (.ptr 2 0),.c (.ptr 3 0)] [.arr 5 es false,.box [.p (.s p),.p (.i .i64 a),.p (.b eo),.p (.i .i64 nk),.p (.i .i64 nm),.p (.f nt),.p (.sl 1 (bS nd))],.box [.p (.s p),.p (.i .i64 a),.p (.b eo),.p (.i .i64 nk),.p (.i .i64 nm),.p (.f nt),.p (.sl 1 (bS nd))],.box [.p (.b it)],.box [.p (.s q),.p (.i .i64 k),.p (.i .i64 m),.p (.f tt),.p (.sl 1 (bS d))]]
   λr h=>r=.c (.p (.b (q==p || (it && aT p q))))/\h=[.arr 5 es false,.box [.p (.s p),.p (.i .i64 a),.p (.b eo),.p (.i .i64 nk),.p (.i .i64 nm),.p (.f nt),.p (.sl 1 (bS nd))],.box [.p (.s p),.p (.i .i64 a),.p (.b eo),.p (.i .i64 nk),.p (.i .i64 nm),.p (.f nt),.p (.sl 1 (bS nd))],.box [.p (.b it)],.box [.p (.s q),.p (.i .i64 k),.p (.i .i64 m),.p (.f tt),.p (.sl 1 (bS d))]]:=by
 refine aa func350 λg j=>?_
 repeat' (first|simp only[*,go_sem,Nat.reduceLT,Nat.reduceEqDiff,↓reduceIte,Nat.reduceAdd,cG,aX]|refine uF (dE e) ?_|refine aY (λ_=>?_) (λ_=>?_))
 all_goals simp_all
def zIA{J:Bc}{t:Bl}{p:Ba}{it eo:Bool}{d nk nm:Int}{nt:Nat}{nd:Ba}(u:p.length<=1000000000)(B:t.length<=1000000):
  aA prog 344 [.c (.own 0 0 t.length),.c (.clo 350 [.ptr 2 0,.ptr 3 0])] [.arr 5 (aP t++J) false,.box [.p (.s p),.p (.i .i64 d),.p (.b eo),.p (.i .i64 nk),.p (.i .i64 nm),.p (.f nt),.p (.sl 1 (bS nd))],.box [.p (.s p),.p (.i .i64 d),.p (.b eo),.p (.i .i64 nk),.p (.i .i64 nm),.p (.f nt),.p (.sl 1 (bS nd))],.box [.p (.b it)]]
   λr h=>(∃i:Nat,i<=t.length/\(∀j x,t[j]?=some x->j<i->goC p it x=false)/\((∃x,t[i]?=some x/\goC p it x=true/\r=.c (.p (.i .i64 i)))∨(i=t.length/\r=.c (.p (.i .i64 (-1))))))/\h=[.arr 5 (aP t++J) false,.box [.p (.s p),.p (.i .i64 d),.p (.b eo),.p (.i .i64 nk),.p (.i .i64 nm),.p (.f nt),.p (.sl 1 (bS nd))],.box [.p (.s p),.p (.i .i64 d),.p (.b eo),.p (.i .i64 nk),.p (.i .i64 nm),.p (.f nt),.p (.sl 1 (bS nd))],.box [.p (.b it)]]:=by
 refine aa func344 λC hX=>?_
 repeat' (first|exact⟨⟩|refine sp ?_)
 refine aJ aC aI (α:=Nat) (λk=>⟨19,[(0,.c (.own 0 0 t.length)),(1,.c (.clo 350 [.ptr 2 0,.ptr 3 0])),(7,.c (.p (.i .i64 t.length))),(8,.c (.p (.i .i64 k)))],[.arr 5 (aP t++J) false,.box [.p (.s p),.p (.i .i64 d),.p (.b eo),.p (.i .i64 nk),.p (.i .i64 nm),.p (.f nt),.p (.sl 1 (bS nd))],.box [.p (.s p),.p (.i .i64 d),.p (.b eo),.p (.i .i64 nk),.p (.i .i64 nm),.p (.f nt),.p (.sl 1 (bS nd))],.box [.p (.b it)]]⟩)
  (λk=>k<=t.length/\∀j x,t[j]?=some x->j<k->goC p it x=false) (λk=>t.length-k) 0 ⟨bc _,λj x _ h=>by omega⟩ (.inl (aB qj rfl rfl wkS)) ?_
 rintro k ⟨v,l⟩;by_cases m:k<t.length
 .have e:=ay m;have w:=PD (J:=J) e;obtain⟨z,A,-,D⟩:=lk k t.length;generalize t[k]=x at e w;cases g:goC p it x
  .have n:k+1<=t.length/\∀j y,t[j]?=some y->j<k+1->goC p it y=false:=⟨qd,λj y o E=>by
    rcases cc j k with h|h
    .exact l j y o h
    .have:j=k:=qd
     subst this;rw[e] at o;cases o;exact g⟩
   have a:(x.p==p || (it && aT p x.p))=false:=g;clear l e g
   repeat' (first|exact⟨⟩|refine sp ?_|refine ai ?_)
   refine aA.mono (zOk u) ?_;rintro _ _ ⟨rfl,rfl⟩;rw[a]
   repeat' (first|exact⟨⟩|refine sp ?_)
   exact cW (k+1) n qd (aB rfl rfl rfl wkS)
  .have a:(x.p==p || (it && aT p x.p))=true:=g
   repeat' (first|exact⟨⟩|refine sp ?_|refine ai ?_)
   refine aA.mono (zOk u) ?_;rintro _ _ ⟨rfl,rfl⟩;rw[a];clear a
   repeat' (simp only[*,go_sem,Nat.reduceLT,Nat.reduceEqDiff,↓reduceIte,Int.reduceNeg,cG,aX])
   exact⟨k,v,l,.inl ⟨x,e,g,rfl⟩⟩
 .have z:=aj k t.length;have q:k=t.length:=qd
  subst q
  repeat' (simp only[*,go_sem,Nat.reduceLT,Nat.reduceEqDiff,↓reduceIte,Nat.reduceAdd,Int.reduceNeg,cG,aX])
  refine⟨t.length,bg _,l,.inr ?_⟩
  first|exact⟨rfl,rfl⟩|rfl
def LF{J:Bc}{t:Bl}{p:Ba}{it eo:Bool}{A nk nm:Int}{nt:Nat}{nd:Ba}{K:Bd}(I:p.length<=1000000000)(T:t.length<=1000000)
  (D:∀es:Bc,es.take (t.filter λx=>!goC p it x).length=aP (t.filter λx=>!goC p it x)->K (.c (.own 0 0 (t.filter λx=>!goC p it x).length)) [.arr 5 es false,.box [.p (.s p),.p (.i .i64 A),.p (.b eo),.p (.i .i64 nk),.p (.i .i64 nm),.p (.f nt),.p (.sl 1 (bS nd))],.box [.p (.s p),.p (.i .i64 A),.p (.b eo),.p (.i .i64 nk),.p (.i .i64 nm),.p (.f nt),.p (.sl 1 (bS nd))],.box [.p (.b it)]]):
  aA prog 313 [.c (.own 0 0 t.length),.c (.clo 350 [.ptr 2 0,.ptr 3 0])] [.arr 5 (aP t++J) false,.box [.p (.s p),.p (.i .i64 A),.p (.b eo),.p (.i .i64 nk),.p (.i .i64 nm),.p (.f nt),.p (.sl 1 (bS nd))],.box [.p (.s p),.p (.i .i64 A),.p (.b eo),.p (.i .i64 nk),.p (.i .i64 nm),.p (.f nt),.p (.sl 1 (bS nd))],.box [.p (.b it)]] K:=by
 refine VN aC aI func313 rfl rfl λX0 hX=>?_;simp only[f313,go_sem]
 repeat' (first|exact⟨⟩|refine sp ?_)
 refine aA.mono (zIA I T) ?_;rintro _ _ ⟨⟨i0,E,m,u⟩,rfl⟩;rcases u with⟨x0,v,F,rfl⟩|⟨rfl,rfl⟩
 .have n:i0<t.length:=(bz.1 v).1;have q:((i0:Int) == -1)=false:=by rw[ji];omega
  have U:IntKind.i64.wrap ((i0:Int)+1)=(i0+1:Nat):=wrap_i64 qd qd
  repeat' (first|exact⟨⟩|refine sp ?_)
  have a:(t.take i0).filter (λx=>!goC p it x)=t.take i0:=fw.2 λx o=>by
   obtain⟨j,B,rfl⟩:=ie.1 o;rw[km];have L:j<i0:=by simp at B;omega
   rw[m j _ (ay qd) L];rfl
  have Q:(t.take (i0+1)).filter (λx=>!goC p it x)=t.take i0:=by
   rw[fC v,a,F];simp
  refine aJ aC aI (α:=Nat × Nat × Bl) (λx=>⟨42,[(0,.c (.own 0 0 t.length)),(1,.c (.clo 350 [.ptr 2 0,.ptr 3 0])),(5,.c (.p (.i .i64 x.2.1))),(6,.c (.p (.i .i64 x.1)))],[.arr 5 (aP x.2.2++J) false,.box [.p (.s p),.p (.i .i64 A),.p (.b eo),.p (.i .i64 nk),.p (.i .i64 nm),.p (.f nt),.p (.sl 1 (bS nd))],.box [.p (.s p),.p (.i .i64 A),.p (.b eo),.p (.i .i64 nk),.p (.i .i64 nm),.p (.f nt),.p (.sl 1 (bS nd))],.box [.p (.b it)]]⟩)
   (λx=>x.1<=t.length/\x.2.1<x.1/\x.2.2.length=t.length/\x.2.2.take x.2.1=(t.take x.1).filter (λx=>!goC p it x)/\x.2.2.drop x.1=t.drop x.1) (λx=>t.length-x.1) (i0+1,i0,t)
   ⟨qd,ql,rfl,by rw[Q],rfl⟩ (.inl (aB qj rfl rfl wkS)) ?_
  clear a Q m v F q U n E;rintro⟨j,i,R⟩ ⟨B,G,w,d,l⟩;simp only at B G w d l;by_cases M:j<t.length
  .have o:=ay M;have r:R[j]?=some t[j]:=by
    have V:R[j]?=t[j]? := by
     have:=congrArg (·[0]?) l
     simpa[gu] using this
    exact V.trans o
   have W:=PD (J:=J) r;obtain⟨X,N,-⟩:=lk3 j t.length;have S:(i:Int)<(t.length:Int):=qd
   have w1:IntKind.i64.wrap ((j:Int)+1)=(j+1:Nat):=wrap_i64 qd qd;have w2:IntKind.i64.wrap ((i:Int)+1)=(i+1:Nat):=wrap_i64 qd qd;have e:=fC (g:=λx=>!goC p it x) o;generalize t[j]=x at o r W e;have h:R.drop (j+1)=t.drop (j+1):=by rw[<- kv,<- kv,l]
   cases C:goC p it x
   .rw [C] at e;have O:j+1<=t.length/\i+1<j+1/\(R.set i x).length=t.length/\(R.set i x).take (i+1)=(t.take (j+1)).filter (λx=>!goC p it x)/\(R.set i x).drop (j+1)=t.drop (j+1):=by
     refine⟨qd,qd,by simp[w],?_,?_⟩
     .rw[e,dm,j6 qd,od,pf ri,d];rfl
     .rw[List.drop_set,aw qd,h]
    have z:(x.p==p || (it && aT p x.p))=false:=C;have P:=PD (J:=J) (t:=R) (k:=i) (ay qd);have Y:=VJ (J:=J) (t:=R) (i:=i) x qd;have Z:(aP R++J).length=R.length+J.length:=by rw[bo,cV]
    generalize (R[i]' qd)=y at P;clear e d l h o r C
    repeat' (first|exact⟨⟩|refine sp ?_|refine ai ?_)
    refine aA.mono (zOl I) ?_;rintro _ _ ⟨rfl,rfl⟩;rw[z]
    repeat' (first|exact⟨⟩|refine sp ?_|refine ai ?_)
    exact cW (j+1,i+1,R.set i x) O qf (aB rfl (by rw[<- VJ (J:=J) (t:=R) (i:=i) x qd];rfl) rfl wkS)
   .rw[C] at e;have O:j+1<=t.length/\i<j+1/\R.length=t.length/\R.take i=(t.take (j+1)).filter (λx=>!goC p it x)/\R.drop (j+1)=t.drop (j+1):=⟨qd,qd,w,by rw[e,d];simp,h⟩
    have z:(x.p==p || (it && aT p x.p))=true:=C;clear e d l h o r C
    repeat' (first|exact⟨⟩|refine sp ?_|refine ai ?_)
    refine aA.mono (zOl I) ?_;rintro _ _ ⟨rfl,rfl⟩;rw[z]
    repeat' (first|exact⟨⟩|refine sp ?_)
    exact cW (j+1,i,R) O qf (aB rfl rfl rfl wkS)
  .have X:=aj j t.length;have H:t.take j=t:=bu qd;rw[H] at d;have n:(t.filter λx=>!goC p it x).length=i:=by
    rw[<- d,cr];omega
   have N:(i:Int)<=(t.length:Int):=qd
   have E:(0:Int)<=i:=qd
   have hni:i+(t.length-i)=R.length:=qd
   rw[n] at D;clear H l G
   repeat' (first|exact⟨⟩|refine sp ?_|refine ai ?_)
   all_goals first|refine D _ ?_|refine⟨qd,D _ ?_⟩
   all_goals exact zT1 d n qd
 .have a:t.filter (λx=>!goC p it x)=t:=fw.2 λx o=>by
   obtain⟨j,B,rfl⟩:=ie.1 o;rw[m j _ (ay B) B];rfl
  rw[a] at D;clear a
  repeat' (first|exact⟨⟩|refine sp ?_)
  all_goals exact D _ (by rw[ka (by rw[cV])])
section
section places
variable {t:Bl}{p:Ba}{is:Bool}{k m:Int}{tt:Nat}{d:Ba}
theorem zQV{n:Int}(h:OkT t)(j:p.length<=1000000000)(v:d.length<=2000)(l:tt<18446744073709551616):
  ag 184 [.agg (plc t p is k m tt d),.c (.p (.i .i64 n))] (.tup [.c (.p (.sl 5 (aP (HL t p ⟨k,m,tt,d⟩ n).1))),.c (.p (.i .i64 (HL t p ⟨k,m,tt,d⟩ n).2))]):=by
 refine aG ?_;unfold HL;simp only;cases o:decide (n<0)
 .obtain ⟨f,rfl⟩:∃f:Nat,n=f:=⟨n.toNat,by simp at o;omega⟩
  rw[ix];cases q:decide ((d.length:Int)<(f:Int))
  .have r:f<=d.length:=by simp at q;omega
   have s:(0:Int)<=(f:Int):=qd
   have u:(f:Int)<=(d.length:Int):=qd
   have b:(d.take f).length<=140737488355328:=by rw[cr];omega
   have a:=kJ (is:=is) (k:=k) (m:=m) (tt:=tt) (d:=d.take f) (k':=k) (m':=m) (tt':=tt) (d':=d.take f) h j b l;refine aa func184 λe g=>?_
   repeat' (first|exact⟨⟩|refine sp ?_|refine uN a ?_)
  ·
   refine aa func184 λe g=>?_
   repeat' (first|exact⟨⟩|refine sp ?_)
   all_goals exact .inr ⟨_,rfl⟩
 ·
  refine aa func184 λe g=>?_
  repeat' (first|exact⟨⟩|refine sp ?_)
  all_goals exact .inr ⟨_,rfl⟩
theorem zQ9{a:Int}{b:Ba}(h:OkT t)(x:p.length<=1000000000)(y:d.length<=2000)(z:tt<18446744073709551616)(H:-9223372036854775808<=a/\a<=9223372036854775807)(I:b.length<=140737488355328):
  ag 183 [.agg (plc t p is k m tt d),.c (.p (.i .i64 a)),.c (.p (.sl 1 (bS b)))] (.tup [.c (.p (.sl 5 (aP (yN t p ⟨k,m,tt,d⟩ a b).1))),.c (.p (.i .i64 (yN t p ⟨k,m,tt,d⟩ a b).2))]):=by
 refine aG ?_;unfold yN;simp only;cases A:decide (a<0)
 .obtain ⟨f,rfl⟩:∃f:Nat,a=f:=⟨a.toNat,by simp at A;omega⟩
  rw[ix];cases B:decide ((d.length:Int)<(f:Int))
  .have q:f<=d.length:=by simp at B;omega
   have C:(0:Int)<=(f:Int):=qd
   have D:(f:Int)<=(d.length:Int):=qd
   have J:IntKind.i64.wrap (2000-(f:Int))=2000-(f:Int):=wrap_i64 qd qd;cases E:decide (2000-(f:Int)<(b.length:Int))
   .have r:f+b.length<=2000:=by simp at E;omega
    have j:(d.take f).length=f:=by rw[cr];omega
    have g:=zDh (a:=d.take f) (b:=b) qd qd;rw[j] at g;have s:(wrD d f b).length<=140737488355328:=bj (zBK y q r) qh;have e:=kJ (is:=is) (k:=k) (m:=m) (tt:=tt) (d:=wrD d f b) (k':=k) (m':=m) (tt':=tt) (d':=wrD d f b) h x s z;have u:(d.take f++b).length=f+b.length:=by rw[bo,j]
    cases w:decide (((f+b.length:Nat):Int)<(d.length:Int))
    .have F:wrD d f b=(d.take f++b).take (f+b.length):=by
      have:¬ f+b.length<d.length:=by simp at w;omega
      unfold wrD;rw[cw qd,dh,bu (l:=d.take f++b) qd]
     rw[F] at e ⊢;refine aa func183 λn o=>?_
     repeat' (first|exact⟨⟩|refine sp ?_|refine zEX g rfl ?_|refine uN e ?_|((with_reducible apply aA.frz);exact rfl;exact rfl)|refine ai ?_)
    .have K:f+b.length<=d.length:=by simp at w;omega
     have L:((f+b.length:Nat):Int)<=(d.length:Int):=qd
     have M:(0:Int)<=((f+b.length:Nat):Int):=qd
     have v:(d.drop (f+b.length)).length=d.length-(f+b.length):=fh;have G:wrD d f b=(d.take f++b++d.drop (f+b.length)).take (f+b.length+(d.length-(f+b.length))):=by
      unfold wrD;rw[bu (l:=d.take f++b++d.drop (f+b.length)) (by rw[bo,u,v];omega)]
     rw[G] at e ⊢;refine aa func183 λn o=>?_
     repeat' (first|exact⟨⟩|refine sp ?_|refine zEX g rfl ?_|refine dA (id:=8) aC aI [9,12] [0,1,2,3,4,5,6,7,8,9,10,11,12] ?_|refine uN e ?_|((with_reducible apply aA.frz);exact rfl;exact rfl)|refine ai ?_)
   ·
    refine aa func183 λn o=>?_
    repeat' (first|exact⟨⟩|refine sp ?_)
    all_goals exact .inr ⟨_,rfl⟩
  ·
   refine aa func183 λn o=>?_
   repeat' (first|exact⟨⟩|refine sp ?_)
   all_goals exact .inr ⟨_,rfl⟩
 ·
  refine aa func183 λn o=>?_
  repeat' (first|exact⟨⟩|refine sp ?_)
  all_goals exact .inr ⟨_,rfl⟩
theorem zQp(h:OkT t)(g:p.length<=1000000000):
  ag 179 [.agg (plc t p is k m tt d)] (.tup [.c (.p (.sl 5 (aP (GS t p is ⟨k,m,tt,d⟩).1))),.c (.p (.i .i64 (GS t p is ⟨k,m,tt,d⟩).2))]):=by
 have j:=h.len;have a:=QH (p:=p) h;have f:=sY (t:=t) (p:=p) g qd λx l=>bj (h.dlen x l) qh;refine aG ?_;unfold GS zBZ;generalize eZ t p=N at a ⊢;cases n:(p == [])
 .cases is
  ·
   refine aa func179 λb e=>?_
   repeat' (first|exact⟨⟩|refine sq ?_|refine uF nG ?_)
   all_goals exact .inr ⟨_,rfl⟩
  .cases o:(k==2)
   ·
    refine aa func179 λb e=>?_
    repeat' (first|exact⟨⟩|refine sq ?_|refine uF nG ?_|refine uF eS ?_)
    all_goals exact .inr ⟨_,rfl⟩
   .cases q:decide ((0:Int)<(N.length:Int))
    ·
     refine aa func179 λb e=>?_
     repeat' (first|exact⟨⟩|refine sq ?_|refine uF nG ?_|refine uF eS ?_|refine uN a ?_|refine uN f ?_)
    ·
     refine aa func179 λb e=>?_
     repeat' (first|exact⟨⟩|refine sq ?_|refine uF nG ?_|refine uF eS ?_|refine uN a ?_)
     all_goals exact .inr ⟨_,rfl⟩
 ·
  refine aa func179 λb e=>?_
  repeat' (first|exact⟨⟩|refine sp ?_|refine uF nG ?_)
  all_goals exact .inr ⟨_,rfl⟩
theorem zTZ{ck:Int}{cp cq:Ba}{cm:Int}{ct:Nat}{ca cn:Int}{cd:Ba}(h:OkT t)(j:p.length<=1000000000)(o:d.length<=2000)(l:tt<18446744073709551616)(g:ct<18446744073709551616):
  ag 180 [.agg (plc t p is k m tt d),.agg (clc ck cp cq cm ct ca cn cd)] (.tup [.c (.p (.sl 5 (aP (zOs t p is ⟨k,m,tt,d⟩ ⟨ck,cp,cq,cm,ct,ca,cn,cd⟩).1))),.c (.p (.i .i64 (zOs t p is ⟨k,m,tt,d⟩ ⟨ck,cp,cq,cm,ct,ca,cn,cd⟩).2))]):=by
 have n:=tI g;have a:=kJ (is:=is) (k:=k) (m:=cm) (tt:=tt) (d:=d) (k':=k) (m':=cm) (tt':=tt) (d':=d) h j qd l;have b:=kJ (is:=is) (k:=k) (m:=m) (tt:=bL ct) (d:=d) (k':=k) (m':=m) (tt':=bL ct) (d':=d) h j qd n;refine aG ?_;unfold zOs;simp only;cases is
 ·
  refine aa func180 λe f=>?_
  repeat' (first|exact⟨⟩|refine sq ?_)
  all_goals exact .inr ⟨_,rfl⟩
 .cases q:(p == [])
  .cases r:(ck==10)
   ·
    refine aa func180 λe f=>?_
    repeat' (first|exact⟨⟩|refine sq ?_|refine uF nG ?_|refine uF (dJ ct) ?_|refine uN b ?_)
   .cases s:nF cm
    ·
     refine aa func180 λe f=>?_
     repeat' (first|exact⟨⟩|refine sq ?_|refine uF nG ?_|refine uF gX ?_)
     all_goals exact .inr ⟨_,rfl⟩
    ·
     refine aa func180 λe f=>?_
     repeat' (first|exact⟨⟩|refine sq ?_|refine uF nG ?_|refine uF gX ?_|refine uN a ?_)
  ·
   refine aa func180 λe f=>?_
   repeat' (first|exact⟨⟩|refine sq ?_|refine uF nG ?_)
   all_goals exact .inr ⟨_,rfl⟩
theorem zSu{q:Ba}{is':Bool}{k' m':Int}{tt':Nat}{d':Ba}(h:OkT t):
  ag 239 [.agg (plc t p true k m tt d),.agg (plc t q is' k' m' tt' d')] (.c (.p (.i .i64 (zD7 (k==2) t q is' ⟨k',m',tt',d'⟩)))):=by
 have a:=QH (p:=q) h;unfold zD7 zBZ;generalize eZ t q=N at a ⊢;cases is'
 ·
  refine aa func239 λb e=>?_
  repeat' (first|exact⟨⟩|refine sq ?_)
 .cases g:(k==2)
  .cases f:(k'==2)
   ·
    refine aa func239 λb e=>?_
    repeat' (first|exact⟨⟩|refine sq ?_|refine uF eS ?_)
   ·
    refine aa func239 λb e=>?_
    repeat' (first|exact⟨⟩|refine sq ?_|refine uF eS ?_)
  .cases f:(k'==2)
   ·
    refine aa func239 λb e=>?_
    repeat' (first|exact⟨⟩|refine sq ?_|refine uF eS ?_)
   .cases j:decide ((0:Int)<(N.length:Int))
    ·
     refine aa func239 λb e=>?_
     repeat' (first|exact⟨⟩|refine sq ?_|refine uF eS ?_|refine uN a ?_)
    ·
     refine aa func239 λb e=>?_
     repeat' (first|exact⟨⟩|refine sq ?_|refine uF eS ?_|refine uN a ?_)
end places
end
abbrev ecv(p:Ba)(k:Int)(o:Bool)(nk nm:Int)(nt:Nat)(nd:Ba):Bf:=[.p (.s p),.p (.i .i64 k),.p (.b o),.p (.i .i64 nk),.p (.i .i64 nm),.p (.f nt),.p (.sl 1 (bS nd))]
def zBz{p:Ba}{k nk nm:Int}{o:Bool}{nt:Nat}{nd:Ba}:ag 349 [.agg (ecv p k o nk nm nt nd)] (.c (.p (.b (lL ⟨p,k,o,⟨nk,nm,nt,nd⟩⟩)))):=by
 refine aa func349 λa d=>?_
 repeat' (first|exact⟨⟩|refine sp ?_|refine aY (λ_=>?_) (λ_=>?_))
 all_goals simp_all[lL]
def zRb{k m:Int}{t:Nat}{d:Ba}:ag 375 [.agg (ndc k m t d)] (.c (.p (.b (nQ ⟨k,m,t,d⟩)))):=by
 refine aa func375 λa e=>?_
 repeat' (first|exact⟨⟩|refine sp ?_|refine uF (DG _) ?_|refine aY (λ_=>?_) (λ_=>?_))
 all_goals first|(simp_all[nQ];done)|(simp_all[nQ];rw[gi];simp)
def zSk{p:Ba}{k nk nm:Int}{o:Bool}{nt:Nat}{nd:Ba}(e:p.length<=1000000000)(f:nt<18446744073709551616):
  ag 348 [.agg (ecv p k o nk nm nt nd)] (.c (.p (.b (zOj ⟨p,k,o,⟨nk,nm,nt,nd⟩⟩)))):=by
 have a:=iA e;have g:=zRb (k:=nk) (m:=nm) (t:=nt) (d:=nd);have h:=fD (k:=nk) (m:=nm) (d:=nd) f;unfold zOj;simp only;generalize bZ p=i at *;generalize nQ ⟨nk,nm,nt,nd⟩=z at *;generalize aO ⟨nk,nm,nt,nd⟩=rn at *;cases i<;>cases z<;>cases rn<;>cases o
 all_goals
  refine aa func348 λj l=>?_
 all_goals repeat' (first|exact⟨⟩|refine sq ?_|refine uF a ?_|refine uF g ?_|refine uF h ?_|refine aH (λ_=>?_) (λ_=>?_)|refine aY (λ_=>?_) (λ_=>?_))
 all_goals simp_all
def WN{l:Bk}(h:OkE l):ag 301 [.c (.p (.sl 7 (fG l)))] (.c (.p (.b true))):=by
 have P:=h.len;refine aa func301 λX0 hX=>?_
 repeat' (first|exact⟨⟩|refine sp ?_)
 refine aJ aC aI (α:=Nat) (λk=>⟨51,[(0,.c (.p (.sl 7 (fG l)))),(7,.c (.p (.sl 7 (fG l)))),(8,.c (.p (.i .i64 l.length))),(9,.c (.p (.i .i64 k)))],[]⟩)
  (λk=>k<=l.length) (λk=>l.length-k) 0 (bc _) (.inl (aB qj rfl rfl wkS)) ?_
 intro k hk;by_cases q:k<l.length
 .have F:=ay q;have Q:=rX F;obtain⟨R,-,S,w1⟩:=lk k l.length;have T:(k:Int)<=l.length:=qd
  have v:k=0∨∃m:Nat,∃y:En,decide ((0:Int)<k)=true/\IntKind.i64.wrap ((k:Int)-1)=(m:Int)/\m<l.length/\l[m]?=some y/\(cC l[k].p y.p || l[k].p==y.p)=false:=by
   by_cases N:0<k
   .have w:k-1<l.length:=qd
    have G:=gg.1 h.srt (k-1) k w q qd;refine .inr ⟨k-1,l[k-1],df qd,?_,w,ay w,?_⟩
    .rw[wrap_i64 qd qd];omega
    .rw[fL G];cases U:(l[k].p==l[k-1].p)
     .rfl
     .rw[eq_of_beq U,cD] at G;cases G
   .exact .inl qd
  have A:=h.may _ (ch q);have V:=h.plen _ (ch q);have O:=h.tlen _ (ch q);have e:∀j y,l[j]?=some y->j<k->(lL y && aT y.p l[k].p)=false:=λj y W H=>by
   obtain⟨I,rfl⟩:=bz.1 W;exact gg.1 h.open_ j k I q H
  have r:=h.plen;generalize l[k]=x at F Q v A V O e;have J:=zSk (p:=x.p) (k:=x.k) (o:=x.o) (nk:=x.n.k) (nm:=x.n.m) (nt:=x.n.t) (nd:=x.n.d) qd O;rw[show (⟨x.p,x.k,x.o,⟨x.n.k,x.n.m,x.n.t,x.n.d⟩⟩:En)=x from rfl,A] at J
  have X:(l.take k).length=k:=by rw[cr];omega
  clear A h F;rcases v with N|⟨m,y,Y,b2,b3,Z,b5⟩
  .have Y:=aj 0 k;clear N
   repeat' (first|exact⟨⟩|refine sq ?_|refine ai ?_|refine uF J ?_|refine dG (id:=4) aC aI [] [0,1,2,3,4,5,6,7,8,9,10,11,12,13,14,15,16,17] ?_|refine aM ?_|refine d1 ?_ ?_ ?_|with_reducible exact rfl)
   refine sF (α:=Nat) (λj=>⟨51,[(0,.c (.p (.sl 7 (fG l)))),(7,.c (.p (.sl 7 (fG l)))),(8,.c (.p (.i .i64 l.length))),(9,.c (.p (.i .i64 k))),(4,.c (.ptr 0 0)),(34,.c (.p (.sl 7 (fG (l.take k))))),(35,.c (.p (.i .i64 k))),(36,.c (.p (.i .i64 j)))],[.box (ecv x.p x.k x.o x.n.k x.n.m x.n.t x.n.d)]⟩)
    (λj=>j<=k) (λj=>k-j) 0 (bc _) (.inl (aB qj rfl rfl wkS)) ?_
   intro j H;by_cases s:j<k
   .have f:j<l.length:=qd
    have B:(l.take k)[j]?=some l[j]:=by rw[gq,aw s];exact ay f
    have C:=rX B;have g:=e j l[j] (ay f) s;have D:=r _ (ch f);obtain⟨K,E,-,w2⟩:=lk j k;have L:(j:Int)<(min k l.length:Nat):=qd
    have M:(0:Int)<=j:=qd
    generalize l[j]=z at B C g D;have a:=zBz (p:=z.p) (k:=z.k) (o:=z.o) (nk:=z.n.k) (nm:=z.n.m) (nt:=z.n.t) (nd:=z.n.d);rw[show (⟨z.p,z.k,z.o,⟨z.n.k,z.n.m,z.n.t,z.n.d⟩⟩:En)=z from rfl] at a
    clear e r B;refine gE aC aI ?_;cases u:lL z
    .rw[u] at a
     repeat' (first|exact⟨⟩|refine sp ?_|refine uF a ?_)
     exact cW (j+1) qd qd (aB rfl rfl rfl wkS)
    .rw[u] at a g;rw[cy] at g
     repeat' (first|exact⟨⟩|refine sp ?_|refine uF a ?_|refine uF (dE (p:=z.p) qd) ?_)
     exact cW (j+1) qd qd (aB rfl rfl rfl wkS)
   .have K:=aj j k;clear e r;refine gE aC aI ?_
    repeat' (first|exact⟨⟩|refine sp ?_)
    exact cW (k+1) qd qd (aB rfl rfl rfl wkS)
  .have hgy:=rX Z;have b6:(m:Int)<l.length:=qd
   repeat' (first|exact⟨⟩|refine sq ?_|refine ai ?_|refine uF J ?_|refine dG (id:=4) aC aI [] [0,1,2,3,4,5,6,7,8,9,10,11,12,13,14,15,16,17] ?_|refine aM ?_|refine d1 ?_ ?_ ?_|with_reducible exact rfl)
   refine sF (α:=Nat) (λj=>⟨51,[(0,.c (.p (.sl 7 (fG l)))),(7,.c (.p (.sl 7 (fG l)))),(8,.c (.p (.i .i64 l.length))),(9,.c (.p (.i .i64 k))),(4,.c (.ptr 0 0)),(34,.c (.p (.sl 7 (fG (l.take k))))),(35,.c (.p (.i .i64 k))),(36,.c (.p (.i .i64 j)))],[.box (ecv x.p x.k x.o x.n.k x.n.m x.n.t x.n.d)]⟩)
    (λj=>j<=k) (λj=>k-j) 0 (bc _) (.inl (aB qj rfl rfl wkS)) ?_
   intro j H;by_cases s:j<k
   .have f:j<l.length:=qd
    have B:(l.take k)[j]?=some l[j]:=by rw[gq,aw s];exact ay f
    have C:=rX B;have g:=e j l[j] (ay f) s;have D:=r _ (ch f);obtain⟨K,E,-,w2⟩:=lk j k;have L:(j:Int)<(min k l.length:Nat):=qd
    have M:(0:Int)<=j:=qd
    generalize l[j]=z at B C g D;have a:=zBz (p:=z.p) (k:=z.k) (o:=z.o) (nk:=z.n.k) (nm:=z.n.m) (nt:=z.n.t) (nd:=z.n.d);rw[show (⟨z.p,z.k,z.o,⟨z.n.k,z.n.m,z.n.t,z.n.d⟩⟩:En)=z from rfl] at a
    clear e r B;refine gE aC aI ?_;cases u:lL z
    .rw[u] at a
     repeat' (first|exact⟨⟩|refine sp ?_|refine uF a ?_)
     exact cW (j+1) qd qd (aB rfl rfl rfl wkS)
    .rw[u] at a g;rw[cy] at g
     repeat' (first|exact⟨⟩|refine sp ?_|refine uF a ?_|refine uF (dE (p:=z.p) qd) ?_)
     exact cW (j+1) qd qd (aB rfl rfl rfl wkS)
   .have K:=aj j k;clear e r;refine gE aC aI ?_
    repeat' (first|exact⟨⟩|refine sp ?_)
    exact cW (k+1) qd qd (aB rfl rfl rfl wkS)
 .have R:=aj k l.length
  repeat' (first|exact⟨⟩|refine sp ?_)
section
def OkT.node{t:Bl}(h:OkT t)(p:Ba):(bK t p).d.length<=2000/\(bK t p).t<18446744073709551616:=by
 unfold bK;split
 .exact⟨ql,ql⟩
 .exact⟨h.getd p,h.gett p⟩
section places
variable {t:Bl}{p:Ba}{is:Bool}{k m:Int}{tt:Nat}{d:Ba}
theorem zNc{j:Ba}(h:OkT t)(y:p.length<=1000000000)(E:j.length<=9223372036854775807):
  ag 181 [.agg (plc t p is k m tt d),.c (.p (.s j))] (.tup [.c (.p (.sl 5 (aP (wH t p is ⟨k,m,tt,d⟩ j).1))),.c (.p (.i .i64 (wH t p is ⟨k,m,tt,d⟩ j).2))]):=by
 have F:=h.len;have f:=zOB (s:=j) (fo:=false) h E;have u:=yL (t:=t) (s:=j) (fo:=false);refine aG ?_;unfold wH;generalize cQ t j false=W at f u ⊢;obtain⟨q,is',e⟩:=W;simp only at f u ⊢;cases is
 ·
  refine aa func181 λo r=>?_
  repeat' (first|exact⟨⟩|refine sq ?_)
  all_goals exact .inr ⟨_,rfl⟩
 .cases D:(e==0)
  .have L:(e != 0)=true:=by rw[bne,D];rfl
   refine aa func181 λo r=>?_
   repeat' (first|exact⟨⟩|refine sq ?_|refine uN f ?_)
   all_goals exact .inr ⟨_,rfl⟩
  .have G:=eq_of_beq D;subst G;have g:=zUi (p:=q) (is:=is') h qd;have l:=zSu (p:=p) (k:=k) (m:=m) (tt:=tt) (d:=d) (q:=q) (is':=is') (k':=(bK t q).k) (m':=(bK t q).m) (tt':=(bK t q).t) (d':=(bK t q).d) h;have eta:(⟨(bK t q).k,(bK t q).m,(bK t q).t,(bK t q).d⟩:Nd)=bK t q:=rfl;rw[eta] at l;have v:zBZ true ⟨k,m,tt,d⟩=(k==2):=rfl;rw[v];clear eta v;have A:=DM (t:=t) qd λx B=>bj (h.dlen x B) qh;have C:=sY (t:=t) (p:=q) qd qd λx B=>bj (h.dlen x B) qh;have w:=zSm (t:=bU t q) (a:=p) (b:=q) (h.remove q) y qd;generalize zD7 (k==2) t q is' (bK t q)=O at l ⊢;generalize bK t q=n at g l;obtain⟨N,P,t1,d1⟩:=n;simp only at g l;generalize mA (bU t q) p q=M at w ⊢;cases Q:(p == [])
   .cases H:(q == [])
    .cases I:(p==q)
     .cases J:aT p q
      .cases z:(O==0)
       .have K:(O != 0)=true:=by rw[bne,z];rfl
        refine aa func181 λo r=>?_
        repeat' (first|exact⟨⟩|refine sq ?_|refine uN f ?_|refine uN g ?_|refine uF nG ?_|refine uF (dE y) ?_|refine uF l ?_)
        all_goals exact .inr ⟨_,rfl⟩
       .have z:=eq_of_beq z;subst z;refine aa func181 λo r=>?_
        repeat' (first|exact⟨⟩|refine sq ?_|refine uN f ?_|refine uN g ?_|refine uF nG ?_|refine uF (dE y) ?_|refine uF l ?_|((refine aK (id:=16) aC aI [] [0,1,2,3,4,5,6,7,8,9,10,11,12,13] qi ?_);(repeat' (first|(refine aM ?_)|((refine fR ?_ rfl rfl ?_ ?_);(rotate_left 1);(focus ((repeat' (first|exact⟨⟩|refine sp ?_|refine uN C ?_|refine uN w ?_));exact rfl));(simp only[aD]))))))
      ·
       refine aa func181 λo r=>?_
       repeat' (first|exact⟨⟩|refine sq ?_|refine uN f ?_|refine uN g ?_|refine uF nG ?_|refine uF (dE y) ?_)
       all_goals exact .inr ⟨_,rfl⟩
     ·
      refine aa func181 λo r=>?_
      repeat' (first|exact⟨⟩|refine sq ?_|refine uN f ?_|refine uN g ?_|refine uF nG ?_|refine zEX A rfl ?_)
    ·
     refine aa func181 λo r=>?_
     repeat' (first|exact⟨⟩|refine sq ?_|refine uN f ?_|refine uN g ?_|refine uF nG ?_)
     all_goals exact .inr ⟨_,rfl⟩
   ·
    refine aa func181 λo r=>?_
    repeat' (first|exact⟨⟩|refine sq ?_|refine uN f ?_|refine uN g ?_|refine uF nG ?_)
    all_goals exact .inr ⟨_,rfl⟩
theorem QP{ck:Int}{cp cq:Ba}{cm:Int}{ct:Nat}{ca cn:Int}{cd:Ba}(h:OkT t)(j:p.length<=1000000000)(z:d.length<=2000)(A:tt<18446744073709551616)(o:ct<18446744073709551616)
  (q:cd.length<=140737488355328)(B:cq.length<=9223372036854775807)(C:-9223372036854775808<=ca/\ca<=9223372036854775807):
  ag 101 [.agg (plc t p is k m tt d),.agg (clc ck cp cq cm ct ca cn cd)] (.tup [.c (.p (.sl 5 (aP (cN t p is ⟨k,m,tt,d⟩ ⟨ck,cp,cq,cm,ct,ca,cn,cd⟩).1))),.c (.p (.i .i64 (cN t p is ⟨k,m,tt,d⟩ ⟨ck,cp,cq,cm,ct,ca,cn,cd⟩).2))]):=by
 have F:=h.len;have g:=λ(kind:Int) (G:kind=1∨kind=2∨kind=3)=>zSj (is:=is) (k:=k) (m:=m) (tt:=tt) (d:=d) (kind:=kind) (ck:=ck) (cp:=cp) (cq:=cq) (cm:=cm) (ca:=ca) (cn:=cn) h j q o G;have r:=zQp (is:=is) (k:=k) (m:=m) (tt:=tt) (d:=d) h j;have l:=zTZ (is:=is) (k:=k) (m:=m) (ck:=ck) (cp:=cp) (cq:=cq) (cm:=cm) (ca:=ca) (cn:=cn) (cd:=cd) h j z A o;have s:=zNc (is:=is) (k:=k) (m:=m) (tt:=tt) (d:=d) h j B;have a:=zOa (t:=t) (p:=p) (is:=is) (k:=k) (m:=m) (tt:=tt) (d:=d);have u:=zQ9 (is:=is) (k:=k) (m:=m) (b:=cd) h j z A C q;have v:=zQV (is:=is) (k:=k) (m:=m) (n:=cn) h j z A;have D:=sY (t:=t) (p:=p) j qd λx H=>bj (h.dlen x H) qh;refine aG ?_;unfold cN;simp only;generalize BM t p is=L at g ⊢;generalize GS t p is ⟨k,m,tt,d⟩=M at r ⊢;generalize zOs t p is ⟨k,m,tt,d⟩ ⟨ck,cp,cq,cm,ct,ca,cn,cd⟩=ST at l ⊢;generalize wH t p is ⟨k,m,tt,d⟩ cq=RN at s ⊢;generalize zC is ⟨k,m,tt,d⟩=E at a ⊢;generalize yN t p ⟨k,m,tt,d⟩ ca cd=N at u ⊢;generalize HL t p ⟨k,m,tt,d⟩ cn=O at v ⊢;cases P:(ck==1)
 .cases Q:(ck==2)
  .cases R:(ck==7)
   .cases S:(ck==6)
    .cases I:(ck==10)
     .cases J:(ck==11)
      .cases T:(ck==9)
       .cases y:(E==0)
        .have K:(E != 0)=true:=by rw[bne,y];rfl
         refine aa func101 λe f=>?_
         repeat' (first|exact⟨⟩|refine sp ?_|refine uF a ?_)
         all_goals exact .inr ⟨_,rfl⟩
        .have y:=eq_of_beq y;subst y;cases U:(ck==3)
         .cases V:(ck==4)
          ·
           refine aa func101 λe f=>?_
           repeat' (first|exact⟨⟩|refine sp ?_|refine uF a ?_|refine uN D ?_)
          ·
           refine aa func101 λe f=>?_
           repeat' (first|exact⟨⟩|refine sp ?_|refine uF a ?_|refine uN v ?_)
         ·
          refine aa func101 λe f=>?_
          repeat' (first|exact⟨⟩|refine sp ?_|refine uF a ?_|refine uN u ?_)
       ·
        refine aa func101 λe f=>?_
        repeat' (first|exact⟨⟩|refine sp ?_|refine uN s ?_)
      ·
       refine aa func101 λe f=>?_
       repeat' (first|exact⟨⟩|refine sp ?_|refine uN l ?_)
     ·
      refine aa func101 λe f=>?_
      repeat' (first|exact⟨⟩|refine sp ?_|refine uN l ?_)
    ·
     refine aa func101 λe f=>?_
     repeat' (first|exact⟨⟩|refine sp ?_|refine uN r ?_)
   .have w:=g 3 ql;refine aa func101 λe f=>?_
    repeat' (first|exact⟨⟩|refine sp ?_|refine uN w ?_)
  .have w:=g 1 ql;refine aa func101 λe f=>?_
   repeat' (first|exact⟨⟩|refine sp ?_|refine uN w ?_)
 .have w:=g 2 ql;refine aa func101 λe f=>?_
  repeat' (first|exact⟨⟩|refine sp ?_|refine uN w ?_)
end places
end
section
section places
variable {t:Bl}{p:Ba}{is:Bool}{k m:Int}{tt:Nat}{d:Ba}
abbrev anv(a:An):Bf:=anc a.e a.n.k a.n.m a.n.t a.n.d a.d a.l
theorem zSC{a n:Int}(E:d.length<=2000):
  ag 174 [.agg (plc t p is k m tt d),.c (.p (.i .i64 a)),.c (.p (.i .i64 n))] (.agg (anv (sO is ⟨k,m,tt,d⟩ a n))):=by
 have b:=zOa (t:=t) (p:=p) (is:=is) (k:=k) (m:=m) (tt:=tt) (d:=d);refine aG ?_;unfold sO;generalize zC is ⟨k,m,tt,d⟩=r at b ⊢;cases o:(r==0)
 .have s:(r != 0)=true:=by rw[bne,o];rfl
  refine aa func174 λj l=>?_
  repeat' (first|exact⟨⟩|refine sp ?_|refine uF b ?_)
  all_goals exact⟨rfl,rfl,rfl,rfl,.inr ⟨_,rfl⟩,.inr ⟨_,rfl⟩,.inr ⟨_,rfl⟩⟩
 .have o:=eq_of_beq o;subst o;cases u:decide (a<0)
  .cases v:decide (n<0)
   .obtain ⟨f,rfl⟩:∃f:Nat,a=f:=⟨a.toNat,by simp at u;omega⟩
    obtain⟨g,rfl⟩:∃g:Nat,n=g:=⟨n.toNat,by simp at v;omega⟩
    simp only[ix];have w:(0:Int)<=(f:Int):=qd
    have x:(0:Int)<=(g:Int):=qd
    by_cases y:f<=d.length
    .have z:¬ ((d.length:Int)<(f:Int)):=qd
     have F:(f:Int)<=(d.length:Int):=qd
     have q:(d.drop f).length<=2000:=by rw[fh];omega
     generalize G:d.drop f=e at q ⊢;by_cases A:g<=e.length
     .have B:¬ ((e.length:Int)<(g:Int)):=qd
      have H:(g:Int)<=(e.length:Int):=qd
      have h:=DK (a:=e.take g) ri;refine aa func174 λj l=>?_
      repeat' (first|exact⟨⟩|refine sp ?_|refine uF b ?_|refine uN h ?_|((with_reducible refine And.intro ?_ ?_);omega))
      all_goals exact⟨rfl,rfl,rfl,.inr ⟨_,rfl⟩,.inr ⟨_,rfl⟩⟩
     .have B:(e.length:Int)<(g:Int):=qd
      have h:=DK (a:=e) qd;have C:e.take e.length=e:=dj;rw[bu qd];refine aa func174 λj l=>?_
      repeat' (first|exact⟨⟩|refine sp ?_|refine uF b ?_|refine uN h ?_|((with_reducible refine And.intro ?_ ?_);omega))
      all_goals exact⟨rfl,rfl,rfl,.inr ⟨_,rfl⟩,.inr ⟨_,rfl⟩⟩
    .have z:(d.length:Int)<(f:Int):=qd
     have D:d.drop d.length=[]:=ma;rw[cw qd,mu];have h:=DK (a:=[]) ql;rw[jJ] at h;refine aa func174 λj l=>?_
     repeat' (first|simp only[*,go_sem,Nat.reduceLT,Nat.reduceLeDiff,Nat.reduceEqDiff,↓reduceIte,Nat.reduceAdd,Int.reduceLE,Int.reduceToNat,lx,mu,da]|refine uF b ?_|refine uN h ?_|((with_reducible refine And.intro ?_ ?_);omega))
     all_goals exact⟨rfl,rfl,rfl,.inr ⟨_,rfl⟩,.inr ⟨_,rfl⟩⟩
   ·
    refine aa func174 λj l=>?_
    repeat' (first|exact⟨⟩|refine sp ?_|refine uF b ?_)
    all_goals exact⟨rfl,rfl,rfl,rfl,.inr ⟨_,rfl⟩,.inr ⟨_,rfl⟩,.inr ⟨_,rfl⟩⟩
  ·
   refine aa func174 λj l=>?_
   repeat' (first|exact⟨⟩|refine sp ?_|refine uF b ?_)
   all_goals exact⟨rfl,rfl,rfl,rfl,.inr ⟨_,rfl⟩,.inr ⟨_,rfl⟩,.inr ⟨_,rfl⟩⟩
theorem zOI{ck:Int}{cp cq:Ba}{cm:Int}{ct:Nat}{ca cn:Int}{cd:Ba}(h:OkT t)(l:d.length<=2000):
  ag 100 [.agg (plc t p is k m tt d),.agg (clc ck cp cq cm ct ca cn cd)] (.agg (anv (lN t p is ⟨k,m,tt,d⟩ ⟨ck,cp,cq,cm,ct,ca,cn,cd⟩))):=by
 have e:=zSC (t:=t) (p:=p) (is:=is) (k:=k) (m:=m) (tt:=tt) (a:=ca) (n:=cn) l;have g:=DK (a:=d) qd;have f:=QH (p:=p) h;refine aG ?_;unfold lN zBZ;simp only;generalize sO is ⟨k,m,tt,d⟩ ca cn=r at e ⊢;generalize eZ t p=N at f ⊢;cases o:(ck==14)
 .cases is
  ·
   refine aa func100 λb c=>?_
   repeat' (first|exact⟨⟩|refine sq ?_)
   all_goals exact⟨rfl,rfl,rfl,rfl,.inr ⟨_,rfl⟩,.inr ⟨_,rfl⟩,.inr ⟨_,rfl⟩⟩
  .cases s:(ck==8)
   .cases q:(ck==15)
    ·
     refine aa func100 λb c=>?_
     repeat' (first|exact⟨⟩|refine sq ?_)
     all_goals first|exact⟨rfl,rfl,rfl,rfl,.inr ⟨_,rfl⟩,.inr ⟨_,rfl⟩,.inr ⟨_,rfl⟩⟩|exact⟨rfl,rfl,rfl,.inr ⟨_,rfl⟩,.inr ⟨_,rfl⟩⟩|exact⟨.inr ⟨_,rfl⟩,.inr ⟨_,rfl⟩⟩
    .cases i:(k==2)
     ·
      refine aa func100 λb c=>?_
      repeat' (first|exact⟨⟩|refine sq ?_|refine uF eS ?_)
      all_goals exact⟨rfl,rfl,rfl,rfl,.inr ⟨_,rfl⟩,.inr ⟨_,rfl⟩,.inr ⟨_,rfl⟩⟩
     ·
      refine aa func100 λb c=>?_
      repeat' (first|exact⟨⟩|refine sq ?_|refine uF eS ?_|refine uN f ?_)
      all_goals first|exact⟨rfl,rfl,rfl,rfl,.inr ⟨_,rfl⟩,.inr ⟨_,rfl⟩,.inr ⟨_,rfl⟩⟩|exact⟨rfl,rfl,rfl,.inr ⟨_,rfl⟩,.inr ⟨_,rfl⟩⟩|exact⟨.inr ⟨_,rfl⟩,.inr ⟨_,rfl⟩⟩
   .cases i:(k==3)
    .have j:(k != 3)=true:=by rw[bne,i];rfl
     refine aa func100 λb c=>?_
     repeat' (first|exact⟨⟩|refine sq ?_)
     all_goals exact⟨rfl,rfl,rfl,rfl,.inr ⟨_,rfl⟩,.inr ⟨_,rfl⟩,.inr ⟨_,rfl⟩⟩
    .have j:(k != 3)=false:=by rw[bne,i];rfl
     refine aa func100 λb c=>?_
     repeat' (first|exact⟨⟩|refine sq ?_|refine uN g ?_)
     all_goals first|exact⟨rfl,rfl,rfl,rfl,.inr ⟨_,rfl⟩,.inr ⟨_,rfl⟩,.inr ⟨_,rfl⟩⟩|exact⟨rfl,rfl,rfl,.inr ⟨_,rfl⟩,.inr ⟨_,rfl⟩⟩|exact⟨.inr ⟨_,rfl⟩,.inr ⟨_,rfl⟩⟩
 ·
  refine aa func100 λb c=>?_
  repeat' (first|exact⟨⟩|refine sp ?_|refine uN e ?_)
  all_goals first|exact⟨rfl,rfl,rfl,rfl,.inr ⟨_,rfl⟩,.inr ⟨_,rfl⟩,.inr ⟨_,rfl⟩⟩|exact⟨rfl,rfl,rfl,.inr ⟨_,rfl⟩,.inr ⟨_,rfl⟩⟩|exact⟨.inr ⟨_,rfl⟩,.inr ⟨_,rfl⟩⟩
end places
def do_c{t:Bl}{ck:Int}{cp cq:Ba}{cm:Int}{ct:Nat}{ca cn:Int}{cd:Ba}(h:OkT t)(w:ct<18446744073709551616)(y:cp.length<=9223372036854775807)
  (z:cd.length<=140737488355328)(B:cq.length<=9223372036854775807)(C:-9223372036854775808<=ca/\ca<=9223372036854775807):
  ag 53 [.c (.p (.sl 5 (aP t))),.agg (clc ck cp cq cm ct ca cn cd)] (.tup [.c (.p (.sl 5 (aP (doP t ⟨ck,cp,cq,cm,ct,ca,cn,cd⟩).1))),.agg (anv (doP t ⟨ck,cp,cq,cm,ct,ca,cn,cd⟩).2)]):=by
 have H:=h.len;have a:=DM (t:=t) qd λx I=>bj (h.dlen x I) qh;have b:=zOB (s:=cp) (fo:=gN ck) h y;have q:=yL (t:=t) (s:=cp) (fo:=gN ck);refine aG ?_;unfold doP;simp only;generalize cQ t cp (gN ck)=W at b q ⊢;obtain⟨p,is,e⟩:=W;simp only at b q ⊢;have g:=zUi (p:=p) (is:=is) h qd;obtain⟨o,r⟩:=OkT.node h p;have i:=zOI (p:=p) (is:=is) (k:=(bK t p).k) (m:=(bK t p).m) (tt:=(bK t p).t) (ck:=ck) (cp:=cp) (cq:=cq) (cm:=cm) (ct:=ct) (ca:=ca) (cn:=cn) (cd:=cd) h o;have f:=QP (p:=p) (is:=is) (k:=(bK t p).k) (m:=(bK t p).m) (ck:=ck) (cp:=cp) (cm:=cm) (cn:=cn) h qd o r w z B C;have eta:(⟨(bK t p).k,(bK t p).m,(bK t p).t,(bK t p).d⟩:Nd)=bK t p:=rfl;rw[eta] at i f;generalize lN t p is (bK t p) ⟨ck,cp,cq,cm,ct,ca,cn,cd⟩=A at i ⊢;generalize cN t p is (bK t p) ⟨ck,cp,cq,cm,ct,ca,cn,cd⟩=U at f ⊢;clear o r eta;generalize bK t p=n at g i f;obtain⟨L,M,t1,d1⟩:=n;simp only at g i f;have j:=zHq (k:=ck);generalize gN ck=fo at b j;have l:=zFa (k:=ck);generalize jX ck=J at l ⊢;obtain⟨U,E⟩:=U;simp only at f ⊢;cases N:decide (ck<1)
 .cases O:decide (15<ck)
  .cases F:(e==0)
   .have P:(e != 0)=true:=by rw[bne,F];rfl
    refine aa func53 λu v=>?_
    repeat' (first|exact⟨⟩|refine sp ?_|((refine aK (id:=3) aC aI [] [0,1,2,3,4,5,6,7,8,9,10,11,12,13] qi ?_);(repeat' (first|(refine aM ?_)|((refine fR ?_ rfl rfl ?_ ?_);(rotate_left 1);(focus ((repeat' (first|exact⟨⟩|refine sp ?_|refine uF j ?_|refine uN b ?_));exact rfl));(simp only[aD])))))|refine zEX a rfl ?_)
    all_goals first|exact⟨rfl,rfl,rfl,rfl,.inr ⟨_,rfl⟩,.inr ⟨_,rfl⟩,.inr ⟨_,rfl⟩⟩|exact⟨rfl,rfl,rfl,.inr ⟨_,rfl⟩,.inr ⟨_,rfl⟩⟩|exact⟨.inr ⟨_,rfl⟩,.inr ⟨_,rfl⟩⟩
   .have K:=eq_of_beq F;subst K;cases J
    ·
     refine aa func53 λu v=>?_
     repeat' (first|exact⟨⟩|refine sq ?_|((refine aK (id:=3) aC aI [] [0,1,2,3,4,5,6,7,8,9,10,11,12,13] qi ?_);(repeat' (first|(refine aM ?_)|((refine fR ?_ rfl rfl ?_ ?_);(rotate_left 1);(focus ((repeat' (first|exact⟨⟩|refine sp ?_|refine uF j ?_|refine uN b ?_));exact rfl));(simp only[aD])))))|refine uN g ?_|refine uF l ?_|((refine aK (id:=8) aC aI [1,6] [0,1,2,3,4,5,6] qi ?_);(repeat' (first|(refine aM ?_)|((refine bJ ?_ ?_ rfl rfl rfl ?_ ?_);(rotate_left 2);(focus ((repeat' (first|exact⟨⟩|refine sp ?_|refine zEX a rfl ?_));((refine And.intro ?_ ?_<;>exact rfl))));(simp only[aD,aQ]))|((refine bI ?_ rfl rfl rfl ?_ ?_);(rotate_left 1);(focus ((repeat' (first|exact aS|refine aL ?_ ?_));(all_goals ((repeat' (first|exact⟨⟩|refine sp ?_|refine uN i ?_));(try (exact rfl))))));(simp only[aD]))))))
     all_goals first|exact⟨rfl,rfl,rfl,rfl,.inr ⟨_,rfl⟩,.inr ⟨_,rfl⟩,.inr ⟨_,rfl⟩⟩|exact⟨rfl,rfl,rfl,.inr ⟨_,rfl⟩,.inr ⟨_,rfl⟩⟩|exact⟨.inr ⟨_,rfl⟩,.inr ⟨_,rfl⟩⟩
    .cases G:(E==0)
     .have Q:(E != 0)=true:=by rw[bne,G];rfl
      refine aa func53 λu v=>?_
      repeat' (first|exact⟨⟩|refine sq ?_|((refine aK (id:=3) aC aI [] [0,1,2,3,4,5,6,7,8,9,10,11,12,13] qi ?_);(repeat' (first|(refine aM ?_)|((refine fR ?_ rfl rfl ?_ ?_);(rotate_left 1);(focus ((repeat' (first|exact⟨⟩|refine sp ?_|refine uF j ?_|refine uN b ?_));exact rfl));(simp only[aD])))))|refine uN g ?_|refine uF l ?_|refine uN f ?_|refine zEX a rfl ?_)
      all_goals first|exact⟨rfl,rfl,rfl,rfl,.inr ⟨_,rfl⟩,.inr ⟨_,rfl⟩,.inr ⟨_,rfl⟩⟩|exact⟨rfl,rfl,rfl,.inr ⟨_,rfl⟩,.inr ⟨_,rfl⟩⟩|exact⟨.inr ⟨_,rfl⟩,.inr ⟨_,rfl⟩⟩
     .have D:=eq_of_beq G;subst D;refine aa func53 λu v=>?_
      repeat' (first|exact⟨⟩|refine sq ?_|((refine aK (id:=3) aC aI [] [0,1,2,3,4,5,6,7,8,9,10,11,12,13] qi ?_);(repeat' (first|(refine aM ?_)|((refine fR ?_ rfl rfl ?_ ?_);(rotate_left 1);(focus ((repeat' (first|exact⟨⟩|refine sp ?_|refine uF j ?_|refine uN b ?_));exact rfl));(simp only[aD])))))|refine uN g ?_|refine uF l ?_|refine uN f ?_)
      all_goals first|exact⟨rfl,rfl,rfl,rfl,.inr ⟨_,rfl⟩,.inr ⟨_,rfl⟩,.inr ⟨_,rfl⟩⟩|exact⟨rfl,rfl,rfl,.inr ⟨_,rfl⟩,.inr ⟨_,rfl⟩⟩|exact⟨.inr ⟨_,rfl⟩,.inr ⟨_,rfl⟩⟩
  ·
   refine aa func53 λu v=>?_
   repeat' (first|exact⟨⟩|refine sp ?_|refine zEX a rfl ?_)
   all_goals first|exact⟨rfl,rfl,rfl,rfl,.inr ⟨_,rfl⟩,.inr ⟨_,rfl⟩,.inr ⟨_,rfl⟩⟩|exact⟨rfl,rfl,rfl,.inr ⟨_,rfl⟩,.inr ⟨_,rfl⟩⟩|exact⟨.inr ⟨_,rfl⟩,.inr ⟨_,rfl⟩⟩
 ·
  refine aa func53 λu v=>?_
  repeat' (first|exact⟨⟩|refine sp ?_|refine zEX a rfl ?_)
  all_goals first|exact⟨rfl,rfl,rfl,rfl,.inr ⟨_,rfl⟩,.inr ⟨_,rfl⟩,.inr ⟨_,rfl⟩⟩|exact⟨rfl,rfl,rfl,.inr ⟨_,rfl⟩,.inr ⟨_,rfl⟩⟩|exact⟨.inr ⟨_,rfl⟩,.inr ⟨_,rfl⟩⟩
end
def YY{e:Int}{nk nm:Int}{nt:Nat}{nd d:Ba}{a:List Ba}(r:a.length<=1000000)(t:d.length<=1000000):
  ag 29 [.agg (anc e nk nm nt nd d a),.agg (anc e nk nm nt nd d a)] (.c (.p (.b true))):=by
 have l:=dK ⟨nk,nm,nt,nd⟩;have u:(e != e)=false:=ql
 have v:(d != d)=false:=ql
 have w:((a.length:Int) != (a.length:Int))=false:=ql
 have j:(Go.Dm.encS a).length=a.length:=by simp[Go.Dm.encS]
 refine aa func29 λy hX=>?_
 repeat' (first|exact⟨⟩|refine sq ?_|refine uF eV ?_)
 refine aJ aC aI (α:=Nat) (λk=>⟨55,[(2,.c (.ptr 0 0)),(3,.c (.ptr 1 0)),(5,.c (.p (.i .i64 k)))],[.box [.p (.i .i64 e),.p (.i .i64 nk),.p (.i .i64 nm),.p (.f nt),.p (.sl 1 (bS nd)),.p (.sl 1 (bS d)),.p (.sl 1 (Go.Dm.encS a))],.box [.p (.i .i64 e),.p (.i .i64 nk),.p (.i .i64 nm),.p (.f nt),.p (.sl 1 (bS nd)),.p (.sl 1 (bS d)),.p (.sl 1 (Go.Dm.encS a))]]⟩)
  (λk=>k<=a.length) (λk=>a.length-k) 0 (bc _) (.inl (aB qj rfl rfl wkS)) ?_
 intro k z;by_cases g:k<a.length
 .have h:=ay g;have m:(Go.Dm.encS a).getD k []=[.s a[k]]:=by simp[Go.Dm.encS,ed,h]
  have n:=ah k a.length;have o:(k:Int)<(a.length:Int):=qd
  have q:(0:Int)<=k:=qd
  have A:=ar k;generalize a[k]=x at h m;have B:(x != x)=false:=ql
  clear h
  repeat' (first|exact⟨⟩|refine sp ?_|((refine aK (id:=6) aC aI [] [0,1,2,3,4,5,6,7,8,9,10] qi ?_);(repeat' (first|(refine aM ?_)|((refine fR ?_ rfl rfl ?_ ?_);(rotate_left 1);(focus ((repeat' (first|exact⟨⟩|refine sq ?_));exact rfl));(simp only[aD]))))))
  all_goals first|exact cW (k+1) qd qd (aB rfl rfl rfl wkS)|trace_state
 .have n:=aj k a.length
  repeat' (first|exact⟨⟩|refine sp ?_)
end Go.Proofs.YtfcindonokhbeaaGreatDoor
end
