/- Part 40 of the proof of roomMerges_card, set without needless blanks. No condition. -/
import Derived.Test.YtflcjdohmojepaaGreatDoorM38
set_option linter.all false
set_option maxRecDepth 100000
set_option maxHeartbeats 16000000
section
namespace Go.Proofs.YtflcjdohmojepaaGreatDoor
open Go Go.Dm Go.Proofs Go.Proofs.Tryz
section
theorem zBq{a b:List UInt8}(ha:a.length<=100000)(hb:b.length<=100000):
  aA prog 245 [.c (.p (.sl 1 [[.sl 1 (bU a)],[.sl 1 (bU b)]]))] [] λr h=>r=.c (.own 0 0 (a.length+b.length))/\h=[.arr 1 (bU (a++b)) false]:=by
 have w1:IntKind.i64.wrap ((a.length:Int))=a.length:=wrap_i64 (by omega) (by omega);have w2:IntKind.i64.wrap ((a.length:Int)+b.length)=((a.length+b.length:Nat):Int):=by rw[wrap_i64 (by omega) (by omega)];omega
 have h1:decide ((a.length:Int)<0)=false:=decide_eq_false (by omega);have h2:decide (((a.length+b.length:Nat):Int)<0)=false:=decide_eq_false (by omega);refine zQp aF aN func245 rfl rfl λX0 hX=>?_;simp only[f245,go_sem]
 repeat' (first|simp only[*,go_sem,Nat.reduceLT,Nat.reduceLeDiff,Nat.reduceEqDiff,↓reduceIte,Nat.reduceAdd,Int.reduceLT,Int.reduceLE,Int.reduceAdd,Int.reduceNeg,Int.reduceToNat,Int.zero_add]|refine dM aF aN 3 ?_|refine zBT (n:=a.length+b.length) (by omega) ?_|((with_reducible refine And.intro ?_ ?_);omega))
 all_goals exact⟨rfl,Nat.zero_le _,rfl,_,_,rfl,rfl,rfl⟩
section places
variable {t:List It}{p:List UInt8}{is:Bool}{k m:Int}{tt:Nat}{d:List UInt8}
theorem zO9{kind ck:Int}{cp cq:List UInt8}{cm:Int}{ct:Nat}{ca cn:Int}{cd:List UInt8}(h:OkT t)(hp:p.length<=1000000000)(hd:cd.length<=140737488355328)(ht:ct<18446744073709551616)(hkind:kind=1∨kind=2∨kind=3):
  aA prog 182 [.agg (plc t p is k m tt d),.c (.p (.i .i64 kind)),.agg (clc ck cp cq cm ct ca cn cd)] [] λr h =>
   r=.tup [.c (.p (.sl 5 (aS (yK t p is kind ⟨ck,cp,cq,cm,ct,ca,cn,cd⟩).1))),.c (.p (.i .i64 (yK t p is kind ⟨ck,cp,cq,cm,ct,ca,cn,cd⟩).2))]/\h=[]:=by
 refine aV ?_;have hb:=lN ht;have hz:decide (0<=Lib.indexByte cd (Nat.toUInt8 0)) = !(cd.all λb=>!(b==0)):=by
  have:=indexByte_none 0 cd;rw[<- this,<- decide_not];exact decide_eq_decide.2 (by rw[Int.not_lt];exact Iff.rfl)
 unfold yK zM5;rcases hkind with rfl|rfl|rfl
 .have hput:=iL (is:=is) (k:=k) (m:=m) (tt:=tt) (d:=d) (k':=1) (m':=cm) (tt':=bJ ct) (d':=cd) h hp hd hb;generalize hP:mE t p ⟨1,cm,bJ ct,cd⟩=P at hput;have e:mE t p ⟨1,if ((1:Int)==3)=true then 511 else cm,bJ ct,if ((1:Int)==2)=true then [] else cd⟩=P:=hP;rw[e];cases is
  .cases hm:kS cm
   ·
    refine eT func182 λX0 hX=>?_;simp only[f182,go_sem]
    repeat' (first|exact⟨⟩|refine sq ?_|((refine aG (id:=1) aF aN [7,8] [7,0,1,2,3,4,5,6,8] (by decide +kernel) ?_);(repeat' (first|(refine aT ?_)|((refine cK ?_ ?_ rfl rfl rfl ?_ ?_);(rotate_left 2);(focus ((repeat' (first|exact⟨⟩|refine sp ?_));((refine And.intro ?_ ?_<;>exact rfl))));(simp only[aC,bH]))|((refine cJ ?_ rfl rfl rfl ?_ ?_);(rotate_left 1);(focus ((repeat' (first|exact bA|refine aW ?_ ?_));(all_goals ((repeat' (first|exact⟨⟩|refine sp ?_|refine uF (cX ct) ?_));(try (exact rfl))))));(simp only[aC])))))|refine uF (fN) ?_)
    all_goals exact .inr ⟨_,rfl⟩
   .cases hl:decide ((2000:Int)<(cd.length:Int))
    ·
     refine eT func182 λX0 hX=>?_;simp only[f182,go_sem]
     repeat' (first|exact⟨⟩|refine sq ?_|((refine aG (id:=1) aF aN [7,8] [7,0,1,2,3,4,5,6,8] (by decide +kernel) ?_);(repeat' (first|(refine aT ?_)|((refine cK ?_ ?_ rfl rfl rfl ?_ ?_);(rotate_left 2);(focus ((repeat' (first|exact⟨⟩|refine sp ?_));((refine And.intro ?_ ?_<;>exact rfl))));(simp only[aC,bH]))|((refine cJ ?_ rfl rfl rfl ?_ ?_);(rotate_left 1);(focus ((repeat' (first|exact bA|refine aW ?_ ?_));(all_goals ((repeat' (first|exact⟨⟩|refine sp ?_|refine uF (cX ct) ?_));(try (exact rfl))))));(simp only[aC])))))|refine uF (fN) ?_|refine uN (hput) ?_)
    ·
     refine eT func182 λX0 hX=>?_;simp only[f182,go_sem]
     repeat' (first|exact⟨⟩|refine sq ?_|((refine aG (id:=1) aF aN [7,8] [7,0,1,2,3,4,5,6,8] (by decide +kernel) ?_);(repeat' (first|(refine aT ?_)|((refine cK ?_ ?_ rfl rfl rfl ?_ ?_);(rotate_left 2);(focus ((repeat' (first|exact⟨⟩|refine sp ?_));((refine And.intro ?_ ?_<;>exact rfl))));(simp only[aC,bH]))|((refine cJ ?_ rfl rfl rfl ?_ ?_);(rotate_left 1);(focus ((repeat' (first|exact bA|refine aW ?_ ?_));(all_goals ((repeat' (first|exact⟨⟩|refine sp ?_|refine uF (cX ct) ?_));(try (exact rfl))))));(simp only[aC])))))|refine uF (fN) ?_)
     all_goals exact .inr ⟨_,rfl⟩
  ·
   refine eT func182 λX0 hX=>?_;simp only[f182,go_sem]
   repeat' (first|exact⟨⟩|refine sp ?_|((refine aG (id:=1) aF aN [7,8] [7,0,1,2,3,4,5,6,8] (by decide +kernel) ?_);(repeat' (first|(refine aT ?_)|((refine cK ?_ ?_ rfl rfl rfl ?_ ?_);(rotate_left 2);(focus ((repeat' (first|exact⟨⟩|refine sp ?_));((refine And.intro ?_ ?_<;>exact rfl))));(simp only[aC,bH]))|((refine cJ ?_ rfl rfl rfl ?_ ?_);(rotate_left 1);(focus ((repeat' (first|exact bA|refine aW ?_ ?_));(all_goals ((repeat' (first|exact⟨⟩|refine sp ?_|refine uF (cX ct) ?_));(try (exact rfl))))));(simp only[aC]))))))
   all_goals exact .inr ⟨_,rfl⟩
 .have hput:=iL (is:=is) (k:=k) (m:=m) (tt:=tt) (d:=d) (k':=2) (m':=cm) (tt':=bJ ct) (d':=[]) h hp (by simp) hb;generalize hP:mE t p ⟨2,cm,bJ ct,[]⟩=P at hput;have e:mE t p ⟨2,if ((2:Int)==3)=true then 511 else cm,bJ ct,if ((2:Int)==2)=true then [] else cd⟩=P:=hP;rw[e];have hput:aA prog 241 [.agg (plc t p is k m tt d),.agg [.p (.i .i64 2),.p (.i .i64 cm),.p (.f (bJ ct)),.p .nil]] [] λr h=>r=.tup [.c (.p (.sl 5 (aS P.1))),.c (.p (.i .i64 P.2))]/\h=[]:=by
   refine aA.wkargs ?_ hput;simp[zHX,wkD,zHW,wkC,wkP,jO]
  cases is
  .cases hm:kS cm
   ·
    refine eT func182 λX0 hX=>?_;simp only[f182,go_sem]
    repeat' (first|exact⟨⟩|refine sq ?_|((refine aG (id:=1) aF aN [7,8] [7,0,1,2,3,4,5,6,8] (by decide +kernel) ?_);(repeat' (first|(refine aT ?_)|((refine cK ?_ ?_ rfl rfl rfl ?_ ?_);(rotate_left 2);(focus ((repeat' (first|exact⟨⟩|refine sp ?_));((refine And.intro ?_ ?_<;>exact rfl))));(simp only[aC,bH]))|((refine cJ ?_ rfl rfl rfl ?_ ?_);(rotate_left 1);(focus ((repeat' (first|exact bA|refine aW ?_ ?_));(all_goals ((repeat' (first|exact⟨⟩|refine sp ?_|refine uF (cX ct) ?_));(try (exact rfl))))));(simp only[aC])))))|refine uF (fN) ?_)
    all_goals exact .inr ⟨_,rfl⟩
   ·
    refine eT func182 λX0 hX=>?_;simp only[f182,go_sem]
    repeat' (first|exact⟨⟩|refine sq ?_|((refine aG (id:=1) aF aN [7,8] [7,0,1,2,3,4,5,6,8] (by decide +kernel) ?_);(repeat' (first|(refine aT ?_)|((refine cK ?_ ?_ rfl rfl rfl ?_ ?_);(rotate_left 2);(focus ((repeat' (first|exact⟨⟩|refine sp ?_));((refine And.intro ?_ ?_<;>exact rfl))));(simp only[aC,bH]))|((refine cJ ?_ rfl rfl rfl ?_ ?_);(rotate_left 1);(focus ((repeat' (first|exact bA|refine aW ?_ ?_));(all_goals ((repeat' (first|exact⟨⟩|refine sp ?_|refine uF (cX ct) ?_));(try (exact rfl))))));(simp only[aC])))))|refine uF (fN) ?_|refine uN (hput) ?_)
  ·
   refine eT func182 λX0 hX=>?_;simp only[f182,go_sem]
   repeat' (first|exact⟨⟩|refine sp ?_|((refine aG (id:=1) aF aN [7,8] [7,0,1,2,3,4,5,6,8] (by decide +kernel) ?_);(repeat' (first|(refine aT ?_)|((refine cK ?_ ?_ rfl rfl rfl ?_ ?_);(rotate_left 2);(focus ((repeat' (first|exact⟨⟩|refine sp ?_));((refine And.intro ?_ ?_<;>exact rfl))));(simp only[aC,bH]))|((refine cJ ?_ rfl rfl rfl ?_ ?_);(rotate_left 1);(focus ((repeat' (first|exact bA|refine aW ?_ ?_));(all_goals ((repeat' (first|exact⟨⟩|refine sp ?_|refine uF (cX ct) ?_));(try (exact rfl))))));(simp only[aC]))))))
   all_goals exact .inr ⟨_,rfl⟩
 .have hput:=iL (is:=is) (k:=k) (m:=m) (tt:=tt) (d:=d) (k':=3) (m':=511) (tt':=bJ ct) (d':=cd) h hp hd hb;generalize hP:mE t p ⟨3,511,bJ ct,cd⟩=P at hput;have e:mE t p ⟨3,if ((3:Int)==3)=true then 511 else cm,bJ ct,if ((3:Int)==2)=true then [] else cd⟩=P:=hP;rw[e];have hm:kS 511=true:=rfl;have hrm:=fN (m:=511);rw[hm] at hrm;cases is
  .cases cd with
   | nil =>
    refine eT func182 λX0 hX=>?_;simp only[f182,go_sem]
    repeat' (first|exact⟨⟩|refine sq ?_|((refine aG (id:=1) aF aN [7,8] [7,0,1,2,3,4,5,6,8] (by decide +kernel) ?_);(repeat' (first|(refine aT ?_)|((refine cK ?_ ?_ rfl rfl rfl ?_ ?_);(rotate_left 2);(focus ((repeat' (first|exact⟨⟩|refine sp ?_));((refine And.intro ?_ ?_<;>exact rfl))));(simp only[aC,bH]))|((refine cJ ?_ rfl rfl rfl ?_ ?_);(rotate_left 1);(focus ((repeat' (first|exact bA|refine aW ?_ ?_));(all_goals ((repeat' (first|exact⟨⟩|refine sp ?_|refine uF (cX ct) ?_));(try (exact rfl))))));(simp only[aC])))))|refine uF (hrm) ?_)
    all_goals exact .inr ⟨_,rfl⟩
   | cons x l =>
    have h1:decide (((l.length+1:Nat):Int)<1)=false:=decide_eq_false (by omega);have hib:=oR (d:=x::l) (c:=0) (by simp);rw[show Int.toNat 0=0 from rfl] at hib
    cases hl:decide ((120:Int)<((l.length+1:Nat):Int))
    .generalize ((x::l).all λb=>!(b==0))=q at hz ⊢;cases q
     ·
      refine eT func182 λX0 hX=>?_;simp only[f182,go_sem]
      repeat' (first|exact⟨⟩|refine sq ?_|((refine aG (id:=1) aF aN [7,8] [7,0,1,2,3,4,5,6,8] (by decide +kernel) ?_);(repeat' (first|(refine aT ?_)|((refine cK ?_ ?_ rfl rfl rfl ?_ ?_);(rotate_left 2);(focus ((repeat' (first|exact⟨⟩|refine sp ?_));((refine And.intro ?_ ?_<;>exact rfl))));(simp only[aC,bH]))|((refine cJ ?_ rfl rfl rfl ?_ ?_);(rotate_left 1);(focus ((repeat' (first|exact bA|refine aW ?_ ?_));(all_goals ((repeat' (first|exact⟨⟩|refine sp ?_|refine uF (cX ct) ?_));(try (exact rfl))))));(simp only[aC])))))|refine uF (hrm) ?_|refine uF (hib) ?_)
      all_goals exact .inr ⟨_,rfl⟩
     ·
      refine eT func182 λX0 hX=>?_;simp only[f182,go_sem]
      repeat' (first|exact⟨⟩|refine sq ?_|((refine aG (id:=1) aF aN [7,8] [7,0,1,2,3,4,5,6,8] (by decide +kernel) ?_);(repeat' (first|(refine aT ?_)|((refine cK ?_ ?_ rfl rfl rfl ?_ ?_);(rotate_left 2);(focus ((repeat' (first|exact⟨⟩|refine sp ?_));((refine And.intro ?_ ?_<;>exact rfl))));(simp only[aC,bH]))|((refine cJ ?_ rfl rfl rfl ?_ ?_);(rotate_left 1);(focus ((repeat' (first|exact bA|refine aW ?_ ?_));(all_goals ((repeat' (first|exact⟨⟩|refine sp ?_|refine uF (cX ct) ?_));(try (exact rfl))))));(simp only[aC])))))|refine uF (hrm) ?_|refine uF (hib) ?_|refine uN (hput) ?_)
    ·
     refine eT func182 λX0 hX=>?_;simp only[f182,go_sem]
     repeat' (first|exact⟨⟩|refine sq ?_|((refine aG (id:=1) aF aN [7,8] [7,0,1,2,3,4,5,6,8] (by decide +kernel) ?_);(repeat' (first|(refine aT ?_)|((refine cK ?_ ?_ rfl rfl rfl ?_ ?_);(rotate_left 2);(focus ((repeat' (first|exact⟨⟩|refine sp ?_));((refine And.intro ?_ ?_<;>exact rfl))));(simp only[aC,bH]))|((refine cJ ?_ rfl rfl rfl ?_ ?_);(rotate_left 1);(focus ((repeat' (first|exact bA|refine aW ?_ ?_));(all_goals ((repeat' (first|exact⟨⟩|refine sp ?_|refine uF (cX ct) ?_));(try (exact rfl))))));(simp only[aC])))))|refine uF (hrm) ?_)
     all_goals exact .inr ⟨_,rfl⟩
  ·
   refine eT func182 λX0 hX=>?_;simp only[f182,go_sem]
   repeat' (first|exact⟨⟩|refine sp ?_|((refine aG (id:=1) aF aN [7,8] [7,0,1,2,3,4,5,6,8] (by decide +kernel) ?_);(repeat' (first|(refine aT ?_)|((refine cK ?_ ?_ rfl rfl rfl ?_ ?_);(rotate_left 2);(focus ((repeat' (first|exact⟨⟩|refine sp ?_));((refine And.intro ?_ ?_<;>exact rfl))));(simp only[aC,bH]))|((refine cJ ?_ rfl rfl rfl ?_ ?_);(rotate_left 1);(focus ((repeat' (first|exact bA|refine aW ?_ ?_));(all_goals ((repeat' (first|exact⟨⟩|refine sp ?_|refine uF (cX ct) ?_));(try (exact rfl))))));(simp only[aC]))))))
   all_goals exact .inr ⟨_,rfl⟩
end places
end
section
section places
variable {t:List It}{p:List UInt8}{is:Bool}{k m:Int}{tt:Nat}{d:List UInt8}
theorem zNQ{n:Int}(h:OkT t)(hp:p.length<=1000000000)(hd:d.length<=2000)(ht:tt<18446744073709551616):
  aA prog 188 [.agg (plc t p is k m tt d),.c (.p (.i .i64 n))] [] λr h =>
   r=.tup [.c (.p (.sl 5 (aS (DX t p ⟨k,m,tt,d⟩ n).1))),.c (.p (.i .i64 (DX t p ⟨k,m,tt,d⟩ n).2))]/\h=[]:=by
 refine aV ?_;unfold DX;simp only;cases h0:decide (n<0)
 .obtain ⟨f,rfl⟩:∃f:Nat,n=f:=⟨n.toNat,by simp at h0;omega⟩
  rw[Int.toNat_natCast];cases h1:decide ((d.length:Int)<(f:Int))
  .have h1':f<=d.length:=by simp at h1;omega
   have hf0:(0:Int)<=(f:Int):=by omega
   have hfl:(f:Int)<=(d.length:Int):=by omega
   have htl:(d.take f).length<=140737488355328:=by rw[List.length_take];omega
   have hput:=iL (is:=is) (k:=k) (m:=m) (tt:=tt) (d:=d.take f) (k':=k) (m':=m) (tt':=tt) (d':=d.take f) h hp htl ht;refine eT func188 λX0 hX=>?_;simp only[f188,go_sem]
   repeat' (first|exact⟨⟩|refine sp ?_|refine uN (hput) ?_)
  ·
   refine eT func188 λX0 hX=>?_;simp only[f188,go_sem]
   repeat' (first|exact⟨⟩|refine sp ?_)
   all_goals exact .inr ⟨_,rfl⟩
 ·
  refine eT func188 λX0 hX=>?_;simp only[f188,go_sem]
  repeat' (first|exact⟨⟩|refine sp ?_)
  all_goals exact .inr ⟨_,rfl⟩
theorem zN5{a:Int}{b:List UInt8}(h:OkT t)(hp:p.length<=1000000000)(hd:d.length<=2000)(ht:tt<18446744073709551616)(ha:-9223372036854775808<=a/\a<=9223372036854775807)(hb:b.length<=140737488355328):
  aA prog 187 [.agg (plc t p is k m tt d),.c (.p (.i .i64 a)),.c (.p (.sl 1 (bU b)))] [] λr h =>
   r=.tup [.c (.p (.sl 5 (aS (EC t p ⟨k,m,tt,d⟩ a b).1))),.c (.p (.i .i64 (EC t p ⟨k,m,tt,d⟩ a b).2))]/\h=[]:=by
 refine aV ?_;unfold EC;simp only;cases h0:decide (a<0)
 .obtain ⟨f,rfl⟩:∃f:Nat,a=f:=⟨a.toNat,by simp at h0;omega⟩
  rw[Int.toNat_natCast];cases h1:decide ((d.length:Int)<(f:Int))
  .have h1':f<=d.length:=by simp at h1;omega
   have hf0:(0:Int)<=(f:Int):=by omega
   have hfl:(f:Int)<=(d.length:Int):=by omega
   have w1:IntKind.i64.wrap (2000-(f:Int))=2000-(f:Int):=wrap_i64 (by omega) (by omega);cases h2:decide (2000-(f:Int)<(b.length:Int))
   .have h2':f+b.length<=2000:=by simp at h2;omega
    have htk:(d.take f).length=f:=by rw[List.length_take];omega
    have hcc:=zBq (a:=d.take f) (b:=b) (by omega) (by omega);rw[htk] at hcc;have hwl:(wrD d f b).length<=140737488355328:=Nat.le_trans (zHO hd h1' h2') (by decide);have hput:=iL (is:=is) (k:=k) (m:=m) (tt:=tt) (d:=wrD d f b) (k':=k) (m':=m) (tt':=tt) (d':=wrD d f b) h hp hwl ht;have hal:(d.take f++b).length=f+b.length:=by rw[List.length_append,htk]
    cases h3:decide (((f+b.length:Nat):Int)<(d.length:Int))
    .have e1:wrD d f b=(d.take f++b).take (f+b.length):=by
      have:¬ f+b.length<d.length:=by simp at h3;omega
      unfold wrD;rw[List.drop_of_length_le (by omega),List.append_nil,List.take_of_length_le (l:=d.take f++b) (by omega)]
     rw[e1] at hput ⊢;refine eT func187 λX0 hX=>?_;simp only[f187,go_sem]
     repeat' (first|exact⟨⟩|refine sp ?_|refine zC5 hcc rfl ?_|refine uN (hput) ?_|((with_reducible apply aA.frz);exact rfl;exact rfl)|refine ai ?_)
    .have h4:f+b.length<=d.length:=by simp at h3;omega
     have h5:((f+b.length:Nat):Int)<=(d.length:Int):=by omega
     have h6:(0:Int)<=((f+b.length:Nat):Int):=by omega
     have hdl:(d.drop (f+b.length)).length=d.length-(f+b.length):=List.length_drop;have e2:wrD d f b=(d.take f++b++d.drop (f+b.length)).take (f+b.length+(d.length-(f+b.length))):=by
      unfold wrD;rw[List.take_of_length_le (l:=d.take f++b++d.drop (f+b.length)) (by rw[List.length_append,hal,hdl];omega)]
     rw[e2] at hput ⊢;refine eT func187 λX0 hX=>?_;simp only[f187,go_sem]
     repeat' (first|exact⟨⟩|refine sp ?_|refine zC5 hcc rfl ?_|((refine aG (id:=8) aF aN [9,12] [0,1,2,3,4,5,6,7,8,9,10,11,12] (by decide +kernel) ?_);(repeat' (first|(refine aT ?_)|((refine cK ?_ ?_ rfl rfl rfl ?_ ?_);(rotate_left 2);(focus ((repeat' (first|exact⟨⟩|refine sp ?_|refine ai ?_));((refine And.intro ?_ ?_<;>exact rfl))));(simp only[aC,bH]))|((refine cJ ?_ rfl rfl rfl ?_ ?_);(rotate_left 1);(focus ((repeat' (first|exact bA|refine aW ?_ ?_));(all_goals ((repeat' (first|exact⟨⟩|refine sp ?_|refine ai ?_));(try (exact rfl))))));(simp only[aC])))))|refine uN (hput) ?_|((with_reducible apply aA.frz);exact rfl;exact rfl)|refine ai ?_)
   ·
    refine eT func187 λX0 hX=>?_;simp only[f187,go_sem]
    repeat' (first|exact⟨⟩|refine sp ?_)
    all_goals exact .inr ⟨_,rfl⟩
  ·
   refine eT func187 λX0 hX=>?_;simp only[f187,go_sem]
   repeat' (first|exact⟨⟩|refine sp ?_)
   all_goals exact .inr ⟨_,rfl⟩
 ·
  refine eT func187 λX0 hX=>?_;simp only[f187,go_sem]
  repeat' (first|exact⟨⟩|refine sp ?_)
  all_goals exact .inr ⟨_,rfl⟩
theorem zNk(h:OkT t)(hp:p.length<=1000000000):
  aA prog 183 [.agg (plc t p is k m tt d)] [] λr h =>
   r=.tup [.c (.p (.sl 5 (aS (DC t p is ⟨k,m,tt,d⟩).1))),.c (.p (.i .i64 (DC t p is ⟨k,m,tt,d⟩).2))]/\h=[]:=by
 have htl:=h.len;have hnm:=LK (p:=p) h;have hrm:=qK (t:=t) (p:=p) hp (by omega) λx hx=>Nat.le_trans (h.dlen x hx) (by decide);refine aV ?_;unfold DC zAh;generalize iG t p=N at hnm ⊢;cases h0:(p == [])
 .cases is
  ·
   refine eT func183 λX0 hX=>?_;simp only[f183,go_sem]
   repeat' (first|exact⟨⟩|refine sq ?_|refine uF (kV) ?_)
   all_goals exact .inr ⟨_,rfl⟩
  .cases hk:(k==2)
   ·
    refine eT func183 λX0 hX=>?_;simp only[f183,go_sem]
    repeat' (first|exact⟨⟩|refine sq ?_|refine uF (kV) ?_|refine uF (dS) ?_)
    all_goals exact .inr ⟨_,rfl⟩
   .cases hn:decide ((0:Int)<(N.length:Int))
    ·
     refine eT func183 λX0 hX=>?_;simp only[f183,go_sem]
     repeat' (first|exact⟨⟩|refine sq ?_|refine uF (kV) ?_|refine uF (dS) ?_|refine uN (hnm) ?_|refine uN (hrm) ?_)
    ·
     refine eT func183 λX0 hX=>?_;simp only[f183,go_sem]
     repeat' (first|exact⟨⟩|refine sq ?_|refine uF (kV) ?_|refine uF (dS) ?_|refine uN (hnm) ?_)
     all_goals exact .inr ⟨_,rfl⟩
 ·
  refine eT func183 λX0 hX=>?_;simp only[f183,go_sem]
  repeat' (first|exact⟨⟩|refine sp ?_|refine uF (kV) ?_)
  all_goals exact .inr ⟨_,rfl⟩
theorem zQ0{ck:Int}{cp cq:List UInt8}{cm:Int}{ct:Nat}{ca cn:Int}{cd:List UInt8}(h:OkT t)(hp:p.length<=1000000000)(hd:d.length<=2000)(ht:tt<18446744073709551616)(hct:ct<18446744073709551616):
  aA prog 184 [.agg (plc t p is k m tt d),.agg (clc ck cp cq cm ct ca cn cd)] [] λr h =>
   r=.tup [.c (.p (.sl 5 (aS (zLA t p is ⟨k,m,tt,d⟩ ⟨ck,cp,cq,cm,ct,ca,cn,cd⟩).1))),.c (.p (.i .i64 (zLA t p is ⟨k,m,tt,d⟩ ⟨ck,cp,cq,cm,ct,ca,cn,cd⟩).2))]/\h=[]:=by
 have hb:=lN hct;have hputm:=iL (is:=is) (k:=k) (m:=cm) (tt:=tt) (d:=d) (k':=k) (m':=cm) (tt':=tt) (d':=d) h hp (by omega) ht;have hputt:=iL (is:=is) (k:=k) (m:=m) (tt:=bJ ct) (d:=d) (k':=k) (m':=m) (tt':=bJ ct) (d':=d) h hp (by omega) hb;refine aV ?_;unfold zLA;simp only;cases is
 ·
  refine eT func184 λX0 hX=>?_;simp only[f184,go_sem]
  repeat' (first|exact⟨⟩|refine sq ?_)
  all_goals exact .inr ⟨_,rfl⟩
 .cases h0:(p == [])
  .cases hk:(ck==10)
   ·
    refine eT func184 λX0 hX=>?_;simp only[f184,go_sem]
    repeat' (first|exact⟨⟩|refine sq ?_|refine uF (kV) ?_|refine uF (cX ct) ?_|refine uN (hputt) ?_)
   .cases hm:kS cm
    ·
     refine eT func184 λX0 hX=>?_;simp only[f184,go_sem]
     repeat' (first|exact⟨⟩|refine sq ?_|refine uF (kV) ?_|refine uF (fN) ?_)
     all_goals exact .inr ⟨_,rfl⟩
    ·
     refine eT func184 λX0 hX=>?_;simp only[f184,go_sem]
     repeat' (first|exact⟨⟩|refine sq ?_|refine uF (kV) ?_|refine uF (fN) ?_|refine uN (hputm) ?_)
  ·
   refine eT func184 λX0 hX=>?_;simp only[f184,go_sem]
   repeat' (first|exact⟨⟩|refine sq ?_|refine uF (kV) ?_)
   all_goals exact .inr ⟨_,rfl⟩
theorem zPk{q:List UInt8}{is':Bool}{k' m':Int}{tt':Nat}{d':List UInt8}(h:OkT t):
  aA prog 243 [.agg (plc t p true k m tt d),.agg (plc t q is' k' m' tt' d')] [] λr h =>
   r=.c (.p (.i .i64 (zCe (k==2) t q is' ⟨k',m',tt',d'⟩)))/\h=[]:=by
 have hnm:=LK (p:=q) h;unfold zCe zAh;generalize iG t q=N at hnm ⊢;cases is'
 ·
  refine eT func243 λX0 hX=>?_;simp only[f243,go_sem]
  repeat' (first|exact⟨⟩|refine sq ?_)
 .cases hk:(k==2)
  .cases hk':(k'==2)
   ·
    refine eT func243 λX0 hX=>?_;simp only[f243,go_sem]
    repeat' (first|exact⟨⟩|refine sq ?_|refine uF (dS) ?_)
   ·
    refine eT func243 λX0 hX=>?_;simp only[f243,go_sem]
    repeat' (first|exact⟨⟩|refine sq ?_|refine uF (dS) ?_)
  .cases hk':(k'==2)
   ·
    refine eT func243 λX0 hX=>?_;simp only[f243,go_sem]
    repeat' (first|exact⟨⟩|refine sq ?_|refine uF (dS) ?_)
   .cases hn:decide ((0:Int)<(N.length:Int))
    ·
     refine eT func243 λX0 hX=>?_;simp only[f243,go_sem]
     repeat' (first|exact⟨⟩|refine sq ?_|refine uF (dS) ?_|refine uN (hnm) ?_)
    ·
     refine eT func243 λX0 hX=>?_;simp only[f243,go_sem]
     repeat' (first|exact⟨⟩|refine sq ?_|refine uF (dS) ?_|refine uN (hnm) ?_)
end places
end
section
theorem OkT.node{t:List It}(h:OkT t)(p:List UInt8):(nodeAt t p).d.length<=2000/\(nodeAt t p).t<18446744073709551616:=by
 unfold nodeAt;split
 .exact⟨by simp,by simp⟩
 .exact⟨h.getd p,h.gett p⟩
section places
variable {t:List It}{p:List UInt8}{is:Bool}{k m:Int}{tt:Nat}{d:List UInt8}
theorem zKp{to':List UInt8}(h:OkT t)(hp:p.length<=1000000000)(hs:to'.length<=9223372036854775807):
  aA prog 185 [.agg (plc t p is k m tt d),.c (.p (.s to'))] [] λr h =>
   r=.tup [.c (.p (.sl 5 (aS (tJ t p is ⟨k,m,tt,d⟩ to').1))),.c (.p (.i .i64 (tJ t p is ⟨k,m,tt,d⟩ to').2))]/\h=[]:=by
 have htl:=h.len;have hwk:=zLL (s:=to') (fo:=false) h hs;have hql:=VJ (t:=t) (s:=to') (fo:=false);refine aV ?_;unfold tJ;generalize cR t to' false=W at hwk hql ⊢;obtain⟨q,is',e⟩:=W;simp only at hwk hql ⊢;cases is
 ·
  refine eT func185 λX0 hX=>?_;simp only[f185,go_sem]
  repeat' (first|exact⟨⟩|refine sq ?_)
  all_goals exact .inr ⟨_,rfl⟩
 .cases q0:(e==0)
  .have q1:(e != 0)=true:=by rw[bne,q0];rfl
   refine eT func185 λX0 hX=>?_;simp only[f185,go_sem]
   repeat' (first|exact⟨⟩|refine sq ?_|refine uN (hwk) ?_)
   all_goals exact .inr ⟨_,rfl⟩
  .have he:=eq_of_beq q0;subst he;have hat:=zRh (p:=q) (is:=is') h (by omega);have hon:=zPk (p:=p) (k:=k) (m:=m) (tt:=tt) (d:=d) (q:=q) (is':=is') (k':=(nodeAt t q).k) (m':=(nodeAt t q).m) (tt':=(nodeAt t q).t) (d':=(nodeAt t q).d) h;have eta:(⟨(nodeAt t q).k,(nodeAt t q).m,(nodeAt t q).t,(nodeAt t q).d⟩:Nd)=nodeAt t q:=rfl;rw[eta] at hon;have hdp:zAh true ⟨k,m,tt,d⟩=(k==2):=rfl;rw[hdp];clear eta hdp;have hcp:=AJ (t:=t) (by omega) λx hx=>Nat.le_trans (h.dlen x hx) (by decide);have hrm:=qK (t:=t) (p:=q) (by omega) (by omega) λx hx=>Nat.le_trans (h.dlen x hx) (by decide);have hmv:=zPc (t:=bR t q) (a:=p) (b:=q) (h.remove q) hp (by omega);generalize zCe (k==2) t q is' (nodeAt t q)=O at hon ⊢;generalize nodeAt t q=n at hat hon;obtain⟨k1,m1,t1,d1⟩:=n;simp only at hat hon;generalize jQ (bR t q) p q=M at hmv ⊢;cases hz:(p == [])
   .cases hz2:(q == [])
    .cases hpq:(p==q)
     .cases hbl:aO p q
      .cases ho:(O==0)
       .have ho2:(O != 0)=true:=by rw[bne,ho];rfl
        refine eT func185 λX0 hX=>?_;simp only[f185,go_sem]
        repeat' (first|exact⟨⟩|refine sq ?_|refine uN (hwk) ?_|refine uN (hat) ?_|refine uF (kV) ?_|refine uF (cQ hp) ?_|refine uF (hon) ?_)
        all_goals exact .inr ⟨_,rfl⟩
       .have ho:=eq_of_beq ho;subst ho;refine eT func185 λX0 hX=>?_;simp only[f185,go_sem]
        repeat' (first|exact⟨⟩|refine sq ?_|refine uN (hwk) ?_|refine uN (hat) ?_|refine uF (kV) ?_|refine uF (cQ hp) ?_|refine uF (hon) ?_|((refine aG (id:=16) aF aN [] [0,1,2,3,4,5,6,7,8,9,10,11,12,13] (by decide +kernel) ?_);(repeat' (first|(refine aT ?_)|((refine bL ?_ rfl rfl ?_ ?_);(rotate_left 1);(focus ((repeat' (first|exact⟨⟩|refine sp ?_|refine uN (hrm) ?_|refine uN (hmv) ?_));exact rfl));(simp only[aC]))))))
      ·
       refine eT func185 λX0 hX=>?_;simp only[f185,go_sem]
       repeat' (first|exact⟨⟩|refine sq ?_|refine uN (hwk) ?_|refine uN (hat) ?_|refine uF (kV) ?_|refine uF (cQ hp) ?_)
       all_goals exact .inr ⟨_,rfl⟩
     ·
      refine eT func185 λX0 hX=>?_;simp only[f185,go_sem]
      repeat' (first|exact⟨⟩|refine sq ?_|refine uN (hwk) ?_|refine uN (hat) ?_|refine uF (kV) ?_|refine zC5 hcp rfl ?_)
    ·
     refine eT func185 λX0 hX=>?_;simp only[f185,go_sem]
     repeat' (first|exact⟨⟩|refine sq ?_|refine uN (hwk) ?_|refine uN (hat) ?_|refine uF (kV) ?_)
     all_goals exact .inr ⟨_,rfl⟩
   ·
    refine eT func185 λX0 hX=>?_;simp only[f185,go_sem]
    repeat' (first|exact⟨⟩|refine sq ?_|refine uN (hwk) ?_|refine uN (hat) ?_|refine uF (kV) ?_)
    all_goals exact .inr ⟨_,rfl⟩
theorem LS{ck:Int}{cp cq:List UInt8}{cm:Int}{ct:Nat}{ca cn:Int}{cd:List UInt8}(h:OkT t)(hp:p.length<=1000000000)(hd:d.length<=2000)(ht:tt<18446744073709551616)(hct:ct<18446744073709551616)
  (hcd:cd.length<=140737488355328)(hcq:cq.length<=9223372036854775807)(hca:-9223372036854775808<=ca/\ca<=9223372036854775807):
  aA prog 128 [.agg (plc t p is k m tt d),.agg (clc ck cp cq cm ct ca cn cd)] [] λr h =>
   r=.tup [.c (.p (.sl 5 (aS (cI t p is ⟨k,m,tt,d⟩ ⟨ck,cp,cq,cm,ct,ca,cn,cd⟩).1))),.c (.p (.i .i64 (cI t p is ⟨k,m,tt,d⟩ ⟨ck,cp,cq,cm,ct,ca,cn,cd⟩).2))]/\h=[]:=by
 have htl:=h.len;have hmk:=λ(kind:Int) (hk:kind=1∨kind=2∨kind=3)=>zO9 (is:=is) (k:=k) (m:=m) (tt:=tt) (d:=d) (kind:=kind) (ck:=ck) (cp:=cp) (cq:=cq) (cm:=cm) (ca:=ca) (cn:=cn) h hp hcd hct hk;have hrd:=zNk (is:=is) (k:=k) (m:=m) (tt:=tt) (d:=d) h hp;have hst:=zQ0 (is:=is) (k:=k) (m:=m) (ck:=ck) (cp:=cp) (cq:=cq) (cm:=cm) (ca:=ca) (cn:=cn) (cd:=cd) h hp hd ht hct;have hrn:=zKp (is:=is) (k:=k) (m:=m) (tt:=tt) (d:=d) h hp hcq;have hfi:=zLj (t:=t) (p:=p) (is:=is) (k:=k) (m:=m) (tt:=tt) (d:=d);have hwr:=zN5 (is:=is) (k:=k) (m:=m) (b:=cd) h hp hd ht hca hcd;have htr:=zNQ (is:=is) (k:=k) (m:=m) (n:=cn) h hp hd ht;have hrm:=qK (t:=t) (p:=p) hp (by omega) λx hx=>Nat.le_trans (h.dlen x hx) (by decide);refine aV ?_;unfold cI;simp only;generalize yK t p is=MK at hmk ⊢;generalize DC t p is ⟨k,m,tt,d⟩=RD at hrd ⊢;generalize zLA t p is ⟨k,m,tt,d⟩ ⟨ck,cp,cq,cm,ct,ca,cn,cd⟩=ST at hst ⊢;generalize tJ t p is ⟨k,m,tt,d⟩ cq=RN at hrn ⊢;generalize wC is ⟨k,m,tt,d⟩=FI at hfi ⊢;generalize EC t p ⟨k,m,tt,d⟩ ca cd=WR at hwr ⊢;generalize DX t p ⟨k,m,tt,d⟩ cn=TR at htr ⊢;cases k1:(ck==1)
 .cases k2:(ck==2)
  .cases k7:(ck==7)
   .cases k6:(ck==6)
    .cases k10:(ck==10)
     .cases k11:(ck==11)
      .cases k9:(ck==9)
       .cases hf:(FI==0)
        .have hf2:(FI != 0)=true:=by rw[bne,hf];rfl
         refine eT func128 λX0 hX=>?_;simp only[f128,go_sem]
         repeat' (first|exact⟨⟩|refine sp ?_|refine uF (hfi) ?_)
         all_goals exact .inr ⟨_,rfl⟩
        .have hf:=eq_of_beq hf;subst hf;cases k3:(ck==3)
         .cases k4:(ck==4)
          ·
           refine eT func128 λX0 hX=>?_;simp only[f128,go_sem]
           repeat' (first|exact⟨⟩|refine sp ?_|refine uF (hfi) ?_|refine uN (hrm) ?_)
          ·
           refine eT func128 λX0 hX=>?_;simp only[f128,go_sem]
           repeat' (first|exact⟨⟩|refine sp ?_|refine uF (hfi) ?_|refine uN (htr) ?_)
         ·
          refine eT func128 λX0 hX=>?_;simp only[f128,go_sem]
          repeat' (first|exact⟨⟩|refine sp ?_|refine uF (hfi) ?_|refine uN (hwr) ?_)
       ·
        refine eT func128 λX0 hX=>?_;simp only[f128,go_sem]
        repeat' (first|exact⟨⟩|refine sp ?_|refine uN (hrn) ?_)
      ·
       refine eT func128 λX0 hX=>?_;simp only[f128,go_sem]
       repeat' (first|exact⟨⟩|refine sp ?_|refine uN (hst) ?_)
     ·
      refine eT func128 λX0 hX=>?_;simp only[f128,go_sem]
      repeat' (first|exact⟨⟩|refine sp ?_|refine uN (hst) ?_)
    ·
     refine eT func128 λX0 hX=>?_;simp only[f128,go_sem]
     repeat' (first|exact⟨⟩|refine sp ?_|refine uN (hrd) ?_)
   .have hm:=hmk 3 (by simp);refine eT func128 λX0 hX=>?_;simp only[f128,go_sem]
    repeat' (first|exact⟨⟩|refine sp ?_|refine uN (hm) ?_)
  .have hm:=hmk 1 (by simp);refine eT func128 λX0 hX=>?_;simp only[f128,go_sem]
   repeat' (first|exact⟨⟩|refine sp ?_|refine uN (hm) ?_)
 .have hm:=hmk 2 (by simp);refine eT func128 λX0 hX=>?_;simp only[f128,go_sem]
  repeat' (first|exact⟨⟩|refine sp ?_|refine uN (hm) ?_)
end places
end
end Go.Proofs.YtflcjdohmojepaaGreatDoor
end
