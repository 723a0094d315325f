/- Part 47 of roomPlays_card. No condition. -/
import Derived.Test.YtfcindonokhbeaaGreatDoorP44
import Derived.Test.YtfcindonokhbeaaGreatDoorP36
set_option linter.all false
set_option maxRecDepth 100000
set_option maxHeartbeats 0
section
namespace Go.Proofs.YtfcindonokhbeaaGreatDoor
open Go Go.Dm Go.Proofs Go.Proofs.Tryz
def zEi{t:Bl}{l:Bh}(S:OkT t)(hl:l.length<=1000)(Y:∀x∈l,x.p.length<=1000000000/\x.o.d.length<=1000000000/\x.n.d.length<=1000000000):
  ag 72 [.c (.p (.sl 5 (aP t))),.c (.p (.sl 10 (jD l)))] (.tup [.c (.p (.sl 5 (aP (sP t l).1))),.c (.p (.i .i64 (sP t l).2))]):=by
 refine aG ?_;have a:=GL (l:=l) qd Y;unfold sP;cases U:zI2 l
 .rw[U] at a;refine aa func72 λX0 hX=>?_
  repeat' (first|exact⟨⟩|refine sq ?_|refine uN a ?_)
  all_goals exact .inr ⟨_,rfl⟩
 .rw [U] at a;rw[au qh];obtain⟨R,T⟩:∃R,(if !(l.all (nD t)) then (([],17):Bl × Int) else if decide ((120:Int)<((pG t l).length:Int)) then ([],16) else if !zEp (pG t l) then ([],17) else (pG t l,0))=R:=⟨_,rfl⟩
  rw[T];have v:=PLift.up T;clear T;refine aa func72 λX0 hX=>?_
  repeat' (first|exact⟨⟩|refine sq ?_|refine uN a ?_)
  refine aJ aC aI (α:=Nat) (λx=>⟨131,[(0,.c (.p (.sl 5 (aP t)))),(1,.c (.p (.sl 10 (jD l)))),(6,.c (.p (.i .i64 x)))],[]⟩)
   (λx=>x<=l.length/\(l.take x).all (nD t)=true) (λx=>l.length-x) 0 ⟨bc _,rfl⟩ (.inl (aB qj rfl rfl wkS)) ?_
  rintro i ⟨hi,g⟩;by_cases J:i<l.length
  .have f:=ay J;have hg:=jK f;have K:(l.take (i+1)).all (nD t)=nD t l[i]:=by
    rw[dm,f,ly,g,cy];simp only[Option.toList_some,dz,ju,gp]
   have L:nD t l[i]=false->l.all (nD t)=false:=λh=>by
    rw[lh];intro h2;have:=fb.1 h2 _ (ch J);rw[h] at this;cases this
   obtain⟨B,hil,hi0,Z⟩:=lk i l.length;generalize l[i]=c at *;have C:=fT (t:=t) (p:=c.p) (bj S.len qh);rw[show nD t c=(!(((aN t c.p).isSome != (c.k != 1)) || ((aN t c.p).isSome && !cH ((aN t c.p).getD nd0) c.o))) from rfl] at K L
   generalize (aN t c.p).getD nd0=n at *;generalize (aN t c.p).isSome=u at *;have E:=PLift.up L;have M:=PLift.up K;clear L K a U g;cases A:(c.k != 1)<;>cases u
   .have N:=PLift.up (M.down.trans (show _=true by first|rfl|(rw[A];rfl)|(rw[A,y];rfl)))
    clear M E
    repeat' (first|exact⟨⟩|refine sp ?_|refine uN C ?_|refine dQ (id:=7) aC aI [] [0,1,2,3,4,5,6,7,8,9,10,11,12,13,14,15,16,17,18,19,20] ?_)
    exact cW (i+1) ⟨qd,N.down⟩ qd (aB rfl rfl rfl wkS)
   .obtain rfl:([],17)=R:=by rw[<- v.down,E.down (by first|rfl|(rw[A];rfl)|(rw[A,y];rfl))];rfl
    clear M E v
    repeat' (first|exact⟨⟩|refine sp ?_|refine uN C ?_|((refine aK (id:=7) aC aI [] [0,1,2,3,4,5,6,7,8,9,10,11,12,13,14,15,16,17,18,19,20] qi ?_);(repeat' (first|(refine aM ?_)|((refine fR ?_ rfl rfl ?_ ?_);(rotate_left 1);(focus ((repeat' (simp only[*,go_sem,Nat.reduceLT,Nat.reduceEqDiff,↓reduceIte,br,Bool.true_beq]));exact rfl));(simp only[aD]))))))
    all_goals exact .inr ⟨_,rfl⟩
   .obtain rfl:([],17)=R:=by rw[<- v.down,E.down (by first|rfl|(rw[A];rfl)|(rw[A,y];rfl))];rfl
    clear M E v
    repeat' (first|exact⟨⟩|refine sp ?_|refine uN C ?_|((refine aK (id:=7) aC aI [] [0,1,2,3,4,5,6,7,8,9,10,11,12,13,14,15,16,17,18,19,20] qi ?_);(repeat' (first|(refine aM ?_)|((refine fR ?_ rfl rfl ?_ ?_);(rotate_left 1);(focus ((repeat' (simp only[*,go_sem,Nat.reduceLT,Nat.reduceEqDiff,↓reduceIte,bh,br,Bool.false_beq]));exact rfl));(simp only[aD]))))))
    all_goals exact .inr ⟨_,rfl⟩
   .cases y:cH n c.o
    .obtain rfl:([],17)=R:=by rw[<- v.down,E.down (by first|rfl|(rw[A];rfl)|(rw[A,y];rfl))];rfl
     clear M E v
     repeat' (first|exact⟨⟩|refine sq ?_|refine uN C ?_|refine uF eV ?_|refine dG (id:=7) aC aI [] [0,1,2,3,4,5,6,7,8,9,10,11,12,13,14,15,16,17,18,19,20] ?_|refine aM ?_|refine d1 ?_ ?_ ?_|with_reducible exact rfl)
     all_goals exact .inr ⟨_,rfl⟩
    .have N:=PLift.up (M.down.trans (show _=true by first|rfl|(rw[A];rfl)|(rw[A,y];rfl)))
     clear M E
     repeat' (first|exact⟨⟩|refine sq ?_|refine uN C ?_|refine uF eV ?_|refine dG (id:=7) aC aI [] [0,1,2,3,4,5,6,7,8,9,10,11,12,13,14,15,16,17,18,19,20] ?_|refine aM ?_|refine d1 ?_ ?_ ?_|with_reducible exact rfl)
     exact cW (i+1) ⟨qd,N.down⟩ qd (aB rfl rfl rfl wkS)
  .have B:=aj i l.length;rw[bu qd] at g;have O:=zBe (ts:=[t]) ql (by intro x f;simp at f;rw[f];exact S.len);simp only[dt,gw,gx,lv] at O
   repeat' (first|exact⟨⟩|refine sp ?_|refine uN O ?_|((with_reducible apply aA.frz);exact rfl;exact rfl)|refine ai ?_)
   have F:=kH t [];have htl:=S.len;simp only[da,fm] at F;refine aJ aC aI (α:=Nat × List Ba) (λx=>⟨131,[(0,.c (.p (.sl 5 (aP t)))),(1,.c (.p (.sl 10 (jD l)))),(9,.c (.p .nil)),(10,.c (.p (.sl 1 (Go.Dm.encS x.2)))),(11,.c (.p (.i .i64 x.1)))],[.arr 1 [[.sl 5 (aP t)]] true]⟩)
    (λx=>x.1<=l.length/\JL t (l.take x.1)=x.2) (λx=>l.length-x.1) (0,dX [] t) ⟨bc _,rfl⟩ (.inl (aB qj rfl rfl wkS)) ?_
   clear B;rintro⟨k,z⟩ ⟨A,w⟩;simp only at A w;have hpl:z.length<=2000:=by
    have:=zI6 t (l.take k);rw[w,cr] at this;omega
   by_cases G:k<l.length
   .have f:=ay G;have hg:=jK f;have e:=zEn (t:=t) f;rw[w] at e;obtain⟨B,hkl,-,Z⟩:=lk k l.length;generalize l[k]=c at *;have H:=PLift.up e;clear e w;have he:=zHe (l:=z) (s:=c.p) qd
    repeat' (first|exact⟨⟩|refine sp ?_|refine uN he ?_|refine ai ?_)
    exact cW (k+1,AO c.p z) ⟨qd,H.down⟩ qf (aB rfl rfl rfl wkS)
   .have B:=aj k l.length;rw[bu qd] at w
    repeat' (first|exact⟨⟩|refine sp ?_)
    clear B;refine dM aC aI 9 5 rfl ?_;refine aJ aC aI (α:=Nat × Bl) (λx=>⟨131,[(0,.c (.p (.sl 5 (aP t)))),(1,.c (.p (.sl 10 (jD l)))),(9,.c (.own 1 0 x.2.length)),(10,.c (.p (.sl 1 (Go.Dm.encS z)))),(12,.c (.p (.i .i64 x.1)))],[.arr 1 [[.sl 5 (aP t)]] true,.arr 5 (aP x.2) false]⟩)
     (λx=>x.1<=z.length/\x.2.length<=x.1/\(z.take x.1).flatMap (zKo t l)=x.2) (λx=>z.length-x.1) (0,[]) ⟨bc _,bg _,rfl⟩ (.inl (aB qj rfl rfl wkS)) ?_
    rintro⟨j,out⟩ ⟨hj,hol,r⟩;simp only at hj hol r;by_cases I:j<z.length
    .have f:=ay I;have hgp:=Go.Dm.encS_at f;have e:=zBl (t:=t) (l:=l) f;rw[r] at e;obtain⟨B,hjl,hj0,Z⟩:=lk j z.length;generalize z[j]=p at *;have C:=fT (t:=t) (p:=p) (bj S.len qh);have V:GG t l p=l.foldl (at1 p) ((aN t p).getD nd0,(aN t p).isSome):=rfl;unfold zKo at e;generalize (aN t p).getD nd0=n0 at *;generalize (aN t p).isSome=u0 at *;have hS:=PLift.up e;have hA:=PLift.up V;clear e V w r a U g
     repeat' (first|exact⟨⟩|refine sp ?_|refine uN C ?_)
     refine aJ aC aI (α:=Nat × Nd × Bool) (λx=>⟨131,[(0,.c (.p (.sl 5 (aP t)))),(1,.c (.p (.sl 10 (jD l)))),(9,.c (.own 1 0 out.length)),(10,.c (.p (.sl 1 (Go.Dm.encS z)))),(12,.c (.p (.i .i64 j))),(13,.c (.ptr 2 0)),(14,.c (.p (.b x.2.2))),(15,.c (.p (.i .i64 x.1)))],[.arr 1 [[.sl 5 (aP t)]] true,.arr 5 (aP out) false,.box (ndc x.2.1.k x.2.1.m x.2.1.t x.2.1.d)]⟩)
      (λx=>x.1<=l.length/\(l.take x.1).foldl (at1 p) (n0,u0)=x.2) (λx=>l.length-x.1) (0,n0,u0) ⟨bc _,rfl⟩ (.inl (aB qj rfl rfl wkS)) ?_
     rintro⟨q,n,ok⟩ ⟨hq,y⟩;simp only at hq y;by_cases W:q<l.length
     .have f:=ay W;have hg:=jK f;have e:=zKy (p:=p) (s:=(n0,u0)) f;rw[y] at e;clear B Z;obtain⟨B,hql,hq0,Z⟩:=lk q l.length;generalize l[q]=c at *;cases X:(c.p==p)
      .rw[show at1 p (n,ok) c=(n,ok) by unfold at1;rw[au (by rw[X];decide)]] at e
       have H:=PLift.up e;clear e y C
       repeat' (first|exact⟨⟩|refine sp ?_|refine dR (id:=22) aC aI [] [0,1,2,3,4,5,6,7,8,9] ?_)
       exact cW (q+1,n,ok) ⟨qd,H.down⟩ qf (aB rfl rfl rfl wkS)
      .rw[show at1 p (n,ok) c=(c.n,c.k != 2) by unfold at1;rw[aw X]] at e
       have H:=PLift.up e;clear e y C
       repeat' (first|exact⟨⟩|refine sp ?_|refine dR (id:=22) aC aI [] [0,1,2,3,4,5,6,7,8,9] ?_)
       exact cW (q+1,c.n,c.k != 2) ⟨qd,H.down⟩ qf (aB rfl rfl rfl wkS)
     .clear B;have B:=aj q l.length;rw[bu qd] at y;have P:=hS.down;rw[hA.down,y] at P;have H:=PLift.up P;clear hS hA P y C;cases ok
      .repeat' (first|exact⟨⟩|refine sp ?_)
       exact cW (j+1,out) ⟨qd,qf,H.down.trans (dh _)⟩ qf (aB rfl rfl rfl wkS)
      .repeat' (first|exact⟨⟩|refine sp ?_|((refine aK (id:=26) aC aI [7,8] [1,2,3,4,5,6,7,0,8,9] qi ?_);(repeat' (first|(refine aM ?_)|((refine bJ ?_ ?_ rfl rfl rfl ?_ ?_);(rotate_left 2);(focus ((repeat' (first|exact⟨⟩|refine sp ?_|((with_reducible refine And.intro ?_ ?_);((first|omega|decide)))));((refine And.intro ?_ ?_<;>exact rfl))));(simp only[aD]))|((refine bI ?_ rfl rfl rfl ?_ ?_);(rotate_left 1);(focus ((repeat' (first|exact aS|refine aL ?_ ?_));(all_goals ((repeat' (first|exact⟨⟩|refine sp ?_));(try (exact rfl))))));(simp only[aD]))))))
       exact dN (j+1,out++[⟨p,n⟩]) 1 4 ⟨qd,qk,show (z.take (j+1)).flatMap (zKo t l)=out++[⟨p,n⟩] from H.down⟩ qf rfl rfl (aB rfl rfl rfl wkS)
    .have B:=aj j z.length;rw[bu qd] at r;have hO:pG t l=out:=by unfold pG;rw[w];exact r
     have T:=v.down;rw[g,au qh,hO] at T;have Q:∀x∈out,x.p.length<=1000000000/\x.n.d.length<=1000000000:=λx f=>by
      rw[<- hO] at f;exact zEl S (λc X=>⟨(Y c X).1,(Y c X).2.2⟩) f
     have D:=zEo (t:=out) qd (λx f=>(Q x f).1) (λx f=>(Q x f).2);subst T;clear r hO w Q Y g v J G I htl O a U S F;cases hd:decide ((120:Int)<(out.length:Int))
     .rw [au qh];cases hq:zEp out
      .rw[hq] at D;rw[aw qh]
       repeat' (first|exact⟨⟩|refine sq ?_|refine uN D ?_|((with_reducible apply aA.frz);exact rfl;exact rfl))
       all_goals exact .inr ⟨_,rfl⟩
      .rw[hq] at D;rw[au qh]
       repeat' (first|exact⟨⟩|refine sq ?_|refine uN D ?_|((with_reducible apply aA.frz);exact rfl;exact rfl))
     .rw[aw rfl]
      repeat' (first|exact⟨⟩|refine sp ?_)
      all_goals exact .inr ⟨_,rfl⟩
end Go.Proofs.YtfcindonokhbeaaGreatDoor
end
