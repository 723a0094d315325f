/- Part 46 of roomPlays_card. No condition. -/
import Derived.Test.YtfcindonokhbeaaGreatDoorP32
import Derived.Test.YtfcindonokhbeaaGreatDoorP36
import Derived.Test.YtfcindonokhbeaaGreatDoorP31
set_option linter.all false
set_option maxRecDepth 100000
set_option maxHeartbeats 0
section
namespace Go.Proofs.YtfcindonokhbeaaGreatDoor
open Go Go.Dm Go.Proofs Go.Proofs.Tryz
def yK(l:Bh)(out:Bo):Bc:=l.map λc=>[.b (lS out c.p)]
def zJX(l:Bh)(out:Bo):(yK l out).length=l.length:=by simp[yK]
def zNC{l:Bh}{out:Bo}{k:Nat}{x:Ch}(h:l[k]?=some x):(yK l out).getD k []=[.b (lS out x.p)]:=by
 simp only[yK,ed,dv,h];rfl
def zJZ(l:Bh)(out:Bo):(∀x∈yK l out,x.length=1)=True:=fr λx a=>by
 obtain⟨y,_,rfl⟩:=cg.1 a;rfl
def zJY(l:Bh):List.replicate l.length [PV.b false]=yK l []:=by
 unfold yK lS;simp[List.map_const']
def zJ0{l:Bh}(d:l.Pairwise λx y=>cC x.p y.p=true){out:Bo}{k:Nat}{y:Ch}(i:l[k]?=some y)(a:Ba):(yK l out).set k [.b true]=yK l (out++[⟨a,y.p⟩]):=by
 obtain⟨f,rfl⟩:=bz.1 i;refine List.ext_getElem (by simp[yK]) λj n m=>?_;have g:j<l.length:=by simpa[yK] using m
 rw[List.getElem_set];simp only[yK,List.getElem_map,lS,List.any_append,kg,oo,dn];by_cases c:k=j
 .subst c;rw[aw rfl];simp
 .rw [au c];have:(l[k].p==l[j].p)=false:=by
   rcases cc k j with h|h
   .exact mO (gg.1 d k j f g h)
   .have:=mO (gg.1 d j k g f qd);cases e:(l[k].p==l[j].p)
    .rfl
    .rw[eq_of_beq e] at this;simp at this
  rw[this,dn]
def LU{l:Bh}(Q:l.length<=1000000)(R:l.Pairwise λx y=>cC x.p y.p=true)(S:∀x∈l,x.o.wf/\x.n.wf)(D:∀x∈l,x.p.length<=1000000000/\x.o.d.length<=1000000000/\x.n.d.length<=1000000000):
  ag 126 [.c (.p (.sl 10 (jD l)))] (.c (.p (.sl 2 (rA (dU l))))):=by
 refine aG ?_;have r:=GL Q D;rw[<- GQ S] at r;unfold dU;cases t:gU l
 .rw[t] at r;refine aa func126 λT hX=>?_
  repeat' (first|simp only[*,go_sem,Nat.reduceLT,Nat.reduceEqDiff,↓reduceIte,]|((with_reducible refine mI r ?_ ?_ ?_);exact rfl;exact rfl))
  all_goals first|rfl|simp
 .rw [t] at r;rw[aw rfl];have u:=zJY l;have U:=zJX l;have V:=zJZ l;have W:(l.length:Int)<=1000000:=qd
  refine aa func126 λT hX=>?_
  repeat' (first|simp only[*,go_sem,Nat.reduceLT,Nat.reduceEqDiff,↓reduceIte,]|((with_reducible refine mI r ?_ ?_ ?_);exact rfl;exact rfl)|((with_reducible refine And.intro ?_ ?_);omega))
  refine dM aC aI 4 2 rfl ?_;refine aJ aC aI (α:=Nat × Bo) (λx=>⟨97,[(0,.c (.p (.sl 10 (jD l)))),(3,.c (.own 0 0 l.length)),(5,.c (.p (.i .i64 x.1))),(4,.c (.own 1 0 x.2.length))],[.arr 1 (yK l x.2) false,.arr 2 (rA x.2) false]⟩)
   (λx=>x.1<=l.length/\x.2.length<=x.1/\(l.drop x.1).foldl (eL l) x.2=nZ l) (λx=>l.length-x.1) (0,[]) ⟨bc _,bg _,rfl⟩ (.inl (aB qj (by rw[<- u];rfl) rfl qo)) ?_
  clear r u;rintro⟨i,out⟩ ⟨X,E,e⟩;simp only at X E e;by_cases v:i<l.length
  .have A:=ay v;have Y:=jK A;have F:=drop_at A;obtain⟨Z,hli,hi0,w1⟩:=lk i l.length;have G:=(D _ (ch v)).2.1;generalize l[i]=x at A Y F G;rw[F,gx,eL] at e;have B:(x.k != 2) = !(x.k==2):=rfl;have H:(x.o.k != 1) = !(x.o.k==1):=rfl;rw[B,H] at e;clear A F;cases w:(x.k==2)
   .rw[w] at e B;have b:i+1<=l.length/\out.length<=i+1/\(l.drop (i+1)).foldl (eL l) out=nZ l:=⟨qd,qd,by simpa using e⟩
    clear e
    repeat' (simp only[*,go_sem,Nat.reduceLT,Nat.reduceEqDiff,↓reduceIte,br])
    exact cW (i+1,out) b qf (aB rfl rfl rfl qo)
   .cases C:(x.o.k==1)
    .rw[w,C] at e;rw[w] at B;rw[C] at H;have b:i+1<=l.length/\out.length<=i+1/\(l.drop (i+1)).foldl (eL l) out=nZ l:=⟨qd,qd,by simpa using e⟩
     clear e
     repeat' (simp only[*,go_sem,Nat.reduceLT,Nat.reduceEqDiff,↓reduceIte,br,bh])
     exact cW (i+1,out) b qf (aB rfl rfl rfl qo)
    .rw [w,C,bh,dn,au qh] at e;rw[w] at B;rw[C] at H;have b:=PLift.up e;clear e
     repeat' (simp only[*,go_sem,Nat.reduceLT,Nat.reduceEqDiff,↓reduceIte,bh])
     refine aJ aC aI (α:=Nat) (λk=>⟨97,[(0,.c (.p (.sl 10 (jD l)))),(3,.c (.own 0 0 l.length)),(5,.c (.p (.i .i64 i))),(4,.c (.own 1 0 out.length)),(6,.c (.p (.i .i64 k)))],[.arr 1 (yK l out) false,.arr 2 (rA out) false]⟩)
      (λk=>k<=l.length/\nA x.o.d out (l.drop k)=nA x.o.d out l) (λk=>l.length-k) 0 ⟨bc _,rfl⟩ (.inl (aB qj rfl rfl qo)) ?_
     rintro k ⟨hk,a⟩;by_cases z:k<l.length
     .have s:=ay z;have I:=jK s;have j:=drop_at s;obtain⟨h2,M,hk0,w2⟩:=lk k l.length;have J:=(D _ (ch z)).2.2;have N:=zNC (out:=out) s;have g:=zJ0 R (out:=out) s x.p;generalize l[k]=y at s I j J N g;rw[j,nA] at a;clear s j;have hob:out.length<=1000000:=qd
      have K:(y.n.d==x.o.d)=(x.o.d==y.n.d):=by
       rw[gi];simp only[dq];exact⟨λh=>h.symm,λh=>h.symm⟩
      cases O:lS out y.p<;>cases c1:(y.k==1)<;>cases c2:(y.n.k==1)<;>cases P:(x.o.d==y.n.d)
      all_goals rw[c1,c2,P,O] at a
      all_goals rw[P] at K
      all_goals rw[O] at N
      case false.true.true.true =>
       rw[aw qh] at a;have f:=b.down;rw[<- a] at f;have m:i+1<=l.length/\(out++[(⟨x.p,y.p⟩:Pr)]).length<=i+1/\(l.drop (i+1)).foldl (eL l) (out++[(⟨x.p,y.p⟩:Pr)])=nZ l:=⟨qd,qk,f⟩
       have q:=PLift.up g;clear a b f g
       repeat' (first|simp only[*,go_sem,Nat.reduceLT,Nat.reduceLeDiff,Nat.reduceEqDiff,↓reduceIte,]|((refine aK (id:=12) aC aI [] [0,1,2,3,4,5,6,7,8,9,10,11,12,13,14,15,16,17,18,19,20,21,22,23,24,25,26,27,28,29,30,31,32,33,34,35,36,37,38] qi ?_);(repeat' (first|(refine aM ?_)|((refine fR ?_ rfl rfl ?_ ?_);(rotate_left 1);(focus ((repeat' (simp only[*,go_sem,Nat.reduceLT,Nat.reduceEqDiff,↓reduceIte,br]));exact rfl));(simp only[aD])))))|((refine aK (id:=14) aC aI [12,13] [1,2,3,4,5,6,7,8,9,10,11,12,0,13,14] qi ?_);(repeat' (first|(refine aM ?_)|((refine bJ ?_ ?_ rfl rfl rfl ?_ ?_);(rotate_left 2);(focus ((repeat' (first|simp only[*,go_sem,Nat.reduceLT,Nat.reduceLeDiff,Nat.reduceEqDiff,↓reduceIte,Nat.reduceAdd,Nat.reduceMul,Nat.reduceBEq,]|((with_reducible refine And.intro ?_ ?_);((first|omega|decide)))));((refine And.intro ?_ ?_<;>exact rfl))));(simp only[aD]))|((refine bI ?_ rfl rfl rfl ?_ ?_);(rotate_left 1);(focus ((repeat' (first|exact aS|refine aL ?_ ?_));(all_goals ((repeat' (simp only[*,go_sem,Nat.reduceLT,Nat.reduceLeDiff,Nat.reduceEqDiff,↓reduceIte,Nat.reduceAdd,]));(try (exact rfl))))));(simp only[aD]))))))
       exact dN (i+1,out++[⟨x.p,y.p⟩]) 1 3 m qf rfl rfl (aB rfl (by rw[<- q.down];rfl) rfl (by simp[bR,cL,bA,bD,aX,zJj,zE5,zJh,]))
      all_goals
       rw[au qh] at a;have L:k+1<=l.length/\nA x.o.d out (l.drop (k+1))=nA x.o.d out l:=⟨qd,a⟩
       clear a b g
       repeat' (first|simp only[*,go_sem,Nat.reduceLT,Nat.reduceEqDiff,↓reduceIte,]|((refine aK (id:=12) aC aI [] [0,1,2,3,4,5,6,7,8,9,10,11,12,13,14,15,16,17,18,19,20,21,22,23,24,25,26,27,28,29,30,31,32,33,34,35,36,37,38] qi ?_);(repeat' (first|(refine aM ?_)|((refine fR ?_ rfl rfl ?_ ?_);(rotate_left 1);(focus ((repeat' (simp only[*,go_sem,Nat.reduceLT,Nat.reduceEqDiff,↓reduceIte,br,bh]));exact rfl));(simp only[aD]))))))
       exact cW (k+1) L qd (aB rfl rfl rfl qo)
     .have h2:=aj k l.length;rw[cw qd,nA] at a;have f:=b.down;rw[<- a] at f;have m:i+1<=l.length/\out.length<=i+1/\(l.drop (i+1)).foldl (eL l) out=nZ l:=⟨qd,qd,f⟩
      clear a b f
      repeat' (simp only[*,go_sem,Nat.reduceLT,Nat.reduceEqDiff,↓reduceIte,])
      exact cW (i+1,out) m qf (aB rfl rfl rfl qo)
  .have Z:=aj i l.length;rw[cw qd,lv] at e;rw[<- e];clear e
   repeat' (simp only[*,go_sem,Nat.reduceLT,Nat.reduceEqDiff,↓reduceIte,])
   all_goals first|rfl|(rw[bu ql])|simp
def zJG(bad:Bg)(d:Ba):(bad.map Cf.p).any (λx=>x==d)=bad.any λc=>c.p==d:=by rw[List.any_map];rfl
def LS{b o t:Bl}(J:OkT b)(X:OkT o)(Y:OkT t):
  ag 75 [.c (.p (.sl 5 (aP b))),.c (.p (.sl 5 (aP o))),.c (.p (.sl 5 (aP t)))] (.tup [.c (.p (.sl 5 (aP (eX b o t).1))),.c (.p (.sl 2 (eI (eX b o t).2)))]):=by
 refine aG ?_;have e1:=J.len;have e2:=X.len;have e3:=Y.len;have hp:=zBe (ts:=[b,o,t]) ql (by intro s hs;simp at hs;rcases hs with rfl|rfl|rfl<;>assumption);simp only[dt,gw,gx,lv,zEa] at hp;have hpl:=tW b o t;have Q:=GI J X;rw[zO J X] at Q;have R:=GI J Y;rw[zO J Y] at R;have l1:=jG b o;have l2:=jG b t;have bnd:∀{s u:Bl},OkT s->OkT u->∀x∈dB s u,x.p.length<=1000000000/\x.o.d.length<=1000000000/\x.n.d.length<=1000000000:=λhs hu x C=>by
  obtain⟨Z,h2⟩:=iQ C;exact⟨(DX hs.s hu.s x C).1,by rw[Z];exact bj (hs.getd _) qh,by rw[h2];exact bj (hu.getd _) qh⟩
 have p1:=LU (l:=dB b o) qd (TN b o) (λx C=>xA J X C) (bnd J X);have p2:=LU (l:=dB b t) qd (TN b t) (λx C=>xA J Y C) (bnd J Y);have m1:=mL (dB b o);have m2:=mL (dB b t);have hAl:(dU (dB b o)).length<=240:=qd
 have hBl:(dU (dB b t)).length<=240:=qd
 have hml:(eX b o t)=if (zC8 b o t).length==0 then (HT b o t,[]) else ([],zC8 b o t):=rfl
 have hbe:zC8 b o t=fH (lJ b o t (gD b o t)++(gK (dU (dB b o)) (dU (dB b t))++gJ (HT b o t) (lJ b o t (gD b o t)))):=by
  rw[zAg];refine BD ((zY _).trans ?_) (sW _);unfold zTf;exact List.Perm.append_left _ o3
 have hol0:=zCr b o t (gD b o t);have hbl0:=zCq b o t (gD b o t);have hrl:=GP (dU (dB b o)) (dU (dB b t));have hor:=FU (HT b o t) (lJ b o t (gD b o t));have K:=XI J.s X.s Y.s;rw[hml,hbe];clear hml hbe bnd l1 l2 m1 m2;unfold HT at *;generalize gD b o t=ps at *;generalize dB b o=D1 at *;generalize dB b t=D2 at *;generalize dU D1=A at *;generalize dU D2=B at *;refine zPp aC func75 rfl rfl λX0 hX=>?_;simp only[f75,go_sem];refine bE aC aI ?_
 repeat' (first|exact⟨⟩|refine sp ?_)
 refine bE aC aI ?_
 repeat' (first|exact⟨⟩|refine sp ?_)
 refine bE aC aI ?_
 repeat' (first|exact⟨⟩|refine sp ?_)
 refine bE aC aI ?_
 repeat' (first|exact⟨⟩|refine sp ?_|refine uN hp ?_|((with_reducible apply aA.frz);exact rfl;exact rfl)|refine ai ?_)
 refine bE aC aI ?_
 repeat' (first|exact⟨⟩|refine sp ?_)
 refine mF aC aI (α:=Unit) (λ_=>⟨186,[(0,.c (.p (.sl 5 (aP b)))),(1,.c (.p (.sl 5 (aP o)))),(2,.c (.p (.sl 5 (aP t)))),(8,.c (.p (.sl 5 (aP (uP b o t ps))))),(9,.c (.own 1 0 (lJ b o t ps).length)),(11,.c (.p (.sl 1 (Go.Dm.encS ((lJ b o t ps).map Cf.p)))))],
   [.arr 1 [[.sl 5 (aP b)],[.sl 5 (aP o)],[.sl 5 (aP t)]] true,.arr 2 (eI (lJ b o t ps)) false]⟩) (λ_=>True) ?_ ?_
 .repeat' (first|exact⟨⟩|refine sp ?_)
  refine dM aC aI 9 2 rfl ?_;refine dM aC aI 8 5 rfl ?_;refine dM aC aI 11 1 rfl ?_;refine sF (α:=Nat × Bl × Bg) (λx=>⟨186,[(0,.c (.p (.sl 5 (aP b)))),(1,.c (.p (.sl 5 (aP o)))),(2,.c (.p (.sl 5 (aP t)))),(10,.c (.p (.sl 1 (Go.Dm.encS ps)))),(12,.c (.p (.i .i64 x.1))),(9,.c (.own 1 0 x.2.2.length)),(8,.c (.own 2 0 x.2.1.length)),(11,.c (.own 3 0 x.2.2.length))],
    [.arr 1 [[.sl 5 (aP b)],[.sl 5 (aP o)],[.sl 5 (aP t)]] true,.arr 2 (eI x.2.2) false,.arr 5 (aP x.2.1) false,.arr 1 (Go.Dm.encS (x.2.2.map Cf.p)) false]⟩)
   (λx=>x.1<=ps.length/\x.2.1.length<=x.1/\x.2.2.length<=x.1/\x.2.1++uP b o t (ps.drop x.1)=uP b o t ps/\x.2.2++lJ b o t (ps.drop x.1)=lJ b o t ps) (λx=>ps.length-x.1) (0,[],[]) ⟨bc _,bg _,bg _,rfl,rfl⟩ (.inl (aB qm rfl rfl wkS)) ?_
  clear hp Q R p1 p2 hor hrl K;rintro⟨k,e,bad⟩ ⟨hk,L,hbl,f,j⟩;simp only at hk L hbl f j;have E:(bad.map Cf.p).length=bad.length:=di _;by_cases H:k<ps.length
  .have C:=ay H;have M:=drop_at C;have hg:=Go.Dm.encS_at C;obtain⟨Z,hli,hk0,w1⟩:=lk k ps.length;generalize ps[k]=p at C hg M;have g1:=fT (t:=b) (p:=p) qd;have g2:=fT (t:=o) (p:=p) qd;have g3:=fT (t:=t) (p:=p) qd;rw[M] at f j;have eJ:uP b o t (p::ps.drop (k+1))=mgI b o t p++uP b o t (ps.drop (k+1)):=rfl;have eK:lJ b o t (p::ps.drop (k+1))=mgC b o t p++lJ b o t (ps.drop (k+1)):=rfl;rw[eJ] at f;rw[eK] at j;unfold mgI at f;unfold mgC at j;unfold mgN at f j;have r:=zP8 (k:=((aN b p).getD nd0).k) (m:=((aN b p).getD nd0).m) (t:=((aN b p).getD nd0).t) (d:=((aN b p).getD nd0).d) (k1:=((aN o p).getD nd0).k) (m1:=((aN o p).getD nd0).m) (t1:=((aN o p).getD nd0).t) (d1:=((aN o p).getD nd0).d) (k2:=((aN t p).getD nd0).k) (m2:=((aN t p).getD nd0).m) (t2:=((aN t p).getD nd0).t) (d2:=((aN t p).getD nd0).d) (aN b p).isSome (aN o p).isSome (aN t p).isSome;simp only[AR] at r;have g:=zIt (J.gett p) (X.gett p) (Y.gett p) (aN b p).isSome (aN o p).isSome (aN t p).isSome;generalize (aN b p).getD nd0=x at g1 r f j g;generalize (aN b p).isSome=u at g1 r f j g;generalize (aN o p).getD nd0=y at g2 r f j g;generalize (aN o p).isSome=v at g2 r f j g;generalize (aN t p).getD nd0=z at g3 r f j g;generalize (aN t p).isSome=w at g3 r f j g;generalize zI x y z u v w=N' at r g;generalize mB x y z u v w=N at g f j;obtain⟨n,ok,kk⟩:=N;obtain⟨n',ok',F⟩:=N';simp only at r f j g;obtain⟨rfl,rfl,S⟩:=g;clear C M eJ eK;have V:(F != 0) = !(F==0):=rfl;cases I:(F==0)
   .rw[V,I,aw qh] at f j;rw[I] at V;rw[e9] at f;have h:k+1<=ps.length/\e.length<=k+1/\(bad++[(⟨p,F⟩:Cf)]).length<=k+1/\e++uP b o t (ps.drop (k+1))=uP b o t ps/\(bad++[(⟨p,F⟩:Cf)])++lJ b o t (ps.drop (k+1))=lJ b o t ps:=⟨qd,qd,qk,f,by simpa using j⟩
    have hmp:(bad++[(⟨p,F⟩:Cf)]).map Cf.p=bad.map Cf.p++[p]:=ql
    clear f j I S;generalize bad.map Cf.p=sk at E hmp;refine bE aC aI ?_
    repeat' (first|exact⟨⟩|refine sp ?_)
    refine jT ?_;refine gE aC aI ?_
    repeat' (first|exact⟨⟩|refine sq ?_|refine uN g1 ?_|refine uN g2 ?_|refine uN g3 ?_|refine uN r ?_|((with_reducible refine And.intro ?_ ?_);((first|omega|decide))))
    refine zQM 1 9 qm rfl ?_;refine gE aC aI ?_
    repeat' (first|exact⟨⟩|refine sp ?_)
    exact dN (k+1,e,bad++[⟨p,F⟩]) 3 11 h qf qm rfl (aB qm (by simp only[hmp];rfl) rfl wkS)
   .rw [V,I,au qh] at f j;rw[I] at V;rw[e9] at j;cases ok'
    .rw[au qh,e9] at f;have h:k+1<=ps.length/\e.length<=k+1/\bad.length<=k+1/\e++uP b o t (ps.drop (k+1))=uP b o t ps/\bad++lJ b o t (ps.drop (k+1))=lJ b o t ps:=⟨qd,qd,qd,f,j⟩
     clear f j I S;refine bE aC aI ?_
     repeat' (first|exact⟨⟩|refine sp ?_)
     refine jT ?_;refine gE aC aI ?_
     repeat' (first|exact⟨⟩|refine sq ?_|refine uN g1 ?_|refine uN g2 ?_|refine uN g3 ?_|refine uN r ?_)
     refine gE aC aI ?_
     repeat' (first|exact⟨⟩|refine sp ?_)
     exact cW (k+1,e,bad) h qf (aB qm rfl rfl wkS)
    .rw[aw rfl] at f;rw[<- S rfl] at f;have h:k+1<=ps.length/\(e++[(⟨p,n'⟩:It)]).length<=k+1/\bad.length<=k+1/\(e++[(⟨p,n'⟩:It)])++uP b o t (ps.drop (k+1))=uP b o t ps/\bad++lJ b o t (ps.drop (k+1))=lJ b o t ps:=⟨qd,qk,qd,by simpa using f,j⟩
     clear f j I S;refine bE aC aI ?_
     repeat' (first|exact⟨⟩|refine sp ?_)
     refine jT ?_;refine gE aC aI ?_
     repeat' (first|exact⟨⟩|refine sq ?_|refine uN g1 ?_|refine uN g2 ?_|refine uN g3 ?_|refine uN r ?_|((refine aK (id:=16) aC aI [7,8] [1,2,3,4,5,6,7,0,8,9] qi ?_);(repeat' (first|(refine aM ?_)|((refine bJ ?_ ?_ rfl rfl rfl ?_ ?_);(rotate_left 2);(focus ((repeat' (first|exact⟨⟩|refine sp ?_|((with_reducible refine And.intro ?_ ?_);((first|omega|decide)))));((refine And.intro ?_ ?_<;>exact rfl))));(simp only[aD]))|((refine bI ?_ rfl rfl rfl ?_ ?_);(rotate_left 1);(focus ((repeat' (first|exact aS|refine aL ?_ ?_));(all_goals ((repeat' (first|exact⟨⟩|refine sp ?_));(try (exact rfl))))));(simp only[aD]))))))
     refine gE aC aI ?_
     repeat' (first|exact⟨⟩|refine sp ?_)
     exact dN (k+1,e++[⟨p,n'⟩],bad) 2 9 h qf qm rfl (aB qm rfl rfl wkS)
  .have Z:=aj k ps.length;rw[cw qd] at f j;have eJ:e=uP b o t ps:=by rw[<- f];simp[uP]
   have eK:bad=lJ b o t ps:=by rw[<- j];simp[lJ]
   clear f j;rw[<- eJ,<- eK];clear eJ eK;refine bE aC aI ?_
   repeat' (first|exact⟨⟩|refine sp ?_)
   exact zCG () 8 2 0 e.length 11 3 0 bad.length trivial rfl (iD rfl (by rw[cV])) rfl (iD rfl (by rw[Go.Dm.encS_len,E])) (aB qm rfl rfl wkS)
 rintro - -;have hoq:∀x∈uP b o t ps,x.p.length<=4611686018427387904:=λx C=>bj (K x C) qh;clear hp K;generalize hO:uP b o t ps=e at *;generalize hC:lJ b o t ps=bad at *;clear hO hC;refine bE aC aI ?_
 repeat' (first|exact⟨⟩|refine sp ?_|refine uN Q ?_|refine uN p1 ?_)
 refine bE aC aI ?_
 repeat' (first|exact⟨⟩|refine sp ?_|refine uN R ?_|refine uN p2 ?_)
 clear Q R p1 p2;obtain⟨bd1,hb1⟩:∃bd1:Bg,bd1=bad++gK A B:=⟨_,rfl⟩;have hB1:=PLift.up hb1;have hbl1:bd1.length<=1000:=by rw[hb1,bo];omega
 clear hb1;refine mF aC aI (α:=Unit) (λ_=>⟨186,[(8,.c (.p (.sl 5 (aP e)))),(9,.c (.own 1 0 bd1.length)),(11,.c (.p (.sl 1 (Go.Dm.encS (bad.map Cf.p)))))],
   [.arr 1 [[.sl 5 (aP b)],[.sl 5 (aP o)],[.sl 5 (aP t)]] true,.arr 2 (eI bd1) false]⟩) (λ_=>True) ?_ ?_
 .repeat' (first|exact⟨⟩|refine sp ?_)
  refine aJ aC aI (α:=Nat × Bg) (λx=>⟨186,[(8,.c (.p (.sl 5 (aP e)))),(11,.c (.p (.sl 1 (Go.Dm.encS (bad.map Cf.p))))),(22,.c (.p (.sl 2 (rA A)))),(23,.c (.p (.sl 2 (rA B)))),(24,.c (.p (.i .i64 x.1))),(9,.c (.own 1 0 x.2.length))],
    [.arr 1 [[.sl 5 (aP b)],[.sl 5 (aP o)],[.sl 5 (aP t)]] true,.arr 2 (eI x.2) false]⟩)
   (λx=>x.1<=A.length/\x.2.length<=bad.length+x.1/\x.2++(A.drop x.1).flatMap (zEu B)=bd1) (λx=>A.length-x.1) (0,bad) ⟨bc _,ql,hB1.down.symm⟩ (.inl (aB qm rfl rfl wkS)) ?_
  rintro⟨i,D⟩ ⟨hi,L,f⟩;simp only at hi L f;by_cases H:i<A.length
  .have C:=ay H;have hg:=EH C;have M:=drop_at C;obtain⟨Z,hli,hi0,w1⟩:=lk i A.length;generalize A[i]=x at C hg M;have G:=zQl (l:=B) (p:=x.a) qd;rw[M,jq,zEu] at f;clear C M;have hob:D.length<=1000000:=qd
   cases T:toF B x.a with
   | none =>
    rw[T] at G f;simp only[ke,gm,e9] at G f;have h:i+1<=A.length/\D.length<=bad.length+(i+1)/\D++(A.drop (i+1)).flatMap (zEu B)=bd1:=⟨qd,qd,f⟩
    clear f T
    repeat' (first|exact⟨⟩|refine sp ?_|refine uF G ?_)
    exact cW (i+1,D) h qf (aB qm rfl rfl wkS)
   | some q =>
    rw[T] at G f;simp only[fe,gy] at G f;have V:(q != x.b) = !(q==x.b):=rfl;rw[V] at f;clear T;cases I:(q==x.b)
    .rw[I,aw qh] at f;rw[I] at V;have h:i+1<=A.length/\(D++[(⟨x.a,6⟩:Cf)]).length<=bad.length+(i+1)/\(D++[(⟨x.a,6⟩:Cf)])++(A.drop (i+1)).flatMap (zEu B)=bd1:=⟨qd,qk,by simpa using f⟩
     clear f
     repeat' (first|exact⟨⟩|refine sq ?_|refine uF G ?_|((with_reducible refine And.intro ?_ ?_);((first|omega|decide))))
     exact dN (i+1,D++[⟨x.a,6⟩]) 1 3 h qf qm rfl (aB qm rfl rfl wkS)
    .rw[I,au qh,e9] at f;rw[I] at V;have h:i+1<=A.length/\D.length<=bad.length+(i+1)/\D++(A.drop (i+1)).flatMap (zEu B)=bd1:=⟨qd,qd,f⟩
     clear f
     repeat' (first|exact⟨⟩|refine sq ?_|refine uF G ?_)
     exact cW (i+1,D) h qf (aB qm rfl rfl wkS)
  .have Z:=aj i A.length;rw[cw qd,nu,dh] at f;rw[<- f];clear f
   repeat' (first|exact⟨⟩|refine sp ?_)
   exact zRh () trivial (aB qm rfl rfl wkS)
 rintro - -;obtain⟨bd2,hb2⟩:∃bd2:Bg,bd2=bd1++gJ e bad:=⟨_,rfl⟩;have hB2:=PLift.up hb2;have hbl2:bd2.length<=2000:=by rw[hb2,bo];omega
 clear hb2;refine mF aC aI (α:=Unit) (λ_=>⟨186,[(8,.c (.p (.sl 5 (aP e)))),(9,.c (.own 1 0 bd2.length))],
   [.arr 1 [[.sl 5 (aP b)],[.sl 5 (aP o)],[.sl 5 (aP t)]] true,.arr 2 (eI bd2) false]⟩) (λ_=>True) ?_ ?_
 .repeat' (first|exact⟨⟩|refine sp ?_)
  refine aJ aC aI (α:=Nat × Bg) (λx=>⟨186,[(8,.c (.p (.sl 5 (aP e)))),(11,.c (.p (.sl 1 (Go.Dm.encS (bad.map Cf.p))))),(27,.c (.p (.i .i64 x.1))),(9,.c (.own 1 0 x.2.length))],
    [.arr 1 [[.sl 5 (aP b)],[.sl 5 (aP o)],[.sl 5 (aP t)]] true,.arr 2 (eI x.2) false]⟩)
   (λx=>x.1<=e.length/\x.2.length<=bd1.length+x.1/\x.2++(e.drop x.1).flatMap (BQ e bad)=bd2) (λx=>e.length-x.1) (0,bd1) ⟨bc _,ql,hB2.down.symm⟩ (.inl (aB qm rfl rfl wkS)) ?_
  rintro⟨i,D⟩ ⟨hi,L,f⟩;simp only at hi L f;by_cases H:i<e.length
  .have C:=ay H;have hg:=bX C;have M:=drop_at C;obtain⟨Z,hli,hi0,w1⟩:=lk i e.length;have hxp:=hoq _ (ch H);generalize e[i]=x at C hg M hxp;have hdr:=iM (p:=x.p) hxp;have U:=eA (t:=e) (p:=aU x.p) qd;have O:=zQi (l:=bad.map Cf.p) (s:=aU x.p) (by rw[di];omega);rw[zJG] at O;rw[M,jq,BQ] at f;generalize aU x.p=d at hdr U O f;generalize (bad.any λc=>c.p==d)=b2 at O f;generalize aZ e d=b1 at U f;clear C M;have hob:D.length<=1000000:=qd
   cases b1<;>cases b2
   case false.false =>
    rw[aw qh] at f;have h:i+1<=e.length/\(D++[(⟨x.p,7⟩:Cf)]).length<=bd1.length+(i+1)/\(D++[(⟨x.p,7⟩:Cf)])++(e.drop (i+1)).flatMap (BQ e bad)=bd2:=⟨qd,qk,by simpa using f⟩
    clear f
    repeat' (first|exact⟨⟩|refine sq ?_|refine uF hdr ?_|refine uF U ?_|refine uF O ?_|((with_reducible refine And.intro ?_ ?_);((first|omega|decide))))
    exact dN (i+1,D++[⟨x.p,7⟩]) 1 3 h qf qm rfl (aB qm rfl rfl wkS)
   all_goals
    rw[au qh,e9] at f;have h:i+1<=e.length/\D.length<=bd1.length+(i+1)/\D++(e.drop (i+1)).flatMap (BQ e bad)=bd2:=⟨qd,qd,f⟩
    clear f
    repeat' (first|exact⟨⟩|refine sq ?_|refine uF hdr ?_|refine uF U ?_|refine uF O ?_)
    exact cW (i+1,D) h qf (aB qm rfl rfl wkS)
  .have Z:=aj i e.length;rw[cw qd,nu,dh] at f;rw[<- f];clear f
   repeat' (first|exact⟨⟩|refine sp ?_)
   exact zRh () trivial (aB qm rfl rfl wkS)
 rintro - -;refine gE aC aI ?_;have W:bad++(gK A B++gJ e bad)=bd2:=by rw[hB2.down,hB1.down,gf]
 rw[W];have hor2:=zEk (l:=bd2) qd;have E:=pL bd2;clear W hB1 hB2 hbl1 hbl2;generalize bd2=P at *;by_cases h0:P.length=0
 .have hb0:=aj 0 P.length;have hq0:((fH P).length==0)=true:=by rw[E,h0];rfl
  rw[hq0,aw rfl];clear E h0;simp only
  repeat' (first|exact⟨⟩|refine sp ?_)
  all_goals first|(simp;done)|trace_state
 .have hb0:=ah 0 P.length;have hq0:((fH P).length==0)=false:=by rw[E];simpa using h0
  rw[hq0,au qh];clear E h0;simp only
  repeat' (first|exact⟨⟩|refine sp ?_|refine uN hor2 ?_|((with_reducible apply aA.frz);exact rfl;exact rfl))
  all_goals first|(simp;done)|trace_state
end Go.Proofs.YtfcindonokhbeaaGreatDoor
end
