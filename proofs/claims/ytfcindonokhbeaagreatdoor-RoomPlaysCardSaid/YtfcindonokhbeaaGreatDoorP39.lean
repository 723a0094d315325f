/- Part 40 of roomPlays_card. No condition. -/
import Derived.Test.YtfcindonokhbeaaGreatDoorP34
set_option linter.all false
set_option maxRecDepth 100000
set_option maxHeartbeats 0
section
namespace Go.Proofs.YtfcindonokhbeaaGreatDoor
open Go Go.Dm Go.Proofs Go.Proofs.Tryz
def zPR{p q:Ba}{k k' nk a nm e:Int}{o g:Bool}{t t':Nat}{d d':Ba}:
  ag 152 [.agg [.p (.s p),.p (.i .i64 k),.p (.b o),.p (.i .i64 nk),.p (.i .i64 nm),.p (.f t),.p (.sl 1 (bS d))],.agg [.p (.s q),.p (.i .i64 k'),.p (.b g),.p (.i .i64 a),.p (.i .i64 e),.p (.f t'),.p (.sl 1 (bS d'))]] (.c (.p (.i .i64 (HP p q)))):=by
 refine aa func152 λh j=>?_
 repeat' (first|exact⟨⟩|refine sp ?_|refine uF oD ?_)
def zQy{h:aF}{id:Nat}{l:Bk}(q:∀x∈l,∀y∈l,x.p=y.p->x=y)(hid:h[id]?=some (.arr 7 (fG l) false))(e:l.length<4611686018427387904):
  aA prog 151 [.c (.own id 0 l.length),.c (.clo 152 [])] h λd r=>d=.tup []/\r=h.set id (.arr 7 (fG (JQ l)) false):=by
 have:=nV (P:=prog) (f:=151) (g:=152) 7 qh cfI zBD
  (iX Tryz.func151 rfl rfl) (enters_of func152 qg rfl)
  (λm s t c u n o i d w j v k e=>Tryz.slices_SortFunc_f151 7 Tryz.isAgg149 Tryz.sizeOf149 m s t c u 152 #[] n o i d w (enters_of func152 qg rfl) j v k e)
  (λp i z w=>Tryz.slices_SortFunc_none_f151 (α:=Nat) p i z w)
  (h:=h) (i0:=id) (es:=fG l) (λx A y B=>by
   obtain⟨a,_,rfl⟩:=cg.1 A;obtain⟨b,_,rfl⟩:=cg.1 B;exact zPR) (zFz q) hid (by rw[tM];exact e)
 rw[zGE,tM] at this;exact this
def zQz{h:aF}{id n:Nat}{l:Bk}{K:Bd}(b:∀x∈l,∀y∈l,x.p=y.p->x=y)(a:l.length<4611686018427387904)(d:n=l.length)(hid:h[id]?=some (.arr 7 (fG l) false))(e:K (.tup []) (h.set id (.arr 7 (fG (JQ l)) false))):
  aA prog 151 [.c (.own id 0 n),.c (.clo 152 [])] h K:=by
 subst d;exact aA.mono (zQy b hid a) (by rintro _ _ ⟨rfl,rfl⟩;exact e)
def oZ(t w:Bl)(k:Nat):Bk:=((t.take k).filter λy=>!(aN w y.p).isSome && !HW w (lK t w) y.p).map λy=>lW y.p
def zAP{t w:Bl}{k:Nat}{x:It}(h:t[k]?=some x):oZ t w (k+1)=oZ t w k++(if !(aN w x.p).isSome && !HW w (lK t w) x.p then [lW x.p] else []):=by
 unfold oZ;rw[fC h,gh];split<;>rfl
def zDL(t w:Bl)(k:Nat):(oZ t w k).length<=t.length:=by
 unfold oZ;rw[di];have:=ei (λy:It=>!(aN w y.p).isSome && !HW w (lK t w) y.p) (t.take k);rw[cr] at this;omega
def zPS{t w:Bl}{k:Nat}(a:t.length<=k):qN t w=iJ t (lK t w) w++oZ t w k:=by
 unfold oZ;rw[bu a];rfl
def zL0(out:Bk)(p:Ba):nL (fG out++[[.s p,.i .i64 2,.b false,.i .i64 0,.i .i64 0,.f 0,.nil]]) (fG (out++[lW p])):=by
 rw[<- zB5];exact MW (HO _) ⟨⟨.inl rfl,.inl rfl,.inl rfl,.inl rfl,.inl rfl,.inl rfl,.inr ⟨rfl,1,rfl⟩,True.intro⟩,True.intro⟩
def vX{t w:Bl}(K:OkT t)(B:OkT w):
  ag 84 [.c (.p (.sl 5 (aP t))),.c (.p (.sl 5 (aP w)))] (.c (.p (.sl 7 (fG (eW t w))))):=by
 have htl:=K.len;have hwl:=B.len;have j:=zH9 K B;have o:=WW K B;have C:=λ(p:Ba) (A:p.length<=1000000)=>zCz (p:=p) K B A;have D:=λ(p:Ba) (A:p.length<=1000000)=>zL3 (p:=p) K B A;have E:=λ(p:Ba)=>gF (t:=t) (p:=p) qd K.srt K.ne (λx u=>bj (K.dlen x u) qh);have F:=λ(p:Ba)=>gF (t:=w) (p:=p) qd B.srt B.ne (λx u=>bj (B.dlen x u) qh);have G:=λ(x:It) (u:x∈w)=>LB (t:=t) B u;refine zPp aC func84 rfl rfl λX0 hX=>?_;simp only[f84,go_sem];refine bE aC aI ?_
 repeat' (first|exact⟨⟩|refine sp ?_)
 refine bE aC aI ?_
 repeat' (first|exact⟨⟩|refine sp ?_)
 refine bE aC aI ?_
 repeat' (first|exact⟨⟩|refine sp ?_)
 refine dM aC aI 6 7 rfl ?_;refine mF aC aI (α:=Unit) (λ_=>⟨97,[(0,.c (.p (.sl 5 (aP t)))),(1,.c (.p (.sl 5 (aP w)))),(5,.c (.ptr 0 0)),(6,.c (.own 1 0 (iJ t (lK t w) w).length))],[.box [.p (.sl 5 (aP t)),.p (.sl 5 (aP w))],.arr 7 (fG (iJ t (lK t w) w)) false]⟩) (λ_=>True) ?_ ?_
 .repeat' (first|exact⟨⟩|refine sp ?_)
  refine sF (α:=Nat × Bk) (λx=>⟨97,[(0,.c (.p (.sl 5 (aP t)))),(1,.c (.p (.sl 5 (aP w)))),(5,.c (.ptr 0 0)),(19,.c (.p (.sl 5 (aP w)))),(20,.c (.p (.i .i64 w.length))),(21,.c (.p (.i .i64 x.1))),(6,.c (.own 1 0 x.2.length))],[.box [.p (.sl 5 (aP t)),.p (.sl 5 (aP w))],.arr 7 (fG x.2) false]⟩)
   (λx=>x.1<=w.length/\iJ t (lK t w) (w.take x.1)=x.2) (λx=>w.length-x.1) (0,[]) ⟨bc _,rfl⟩ (.inl (aB qj rfl rfl wkS)) ?_
  rintro ⟨k,out⟩ ⟨hk,a⟩;simp only at hk a;have hol:out.length<=120:=by
   have:=pE t (lK t w) (w.take k);rw[a,cr] at this;omega
  by_cases q:k<w.length
  .have u:=ay q;have hg:=bX u;have r:=G _ (ch q);have R:=B.plen _ (ch q);have hxd:=B.dlen _ (ch q);have U:=B.tlen _ (ch q);have e:=LN (t:=t) (os:=lK t w) u;rw[a] at e;obtain⟨h1,hli,hk0,w1⟩:=lk k w.length;have g:=E w[k].p;have O:=C w[k].p qd;have V:=K.gett w[k].p;generalize w[k]=x at u hg r R hxd U e g O V;clear C D E F G o j a u;unfold zAd at e;generalize isB (lK t w) x.p=b at r e;generalize wA t w x.p=om at r O;have W:=mY (x:=(aN t x.p).getD nd0) (y:=x.n) V U;generalize (aN t x.p).isSome=S at g e;generalize (aN t x.p).getD nd0=n at g e W;obtain⟨H,⟨I,L,M,N⟩⟩:=x;obtain⟨nk,nm,nt,nd⟩:=n;unfold Nd.cv at g;simp only at *;have J:=xO (k:=nk) (m:=nm) (t:=nt) (d:=nd) (k':=I) (m':=L) (t':=M) (d':=N);rw[W] at J;generalize cH ⟨nk,nm,nt,nd⟩ ⟨I,L,M,N⟩=X at J e;have Y:=rU (k:=I) (m:=L) (t:=M) (d:=N) qd;have hb1:(out.length+1)*80<=140737488355328:=qd
   have hb2:out.length+1<=9223372036854775807:=qd
   refine bE aC aI ?_
   repeat' (first|exact⟨⟩|refine sp ?_)
   refine bE aC aI ?_
   repeat' (first|exact⟨⟩|refine sp ?_)
   refine jT ?_;refine bE aC aI ?_
   repeat' (first|exact⟨⟩|refine sp ?_)
   refine mF aC aI (α:=Unit) (λ_=>⟨97,[(0,.c (.p (.sl 5 (aP t)))),(1,.c (.p (.sl 5 (aP w)))),(5,.c (.ptr 0 0)),(19,.c (.p (.sl 5 (aP w)))),(20,.c (.p (.i .i64 w.length))),(21,.c (.p (.i .i64 k))),(6,.c (.own 1 0 out.length)),(8,.c (.ptr 2 0)),(9,.c (.p (.b b)))],[.box [.p (.sl 5 (aP t)),.p (.sl 5 (aP w))],.arr 7 (fG out) false,.box [.p (.s H),.p (.i .i64 I),.p (.i .i64 L),.p (.f M),.p (.sl 1 (bS N))]]⟩) (λ_=>True) ?_ ?_
   .clear e g J Y;cases Z:(I==2)
    .rw[Z,dp] at r;subst r
     repeat' (first|exact⟨⟩|refine sp ?_)
     exact zRh () trivial (aB qm rfl rfl wkS)
    .rw[Z,cy] at r;subst r
     repeat' (first|exact⟨⟩|refine sp ?_|refine uF O ?_)
     exact zRh () trivial (aB qm rfl rfl wkS)
   rintro - -;clear O r;by_cases A:b=true∨S=false∨X=false
   .have hnw:(if b=true then [(⟨H,1,true,⟨I,L,M,N⟩⟩:En)] else if (!S || !X)=true then [⟨H,1,false,⟨I,L,M,N⟩⟩] else [])=[⟨H,1,b,⟨I,L,M,N⟩⟩]:=by
     cases b
     .rcases A with A|rfl|rfl
      .cases A
      .rfl
      .simp
     .rfl
    rw[hnw] at e;have z:k+1<=w.length/\iJ t (lK t w) (w.take (k+1))=out++[⟨H,1,b,⟨I,L,M,N⟩⟩]:=⟨qd,e⟩
    have v:=PLift.up z;clear z e hnw;refine gE aC aI ?_;cases b<;>cases S<;>cases X
    case false.true.true=>exact absurd A qh
    all_goals clear A
    all_goals repeat' (first|exact⟨⟩|refine sq ?_|refine uN g ?_|refine uF J ?_|((refine aK (id:=9) aC aI [8,9] [1,2,3,4,5,6,7,8,0,9,10] qi ?_);(repeat' (first|(refine aM ?_)|((refine bJ ?_ ?_ rfl rfl rfl ?_ ?_);(rotate_left 2);(focus ((repeat' (first|exact⟨⟩|refine sp ?_|refine ai ?_));((refine And.intro ?_ ?_<;>exact rfl))));(simp only[aD]))|((refine bI ?_ rfl rfl rfl ?_ ?_);(rotate_left 1);(focus ((repeat' (first|exact aS|refine aL ?_ ?_));(all_goals ((repeat' (first|exact⟨⟩|refine sp ?_|refine uN Y ?_));(try (exact rfl))))));(simp only[aD]))))))
    all_goals refine gE aC aI ?_
    all_goals repeat' (first|exact⟨⟩|refine sp ?_)
    all_goals exact dN (k+1,out++[⟨H,1,_,⟨I,L,M,N⟩⟩]) 1 5 v.down qf qm rfl (aB qm rfl rfl wkS)
   .have hb:b=false:=by cases b;rfl;exact absurd (.inl rfl) A
    have hi:S=true:=by cases S;exact absurd (.inr (.inl rfl)) A;rfl
    have hs:X=true:=by cases X;exact absurd (.inr (.inr rfl)) A;rfl
    subst hb;subst hi;subst hs;have z:k+1<=w.length/\iJ t (lK t w) (w.take (k+1))=out:=⟨qd,by rw[e];simp⟩
    have v:=PLift.up z;clear z e A;refine gE aC aI ?_
    repeat' (first|exact⟨⟩|refine sq ?_|refine uN g ?_|refine uF J ?_)
    refine gE aC aI ?_
    repeat' (first|exact⟨⟩|refine sp ?_)
    exact cW (k+1,out) v.down qf (aB qm rfl rfl wkS)
  .have h1:=aj k w.length;rw[bu qd] at a;clear C D E F G o j;have v:=PLift.up a;clear a;refine bE aC aI ?_
   repeat' (first|exact⟨⟩|refine sp ?_)
   refine bE aC aI ?_
   repeat' (first|exact⟨⟩|refine sp ?_)
   exact zRh () trivial (aB qj (by rw[<- v.down];rfl) rfl (by simp[bR,cL,bA,bD,aX,v.down]))
 rintro - -;generalize P:iJ t (lK t w) w=T;have hpl:T.length<=120:=by
  have:=pE t (lK t w) w;rw[P] at this;omega
 refine mF aC aI (α:=Unit) (λ_=>⟨97,[(6,.c (.own 1 0 (qN t w).length))],[.box [.p (.sl 5 (aP t)),.p (.sl 5 (aP w))],.arr 7 (fG (qN t w)) false]⟩) (λ_=>True) ?_ ?_
 .have hpu2:=PLift.up P;clear P
  repeat' (first|exact⟨⟩|refine sp ?_)
  refine sF (α:=Nat × Bk) (λx=>⟨97,[(0,.c (.p (.sl 5 (aP t)))),(1,.c (.p (.sl 5 (aP w)))),(5,.c (.ptr 0 0)),(65,.c (.p (.sl 5 (aP t)))),(66,.c (.p (.i .i64 t.length))),(67,.c (.p (.i .i64 x.1))),(6,.c (.own 1 0 x.2.length))],[.box [.p (.sl 5 (aP t)),.p (.sl 5 (aP w))],.arr 7 (fG x.2) false]⟩)
   (λx=>x.1<=t.length/\T++oZ t w x.1=x.2) (λx=>t.length-x.1) (0,T) ⟨bc _,by simp[oZ]⟩ (.inl (aB qj rfl rfl wkS)) ?_
  rintro ⟨k,out⟩ ⟨hk,a⟩;simp only at hk a;have hol:out.length<=240:=by
   rw[<- a,bo];have:=zDL t w k;omega
  by_cases q:k<t.length
  .have u:=ay q;have hg:=bX u;have R:=K.plen _ (ch q);have e:=zAP (w:=w) u;obtain⟨h1,hli,hk0,w1⟩:=lk k t.length;have g:=F t[k].p;have Q:=D t[k].p qd;generalize t[k]=x at u hg R e g Q;have h:T++oZ t w (k+1)=out++(if !(aN w x.p).isSome && !HW w (lK t w) x.p then [lW x.p] else []):=by
    rw[e,<- a,gf]
   clear C D E F G o j a u e;generalize (aN w x.p).isSome=S at g h;generalize HW w (lK t w) x.p=hid at Q h;generalize (aN w x.p).getD nd0=n at g;obtain⟨H,⟨I,L,M,N⟩⟩:=x;obtain⟨nk,nm,nt,nd⟩:=n;unfold Nd.cv at g;simp only at *;have hb1:(out.length+1)*80<=140737488355328:=qd
   have hb2:out.length+1<=9223372036854775807:=qd
   refine bE aC aI ?_
   repeat' (first|exact⟨⟩|refine sp ?_)
   refine bE aC aI ?_
   repeat' (first|exact⟨⟩|refine sp ?_)
   refine jT ?_;refine bE aC aI ?_
   repeat' (first|exact⟨⟩|refine sp ?_)
   cases S
   .cases hid
    .have z:k+1<=t.length/\T++oZ t w (k+1)=out++[lW H]:=⟨qd,by rw[h];rfl⟩
     have v:=PLift.up z;clear z h;refine gE aC aI ?_
     repeat' (first|exact⟨⟩|refine sq ?_|refine uN g ?_|refine uF Q ?_|refine ai ?_)
     refine zJH 5 (fG (out++[lW H])) rfl (zL0 out H) ?_;refine gE aC aI ?_
     repeat' (simp only[*,go_sem,Nat.reduceLT,Nat.reduceEqDiff,↓reduceIte,kn,i7])
     exact dN (k+1,out++[lW H]) 1 5 v.down qf qm rfl (aB qm rfl rfl wkS)
    .have z:k+1<=t.length/\T++oZ t w (k+1)=out:=⟨qd,by rw[h];simp⟩
     have v:=PLift.up z;clear z h;refine gE aC aI ?_
     repeat' (first|exact⟨⟩|refine sq ?_|refine uN g ?_|refine uF Q ?_)
     refine gE aC aI ?_
     repeat' (first|exact⟨⟩|refine sp ?_)
     exact cW (k+1,out) v.down qf (aB qm rfl rfl wkS)
   .have z:k+1<=t.length/\T++oZ t w (k+1)=out:=⟨qd,by rw[h];simp⟩
    have v:=PLift.up z;clear z h;refine gE aC aI ?_
    repeat' (first|exact⟨⟩|refine sq ?_|refine uN g ?_)
    refine gE aC aI ?_
    repeat' (first|exact⟨⟩|refine sp ?_)
    exact cW (k+1,out) v.down qf (aB qm rfl rfl wkS)
  .have h1:=aj k t.length;have hE:out=qN t w:=by rw[zPS (k:=k) qd,hpu2.down];exact a.symm
   clear C D E F G o j;have v:=PLift.up hE;clear a hE;refine bE aC aI ?_
   repeat' (first|exact⟨⟩|refine sp ?_)
   refine bE aC aI ?_
   repeat' (first|exact⟨⟩|refine sp ?_)
   exact zRh () trivial (aB qj (by rw[v.down];rfl) rfl (by simp[bR,cL,bA,bD,aX,v.down]))
 rintro - -;have hml:(qN t w).length<=1000:=by
  unfold qN zCk;rw[bo,di,P];have:=ei (λy:It=>!(aN w y.p).isSome && !HW w (lK t w) y.p) t;omega
 have hsl:=zJA (qN t w);have hml2:(eW t w).length=(qN t w).length:=by rw[<- j];exact hsl
 refine gE aC aI ?_
 repeat' (first|simp only[*,go_sem,Nat.reduceLT,Nat.reduceEqDiff,↓reduceIte,kn,i7]|refine zQz (id:=1) (l:=qN t w) o qd rfl rp ?_)
 all_goals rw[bu qd]
end Go.Proofs.YtfcindonokhbeaaGreatDoor
end
