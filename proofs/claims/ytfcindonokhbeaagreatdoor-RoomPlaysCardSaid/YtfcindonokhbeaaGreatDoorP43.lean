/- Part 44 of roomPlays_card. No condition. -/
import Derived.Test.YtfcindonokhbeaaGreatDoorP40
import Derived.Test.YtfcindonokhbeaaGreatDoorP39
set_option linter.all false
set_option maxRecDepth 100000
set_option maxHeartbeats 0
section
namespace Go.Proofs.YtfcindonokhbeaaGreatDoor
open Go Go.Dm Go.Proofs Go.Proofs.Tryz
def zOr{n how:Int}{s:Ba}(l:s.length<=9223372036854775807):ag 57 [.c (.p (.i .i64 n)),.c (.p (.i .i64 how)),.c (.p (.s s))] (.c (.p (.s (YW n how s)))):=by
 have g:=xR n;have h:=jQ n;have f:=jQ (IntKind.i64.wrap (n.tdiv 6));have b:=zNY (n:=n);have d:=CZ (n:=n);have a:=CZ (n:=IntKind.i64.wrap (n.tdiv 6));have e:=nR (n:=how) (m:=24) qh qh;unfold YW;generalize xQ n=P at g b ⊢;generalize BN n=A at h d ⊢;generalize BN (IntKind.i64.wrap (n.tdiv 6))=B at f a ⊢;have j:=fy how (show (24:Int)≠0 by decide)
 have k:=gl how (show (0:Int)<24 by decide)
 generalize how % 24=q at e j k ⊢;refine aa func57 λo r=>?_
 repeat' (first|exact⟨⟩|refine sp ?_|refine uF b ?_|refine uF d ?_|refine uF a ?_|refine uF e ?_|refine aH (λ_=>?_) (λ_=>?_)|refine ai ?_)
 all_goals omega
theorem sv_i(n:Int):(SV.i n).pv=.i .i64 n:=rfl
def zQH(l:List Int)(n:Nat):∃k,(l.map SV.i).getD n (.i 0)=.i k:=by
 rw[ed,dv];cases l[n]? with
 | none=>exact⟨0,rfl⟩
 | some k=>exact⟨k,rfl⟩
abbrev rcv(x:RC):Bf:=[.p (.i .i64 x.k),.p (.i .i64 x.p),.p (.i .i64 x.to'),.p (.i .i64 x.m),.p (.i .i64 x.t),.p (.i .i64 x.at'),.p (.i .i64 x.n),.p (.i .i64 x.how),.p (.f x.x),.p (.sl 1 (bS x.d)),.p (.s x.s)]
abbrev clv(c:Cl):Bf:=clc c.k c.p c.to' c.m c.t c.at' c.n c.d
def zD0{m:Int}:∃(m':Int) (t':Nat),ag 59 [.agg [.p (.i .i64 2),.p (.i .i64 m),.p (.i .i64 0),.p (.f 0),.p .nil]] (.agg (ndc 3 m' t' (QC m))) :=
 ⟨m % 4096,bL (HF 0 0),by
  have h:ag 59 [.agg (rnc 2 m 0 0 [])] (.agg (ndc 3 (m % 4096) (bL (HF 0 0)) (QC m))):=by
   have e:(zMB ⟨2,m,0,0,[]⟩).cv=ndc 3 (m % 4096) (bL (HF 0 0)) (QC m):=by simp[zMB,zP5,Nd.cv]
   have:=zP6 (k:=2) (m:=m) (t:=0) (x:=0) (d:=[]) ql;rw[e] at this;exact this
  refine aA.wkargs ?_ h;simp[zKh,wkD,zE7,wkC,wkP,jJ]⟩
def zRq{x:RC}(G:x.s.length<=9223372036854775807)(H:x.d.length<=9223372036854775807):
  ∃k:Int,ag 19 [.agg (rcv x)] (.agg (clv (NK k x))):=by
 obtain⟨c,I,w,y,J,a,z,e,K,L,M⟩:=x;simp only at G H;have g:=zOr (n:=I) (how:=e) G;have h:=zOr (n:=w) (how:=IntKind.i64.wrap (e.tdiv 24)) G;have l:=zNZ (n:=J) (x:=K);have A:=zOE (b:=L) (n:=60) qh qh H;have B:=zOE (b:=L) (n:=200) qh qh H;have o:=nR (n:=c) (m:=24) qh qh;have p:=nR (n:=y) (m:=4099) qh qh;have r:=nR (n:=a) (m:=40) qh qh;have t:=nR (n:=a) (m:=30) qh qh;have u:=nR (n:=z) (m:=40) qh qh;obtain⟨lm,lt,v⟩:=zD0 (m:=w);have b1:=fy c (show (24:Int)≠0 by decide)
 have S:=gl c (show (0:Int)<24 by decide)
 have T:=fy y (show (4099:Int)≠0 by decide)
 have U:=gl y (show (0:Int)<4099 by decide)
 have V:=fy a (show (40:Int)≠0 by decide)
 have W:=gl a (show (0:Int)<40 by decide)
 have X:=fy a (show (30:Int)≠0 by decide)
 have Y:=gl a (show (0:Int)<30 by decide)
 have Z:=fy z (show (40:Int)≠0 by decide)
 have C:=gl z (show (0:Int)<40 by decide)
 have D:((zCO 1).length:Int)=24:=rfl;have E:∀(k:Int),(e.tmod 41==40)=true/\k=c∨(e.tmod 41==40)=false/\(zCO 1).getD (c % 24).toNat (.i 0)=.i k ->
   ag 19 [.agg (rcv ⟨c,I,w,y,J,a,z,e,K,L,M⟩)] (.agg (clv (NK k ⟨c,I,w,y,J,a,z,e,K,L,M⟩))):=by
  intro k F;refine aG ?_;unfold NK;simp only;generalize YW I e M=P at g ⊢;generalize YW w (IntKind.i64.wrap (e.tdiv 24)) M=Q at h ⊢;generalize HF J K=TT at l ⊢;generalize QC w=LL at v ⊢;generalize c % 24=q at o F b1 S;generalize y % 4099=pm at p T U ⊢;generalize a % 40=p4 at r V W ⊢;generalize a % 30=p3 at t X Y ⊢;generalize z % 40=pn at u Z C ⊢;obtain⟨j,rfl⟩:∃j:Nat,p4=j:=⟨p4.toNat,qd⟩
  have w1:IntKind.i64.wrap (pm-1)=pm-1:=wrap_i64 qd qd;have w2:IntKind.i64.wrap (p3-1)=p3-1:=wrap_i64 qd qd;have w3:IntKind.i64.wrap (pn-1)=pn-1:=wrap_i64 qd qd;have w4:IntKind.i64.wrap (1980+(j:Int))=(1980+j:Nat):=by rw[wrap_i64 qd qd];omega
  have hq:q<((zCO 1).length:Int):=by rw[D];exact S
  have hj:((1980+j:Nat):Int)<=9223372036854775807:=qd
  have hj2:((1980+j:Nat):Int)<=140737488355328:=qd
  have hj0:(0:Int)<=((1980+j:Nat):Int):=qd
  have hrep:List.replicate (1980+j) [PV.i .u8 0]=bS (List.replicate (1980+j) 0):=rm
  have hjt:((j:Int)).toNat=j:=ix j;clear G H D T U V W X Y Z C;rcases F with⟨f,rfl⟩|⟨f,F⟩
  .rcases zOe k with rfl|rfl|rfl|rfl|rfl|rfl|rfl|rfl|rfl|⟨k1,k2,k3,k4,k7,k9,N,O,R⟩
   all_goals
    refine aa func19 λX0 hX=>?_
    repeat' (first|exact⟨⟩|refine sp ?_|((refine aK (id:=1) aC aI [13,14] [13,0,1,2,3,4,5,6,7,8,9,10,11,12,14] qi ?_);(repeat' (first|(refine aM ?_)|((refine bJ ?_ ?_ rfl rfl rfl ?_ ?_);(rotate_left 2);(focus ((repeat' (first|exact⟨⟩|refine sp ?_));((refine And.intro ?_ ?_<;>exact rfl))));(simp only[aD,aQ]))|((refine bI ?_ rfl rfl rfl ?_ ?_);(rotate_left 1);(focus ((repeat' (first|exact aS|refine aL ?_ ?_));(all_goals ((repeat' (first|exact⟨⟩|refine sp ?_|refine uF o ?_|refine uN g ?_));(try (exact rfl))))));(simp only[aD])))))|refine uN h ?_|refine uF l ?_|refine uN A ?_|refine uN B ?_|refine uF p ?_|refine uF r ?_|refine uF t ?_|refine uF u ?_|refine uN v ?_|refine aH (λ_=>?_) (λ_=>?_)|refine ai ?_)
   all_goals first|exact .inr ⟨_,rfl⟩|(rw[bu ql])
  .rcases zOe k with rfl|rfl|rfl|rfl|rfl|rfl|rfl|rfl|rfl|⟨k1,k2,k3,k4,k7,k9,N,O,R⟩
   all_goals
    refine aa func19 λX0 hX=>?_
    repeat' (first|exact⟨⟩|refine sp ?_|((refine aK (id:=1) aC aI [13,14] [13,0,1,2,3,4,5,6,7,8,9,10,11,12,14] qi ?_);(repeat' (first|(refine aM ?_)|((refine bJ ?_ ?_ rfl rfl rfl ?_ ?_);(rotate_left 2);(focus ((repeat' (first|exact⟨⟩|refine sp ?_));((refine And.intro ?_ ?_<;>exact rfl))));(simp only[aD,aQ]))|((refine bI ?_ rfl rfl rfl ?_ ?_);(rotate_left 1);(focus ((repeat' (first|exact aS|refine aL ?_ ?_));(all_goals ((repeat' (first|simp only[*,go_sem,Nat.reduceLT,Nat.reduceLeDiff,Nat.reduceEqDiff,↓reduceIte,Nat.reduceAdd,sv_i]|refine uF o ?_|refine uN g ?_));(try (exact rfl))))));(simp only[aD])))))|refine uN h ?_|refine uF l ?_|refine uN A ?_|refine uN B ?_|refine uF p ?_|refine uF r ?_|refine uF t ?_|refine uF u ?_|refine uN v ?_|refine aH (λ_=>?_) (λ_=>?_)|refine ai ?_)
   all_goals first|exact .inr ⟨_,rfl⟩|(rw[bu ql])
 cases f:(e.tmod 41==40)
 .obtain⟨k,F⟩:=zQH zJq (c % 24).toNat;exact⟨_,E k (.inr ⟨f,F⟩)⟩
 .exact⟨_,E _ (.inl ⟨f,rfl⟩)⟩
def zBu{a:Bk}(v:a.length<=1000000):ag 42 [.c (.p (.sl 7 (fG a))),.c (.p (.sl 7 (fG a)))] (.c (.p (.b true))):=by
 refine eT func42 λw hX=>?_;simp only[Tryz.ntmps42,f42,go_sem]
 repeat' (first|exact⟨⟩|refine sp ?_|refine aH (λ_=>?_) (λ_=>?_)|refine aY (λ_=>?_) (λ_=>?_)|((with_reducible apply aA.frz);exact rfl;exact rfl)|refine ai ?_)
 refine aJ aC aI (α:=Nat) (λk=>⟨68,[(0,.c (.p (.sl 7 (fG a)))),(1,.c (.p (.sl 7 (fG a)))),(5,.c (.p (.i .i64 k)))],[]⟩)
  (λk=>k<=a.length) (λk=>a.length-k) 0 (bc _) (.inl (aB qj rfl rfl wkS)) ?_
 intro k y;by_cases f:k<a.length
 .have g:=ay f;have h:=rX g;have q:=ah k a.length;have r:(k:Int)<(a.length:Int):=qd
  have s:(0:Int)<=k:=qd
  have z:=ar k;generalize a[k]=x at g h;clear g;obtain⟨A,B,u,⟨j,l,n,o⟩⟩:=x;have e:=eV (k:=j) (m:=l) (t:=n) (d:=o) (k':=j) (m':=l) (t':=n) (d':=o);rw[dK] at e;unfold ndc at e;simp only at h;cases u
  all_goals repeat' (first|simp (maxSteps:=1000000) only[*,go_sem,Nat.reduceLT,Nat.reduceLeDiff,Nat.reduceEqDiff,↓reduceIte,Nat.reduceAdd,Nat.reduceSub,Nat.reduceMul,Int.reduceLT,Int.reduceLE,Int.reduceAdd,Int.reduceSub,Int.reduceMul,Int.reduceNeg,Int.reduceToNat,Int.reduceEq,Int.reduceBEq,Int.reduceBNe,Nat.reduceBEq,fa,lx,bh,br,Bool.true_beq,Bool.false_beq]|refine uF e ?_|((refine aK (id:=6) aC aI [] [0,1,2,3,4,5,6,7,8,9,10,11,12,13,14,15,16,17,18,19,20,21,22,23,24,25,26,27,28,29,30,31,32,33,34,35,36,37,38,39,40,41,42,43,44,45,46,47,48,49,50] qi ?_);(repeat' (first|(refine aM ?_)|((refine fR ?_ rfl rfl ?_ ?_);(rotate_left 1);(focus ((repeat' (first|simp (maxSteps:=1000000) only[*,go_sem,Nat.reduceLT,Nat.reduceLeDiff,Nat.reduceEqDiff,↓reduceIte,Nat.reduceAdd,Nat.reduceSub,Nat.reduceMul,Int.reduceLT,Int.reduceLE,Int.reduceAdd,Int.reduceSub,Int.reduceMul,Int.reduceNeg,Int.reduceToNat,Int.reduceEq,Int.reduceBEq,Int.reduceBNe,Nat.reduceBEq,fa,lx,bh,br,Bool.true_beq,Bool.false_beq]|refine uF e ?_|refine aH (λ_=>?_) (λ_=>?_)|refine aY (λ_=>?_) (λ_=>?_)|((with_reducible apply aA.frz);exact rfl;exact rfl)|refine ai ?_));exact rfl));(simp only[aD,aQ])))))|refine aH (λ_=>?_) (λ_=>?_)|refine aY (λ_=>?_) (λ_=>?_)|((with_reducible apply aA.frz);exact rfl;exact rfl)|refine ai ?_)
  all_goals exact cW (k+1) qd qd (aB rfl rfl rfl wkS)
 .have q:=aj k a.length
  repeat' (first|exact⟨⟩|refine sp ?_|refine aH (λ_=>?_) (λ_=>?_)|refine aY (λ_=>?_) (λ_=>?_)|((with_reducible apply aA.frz);exact rfl;exact rfl)|refine ai ?_)
def zFD:ag 157 [.c (.p (.sl 7 []))] (.c (.p (.sl 7 []))):=by
 refine aG ?_;refine aa func157 λa b=>?_
 repeat' (first|exact⟨⟩|refine sp ?_)
 all_goals simp[]
def zKE{x:En}{a:Bk}(b:(x::a).length<=1000000):aA prog 157 [.c (.p (.sl 7 (fG (x::a))))] [] λr h=>r=.c (.own 1 0 (x::a).length)/\h=[.dead,.arr 7 (fG (x::a)) false]:=by
 have e:fG (x::a)=x.cs::fG a:=rfl;have d:=tM (x::a);have f:=zB7 (x::a);rw[e] at *;generalize (x::a).length=n at *;have g:x.cs.length=7:=rfl;refine VN aC aI func157 rfl rfl λi j=>?_;simp only[f157,go_sem]
 repeat' (first|exact⟨⟩|refine sp ?_|((with_reducible refine And.intro ?_ ?_);((first|omega|decide))))
 all_goals first|omega|rfl|(simp_all;done)
def zA0{a:Bk}(q:a.length<=1000000)(j:∀x∈a,x.n.d.length<=140737488355328):ag 89 [.c (.p (.sl 7 (fG a)))] (.c (.p (.sl 7 (fG a)))):=by
 cases a with
 | nil =>
  rw[zB6];refine aa func89 λr hX=>?_
  repeat' (first|exact⟨⟩|refine sp ?_|refine uN zFD ?_)
  refine aJ aC aI (α:=Unit) (λ_=>⟨24,[(3,.c (.p (.sl 7 []))),(8,.c (.p (.i .i64 0))),(9,.c (.p (.i .i64 0)))],[]⟩) (λ_=>True) (λ_=>0) () trivial (.inl (aB qj rfl rfl wkS)) ?_;rintro - -
  repeat' (first|exact⟨⟩|refine sp ?_)
 | cons x a =>
  have b:=zKE q;generalize s:x::a=l at *;clear s;refine aa func89 λr hX=>?_
  repeat' (first|exact⟨⟩|refine sp ?_|refine zT6 b rfl rfl ?_)
  refine aJ aC aI (α:=Nat) (λk=>⟨24,[(3,.c (.own 1 0 l.length)),(8,.c (.p (.i .i64 l.length))),(9,.c (.p (.i .i64 k)))],[.dead,.arr 7 (fG l) false]⟩)
   (λk=>k<=l.length) (λk=>l.length-k) 0 (bc _) (.inl (aB qj rfl rfl wkS)) ?_
  intro k z;by_cases e:k<l.length
  .have h:=ay e;have u:=rX h;have f:=zLf h;have g:=j _ (ch e);obtain⟨v,w,y,A⟩:=lk k l.length;generalize l[k]=x at h u f g;have o:=rU (k:=x.n.k) (m:=x.n.m) (t:=x.n.t) (d:=x.n.d) g;clear h b j
   repeat' (first|exact⟨⟩|refine sp ?_|refine uN o ?_)
   exact cW (k+1) qd qd (aB rfl rfl rfl wkS)
  .have v:=aj k l.length;clear b j
   repeat' (first|exact⟨⟩|refine sp ?_)
   all_goals rw[bu (by rw[tM];exact bg _)]
end Go.Proofs.YtfcindonokhbeaaGreatDoor
end
