/- Part 39 of roomPlays_card. No condition. -/
import Derived.Test.YtfcindonokhbeaaGreatDoorP33
import Derived.Test.YtfcindonokhbeaaGreatDoorP35
set_option linter.all false
set_option maxRecDepth 100000
set_option maxHeartbeats 0
section
namespace Go.Proofs.YtfcindonokhbeaaGreatDoor
open Go Go.Dm Go.Proofs Go.Proofs.Tryz
def zL2{t:Bl}{p:Ba}(f:t.length<=1000000):ag 158 [.c (.p (.sl 5 (aP t))),.c (.p (.s p))] (.c (.p (.b (zG t p)))):=by
 have a:=eA (t:=t) (p:=p) f;unfold zG;refine aa func158 λg h=>?_;cases e:(p == [])
 .have d:(p != [])=true:=by rw[bne,e];rfl
  repeat' (first|exact⟨⟩|refine sq ?_|refine uF a ?_)
 .have d:(p != [])=false:=by rw[bne,e];rfl
  repeat' (first|exact⟨⟩|refine sq ?_)
def zR7{l:List Ba}{p:Ba}(q:l.length<=1000000):ag 161 [.c (.p (.sl 1 (Go.Dm.encS l))),.c (.p (.s p))] (.c (.p (.b (isB l p)))):=by
 refine aa func161 λr hX=>?_
 repeat' (first|exact⟨⟩|refine sp ?_)
 refine aJ aC aI (α:=Nat) (λk=>⟨18,[(0,.c (.p (.sl 1 (Go.Dm.encS l)))),(1,.c (.p (.s p))),(5,.c (.p (.i .i64 k)))],[]⟩)
  (λk=>k<=l.length/\isB (l.drop k) p=isB l p) (λk=>l.length-k) 0 ⟨bc _,rfl⟩ (.inl (aB qj rfl rfl wkS)) ?_
 rintro k ⟨t,a⟩;by_cases e:k<l.length
 .have d:=ay e;have h:=encS_at d;have f:=drop_at d;obtain⟨j,m,n,u⟩:=lk k l.length;generalize l[k]=x at d h f;rw[f] at a;unfold isB at a;rw[kg] at a;clear f d;cases g:(x==p)
  .rw[g,dw] at a;have o:=PLift.up a;clear a
   repeat' (first|exact⟨⟩|refine sp ?_)
   exact cW (k+1) ⟨qd,o.down⟩ qd (aB rfl rfl rfl wkS)
  .rw[g,e8] at a;unfold isB;rw[<- a];clear a
   repeat' (first|exact⟨⟩|refine sp ?_)
 .have j:=aj k l.length;rw[cw qd] at a;rw[<- a];clear a
  repeat' (first|exact⟨⟩|refine sp ?_)
  all_goals rfl
def zFM{t w:Bl}{os:List Ba}{p:Ba}(u:w.length<=1000000)(v:os.length<=1000000)(D:p.length<=1000000):ag 162 [.c (.p (.sl 5 (aP t))),.c (.p (.sl 5 (aP w))),.c (.p (.sl 1 (Go.Dm.encS os))),.c (.p (.s p))] (.c (.p (.b (HW w os p)))):=by
 have j:=zB0 p;refine aa func162 λE hX=>?_
 repeat' (first|exact⟨⟩|refine sp ?_|refine uF (iM (p:=p) qd) ?_)
 refine aJ aC aI (α:=Nat × Ba) (λx=>⟨36,[(1,.c (.p (.sl 5 (aP w)))),(2,.c (.p (.sl 1 (Go.Dm.encS os)))),(9,.c (.p (.s x.2)))],[]⟩)
  (λx=>x.2.length<=x.1/\x.1<=p.length/\zFJ w os x.1 x.2=HW w os p) (λx=>x.1) (p.length,aU p) ⟨j,bg _,rfl⟩ (.inl (aB qj rfl rfl wkS)) ?_
 rintro⟨n,q⟩ ⟨z,A,a⟩;simp only at z A a;cases d:(q == [])
 .have o:(q != [])=true:=by rw[bne,d];rfl
  have e:q≠[]:=by simpa using d
  obtain⟨n,rfl⟩:∃m,n=m+1:=⟨n-1,by have:=o6.2 e;omega⟩
  have r:(aU q).length<=n:=by
   by_cases h:aU q=[]
   .rw[h];exact bc _
   .have:=uU h;omega
  rw[wW e] at a;have f:=fT (t:=w) (p:=q) u;have g:=zR7 (l:=os) (p:=q) v;generalize i:(((aN w q).getD nd0).k != 2)=B at a;generalize (aN w q).getD nd0=y at f i;generalize (aN w q).isSome=s at f a;generalize isB os q=b at g a;obtain⟨F,G,H,I⟩:=y;simp only at i;cases s<;>cases B<;>cases b
  all_goals simp only[bh,br,ej,dn,az,av,ax] at a
  case true.false.false =>
   have C:=PLift.up a;clear a
   repeat' (first|exact⟨⟩|refine sq ?_|refine uN f ?_|refine uF g ?_|refine uF (iM (p:=q) qd) ?_)
   exact cW (n,aU q) ⟨r,qf,C.down⟩ qf (aB rfl rfl rfl wkS)
  all_goals rw[<- a]
  all_goals clear a
  all_goals repeat' (first|exact⟨⟩|refine sq ?_|refine uN f ?_|refine uF g ?_)
 .have o:(q != [])=false:=by rw[bne,d];rfl
  have e:q=[]:=eq_of_beq d;subst e;rw[NP] at a;rw[<- a];clear a
  repeat' (first|exact⟨⟩|refine sp ?_)
def zDE{l:Bk}{p:Ba}{k:Int}{o:Bool}{nk nm:Int}{nt:Nat}{nd:Ba}(w:l.length<=1000000)(y:nd.length<=140737488355328):ag 163 [.c (.p (.sl 7 (fG l))),.agg [.p (.s p),.p (.i .i64 k),.p (.b o),.p (.i .i64 nk),.p (.i .i64 nm),.p (.f nt),.p (.sl 1 (bS nd))]] (.c (.p (.sl 7 (fG (zCe l ⟨p,k,o,⟨nk,nm,nt,nd⟩⟩))))):=by
 have q:=zHd l p;unfold zCe;show aA _ _ _ _ λr h=>r=.c (.p (.sl 7 (fG (l.take (zAG l p)++⟨p,k,o,⟨nk,nm,nt,nd⟩⟩::l.drop (zAG l p)))))/\h=[];refine aa func163 λz hX=>?_
 repeat' (first|exact⟨⟩|refine sp ?_)
 refine aJ aC aI (α:=Nat) (λj=>⟨37,[(0,.c (.p (.sl 7 (fG l)))),(3,.c (.ptr 0 0)),(5,.c (.p (.i .i64 j)))],[.box [.p (.s p),.p (.i .i64 k),.p (.b o),.p (.i .i64 nk),.p (.i .i64 nm),.p (.f nt),.p (.sl 1 (bS nd))]]⟩)
  (λj=>j<=zAG l p) (λj=>l.length-j) 0 (bc _) (.inl (aB qj rfl rfl wkS)) ?_
 intro j t;by_cases g:j<l.length
 .have e:=ay g;have u:=rX e;have a:=VM (p:=p) e t;obtain⟨v,-,-,A⟩:=lk j l.length;generalize l[j]=x at e u a;cases n:cC x.p p
  .have d:=a.2 n;rw[<- d];clear a e d;have m:(j:Int)<=(l.length:Int):=qd
   repeat' (first|exact⟨⟩|refine sp ?_|refine dA (id:=2) aC aI [] [0,1,2,3,4,5,6,7,8,9,10,11,12,13] ?_|((with_reducible refine And.intro ?_ ?_);((first|omega|decide))))
   all_goals simp
   all_goals exact⟨qd,qd,qd,qd,qd,qd,by rw[bu qk]⟩
  .have d:=a.1 n;clear a e
   repeat' (first|exact⟨⟩|refine sp ?_|refine dA (id:=2) aC aI [] [0,1,2,3,4,5,6,7,8,9,10,11,12,13] ?_)
   exact cW (j+1) d qd (aB rfl rfl rfl wkS)
 .have v:=aj j l.length;have d:j=zAG l p:=qd
  rw[<- d];have m:(j:Int)<=(l.length:Int):=qd
  clear d
  repeat' (first|exact⟨⟩|refine sp ?_|refine dR (id:=2) aC aI [] [0,1,2,3,4,5,6,7,8,9,10,11,12,13] ?_|((with_reducible refine And.intro ?_ ?_);((first|omega|decide))))
  all_goals simp
  all_goals exact⟨qd,qd,qd,qd,qd,qd,by rw[bu qk]⟩
def zLM{l:Bk}{p:Ba}(a:l.length<=1000000):ag 163 [.c (.p (.sl 7 (fG l))),.agg [.p (.s p),.p (.i .i64 2),.p (.b false),.p (.i .i64 0),.p (.i .i64 0),.p (.f 0),.p .nil]] (.c (.p (.sl 7 (fG (zCe l (lW p)))))) :=
 aA.wkargs (args':=[.c (.p (.sl 7 (fG l))),.agg [.p (.s p),.p (.i .i64 2),.p (.b false),.p (.i .i64 0),.p (.i .i64 0),.p (.f 0),.p (.sl 1 (bS []))]])
  ⟨.inl rfl,⟨.inl rfl,.inl rfl,.inl rfl,.inl rfl,.inl rfl,.inl rfl,.inr ⟨rfl,1,rfl⟩,True.intro⟩,True.intro⟩ (zDE (nd:=[]) a ql)
def zI4{t w:Bl}(ht:OkT t)(hw:OkT w):ag 90 [.c (.p (.sl 5 (aP t))),.c (.p (.sl 5 (aP w)))] (.c (.p (.sl 7 (fG (eW t w))))):=by
 have htl:=ht.len;have hwl:=hw.len;have P:=ht.plen;have Q:=hw.plen;have R:=zMD t w;have E:=λp=>tY (p:=p) ht;have F:=λp=>KX t p;unfold eW;refine zPp aC func90 rfl rfl λX0 hX=>?_;simp only[f90,go_sem];refine bE aC aI ?_
 repeat' (first|exact⟨⟩|refine sp ?_)
 refine bE aC aI ?_
 repeat' (first|exact⟨⟩|refine sp ?_)
 refine mF aC aI (α:=Unit) (λ_=>⟨169,[(0,.c (.p (.sl 5 (aP t)))),(1,.c (.p (.sl 5 (aP w)))),(5,.c (.p (.sl 1 (Go.Dm.encS (lK t w)))))],[]⟩) (λ_=>True) ?_ ?_
 .repeat' (first|exact⟨⟩|refine sp ?_)
  refine dM aC aI 5 1 rfl ?_;refine aJ aC aI (α:=Nat × List Ba) (λx=>⟨169,[(0,.c (.p (.sl 5 (aP t)))),(1,.c (.p (.sl 5 (aP w)))),(6,.c (.p (.i .i64 x.1))),(5,.c (.own 0 0 x.2.length))],[.arr 1 (Go.Dm.encS x.2) false]⟩)
   (λx=>x.1<=w.length/\x.2.length<=x.1/\((w.take x.1).filter (LC t w)).map (λy=>y.p)=x.2) (λx=>w.length-x.1) (0,[]) ⟨bc _,bg _,rfl⟩ (.inl (aB qj rfl rfl wkS)) ?_
  rintro⟨k,os⟩ ⟨hk,K,v⟩;simp only at hk K v;by_cases g:k<w.length
  .have u:=ay g;have S:=bX u;obtain⟨h1,T,U,w1⟩:=lk k w.length;have a:=zIw (t:=t) u;rw[v] at a;have B:=Q _ (ch g);generalize w[k]=x at u S a B;have G:=zL2 (t:=t) (p:=x.p) qd;have V:=E x.p;have hnal:(eZ t x.p).length<=120:=by rw[F];exact bj (ei ..) htl
   have W:(x.n.k != 2) = !(x.n.k==2):=rfl;clear E F v u;cases h:(x.n.k==2 && (zG t x.p && !decide (((eZ t x.p).length:Int)<2)))
   .have X:LC t w x=false:=by unfold LC;rw[h,dp]
    have Y:k+1<=w.length/\os.length<=k+1/\((w.take (k+1)).filter (LC t w)).map (λy=>y.p)=os:=⟨qd,qd,by rw[a,X];simp⟩
    clear a X;generalize eZ t x.p=nl at *;cases H:(x.n.k==2)<;>cases L:zG t x.p<;>cases c3:decide ((nl.length:Int)<2)
    all_goals rw[H,L,c3] at h
    all_goals rw[H] at W
    all_goals rw[L] at G
    case true.true.false=>cases h
    all_goals clear h
    all_goals repeat' (first|exact⟨⟩|refine sq ?_|refine uF G ?_|refine uN V ?_)
    all_goals exact cW (k+1,os) Y qf (aB rfl rfl rfl wkS)
   .have C:LC t w x = !nJ t w x.p:=by unfold LC;rw[h,cy]
    generalize eZ t x.p=nl at *;simp only[bn,dg] at h;obtain⟨H,L,c3⟩:=h;rw[H] at W;rw[L] at G
    repeat' (first|exact⟨⟩|refine sq ?_|refine uF G ?_|refine uN V ?_)
    refine aJ aC aI (α:=Nat × Bool) (λy=>⟨169,[(0,.c (.p (.sl 5 (aP t)))),(1,.c (.p (.sl 5 (aP w)))),(6,.c (.p (.i .i64 k))),(5,.c (.own 0 0 os.length)),(7,.c (.p (.s x.p))),(8,.c (.p (.b y.2))),(9,.c (.p (.i .i64 y.1)))],[.arr 1 (Go.Dm.encS os) false]⟩)
     (λy=>y.1<=t.length/\(y.2 || nJ (t.drop y.1) w x.p)=nJ t w x.p) (λy=>t.length-y.1) (0,false) ⟨bc _,rfl⟩ (.inl (aB qj rfl rfl wkS)) ?_
    rintro⟨j,st⟩ ⟨hj,f⟩;simp only at hj f;by_cases Z:j<t.length
    .have hz:=ay Z;have hgz:=bX hz;obtain⟨h2,hji,hj0,w2⟩:=lk j t.length;have M:=drop_at hz;have hzp:=P _ (ch Z);generalize t[j]=z at hz hgz M hzp;have e:=fT (t:=w) (p:=z.p) qd;have hbl:=tH (p:=x.p) (q:=z.p) qd qd;rw[M] at f;unfold nJ at f;rw[kg] at f;have D:((st || ((aN w z.p).isSome && aT x.p z.p)) || nJ (t.drop (j+1)) w x.p)=nJ t w x.p:=by
      unfold nJ;rw[Bool.or_assoc];exact f
     clear f a C hz M;generalize (aN w z.p).getD nd0=n at e;generalize (aN w z.p).isSome=ok at e D;have hS:=PLift.up D;clear D;cases st<;>cases ok<;>cases c5:aT x.p z.p
     all_goals rw[c5] at hS hbl
     all_goals repeat' (first|exact⟨⟩|refine sp ?_|refine uN e ?_|refine uF hbl ?_)
     all_goals exact cW (j+1,_) ⟨qf,hS.down⟩ qf (aB rfl rfl rfl wkS)
    .have h2:=aj j t.length;rw[cw qd] at f;have f:st=nJ t w x.p:=by rw[<- f];simp[nJ]
     subst f;cases c4:nJ t w x.p
     .rw[C,c4,br,aw rfl] at a;have Y:k+1<=w.length/\(os++[x.p]).length<=k+1/\((w.take (k+1)).filter (LC t w)).map (λy=>y.p)=os++[x.p]:=⟨qd,qk,a⟩
      clear a C
      repeat' (first|exact⟨⟩|refine sq ?_|((with_reducible refine And.intro ?_ ?_);((first|omega|decide))))
      exact dN (k+1,os++[x.p]) 0 2 Y qf rfl rfl (aB rfl rfl rfl wkS)
     .rw[C,c4,bh,au qh,dh] at a;have Y:k+1<=w.length/\os.length<=k+1/\((w.take (k+1)).filter (LC t w)).map (λy=>y.p)=os:=⟨qd,qd,a⟩
      clear a C
      repeat' (first|exact⟨⟩|refine sq ?_)
      exact cW (k+1,os) Y qf (aB rfl rfl rfl wkS)
  .have h0:=aj k w.length;rw[bu qd] at v;unfold lK;rw[v];clear v E F
   repeat' (first|exact⟨⟩|refine sp ?_)
   exact zI1 () 5 0 0 os.length trivial rfl (iD rfl (Go.Dm.encS_len _)) (aB qj rfl rfl wkS)
 rintro - -;clear E F;generalize lK t w=os at R ⊢;refine bE aC aI ?_
 repeat' (first|exact⟨⟩|refine sp ?_)
 refine mF aC aI (α:=Unit) (λ_=>⟨169,[(0,.c (.p (.sl 5 (aP t)))),(1,.c (.p (.sl 5 (aP w)))),(5,.c (.p (.sl 1 (Go.Dm.encS os)))),(12,.c (.p (.sl 7 (fG (iJ t os w)))))],[]⟩) (λ_=>True) ?_ ?_
 .repeat' (first|exact⟨⟩|refine sp ?_)
  refine dM aC aI 12 7 rfl ?_;refine aJ aC aI (α:=Nat) (λk=>⟨169,[(0,.c (.p (.sl 5 (aP t)))),(1,.c (.p (.sl 5 (aP w)))),(5,.c (.p (.sl 1 (Go.Dm.encS os)))),(13,.c (.p (.i .i64 k))),(12,.c (.own 0 0 (iJ t os (w.take k)).length))],[.arr 7 (fG (iJ t os (w.take k))) false]⟩)
   (λk=>k<=w.length) (λk=>w.length-k) 0 (bc _) (.inl (aB qj rfl rfl (by simp[bR,cL,bA,bD,aX,iJ]))) ?_
  intro k hk;have o:=pE t os (w.take k);rw[cr] at o;by_cases g:k<w.length
  .have u:=ay g;have S:=bX u;obtain⟨h1,T,U,w1⟩:=lk k w.length;have a:=LN (t:=t) (os:=os) u;have B:=Q _ (ch g);have hxd:=hw.dlen _ (ch g);generalize w[k]=x at u S a B hxd;unfold zAd at a;generalize iJ t os (w.take k)=r at a o;have e:=fT (t:=t) (p:=x.p) qd;have his:=zR7 (l:=os) (p:=x.p) qd;have I:=eV (k:=((aN t x.p).getD nd0).k) (m:=((aN t x.p).getD nd0).m) (t:=((aN t x.p).getD nd0).t) (d:=((aN t x.p).getD nd0).d) (k':=x.n.k) (m':=x.n.m) (t':=x.n.t) (d':=x.n.d);rw[AR,AR] at I;generalize (aN t x.p).getD nd0=y at e a I;generalize (aN t x.p).isSome=ok at e a;have O:=PLift.up a;clear a u;cases H:isB os x.p<;>cases ok<;>cases L:cH y x.n
   all_goals rw[H,L] at O
   all_goals rw[H] at his
   all_goals rw[L] at I
   all_goals simp only[bh,br,ej,dn,az,av,ax,dh] at O
   all_goals repeat' (first|exact⟨⟩|refine sq ?_|refine uN e ?_|refine uF his ?_|((with_reducible refine And.intro ?_ ?_);((first|omega|decide)))|refine uF I ?_|refine dG (id:=23) aC aI [] [0,1,2,3,4,5,6,7,8,9,10,11] ?_|refine aM ?_|refine d1 ?_ ?_ ?_|with_reducible exact rfl)
   all_goals first
    | exact cW (k+1) qd qd (aB rfl (by rw[O.down];rfl) rfl (by simp[bR,cL,bA,bD,aX,O.down]))
    | exact dN (k+1) 0 3 qd qd rfl rfl (aB rfl (by rw[O.down];rfl) rfl (by simp[bR,cL,bA,bD,aX,zJj,zE5,zJh,O.down]))
  .have h0:=aj k w.length;rw[bu qd] at o ⊢;generalize iJ t os w=r at o ⊢
   repeat' (first|exact⟨⟩|refine sp ?_)
   exact zI1 () 12 0 0 r.length trivial rfl (iD rfl (tM _)) (aB qj rfl rfl wkS)
 rintro - -;have o:=pE t os w;generalize iJ t os w=J at o ⊢;refine gE aC aI ?_
 repeat' (first|exact⟨⟩|refine sp ?_)
 refine aJ aC aI (α:=Nat × Bk) (λx=>⟨169,[(0,.c (.p (.sl 5 (aP t)))),(1,.c (.p (.sl 5 (aP w)))),(5,.c (.p (.sl 1 (Go.Dm.encS os)))),(17,.c (.p (.i .i64 x.1))),(12,.c (.p (.sl 7 (fG x.2))))],[]⟩)
  (λx=>x.1<=t.length/\x.2.length<=w.length+x.1/\(t.drop x.1).foldl (ES w os) x.2=t.foldl (ES w os) J) (λx=>t.length-x.1) (0,J) ⟨bc _,o,rfl⟩ (.inl (aB qj rfl rfl wkS)) ?_
 rintro⟨k,r⟩ ⟨hk,K,A⟩;simp only at hk K A;by_cases g:k<t.length
 .have u:=ay g;have S:=bX u;obtain⟨h1,T,U,w1⟩:=lk k t.length;have hd:=drop_at u;have B:=P _ (ch g);generalize t[k]=x at u S hd B;rw[hd,gx] at A;unfold ES at A;have e:=fT (t:=w) (p:=x.p) qd;have N:=zFM (t:=t) (w:=w) (os:=os) (p:=x.p) qd qd qd;have hen:=zLM (l:=r) (p:=x.p) qd;have hel:=zCf r (lW x.p);generalize (aN w x.p).getD nd0=y at e;generalize (aN w x.p).isSome=ok at e A;clear u hd;cases ok<;>cases H:HW w os x.p
  all_goals rw[H] at A N
  case false.false =>
   have hF:=PLift.up A;clear A
   repeat' (first|exact⟨⟩|refine sp ?_|refine uN e ?_|refine uN N ?_|refine uN hen ?_)
   exact cW (k+1,zCe r (lW x.p)) ⟨qf,qf,hF.down⟩ qf (aB rfl rfl rfl wkS)
  all_goals have hF:=PLift.up A
  all_goals clear A
  all_goals repeat' (first|exact⟨⟩|refine sp ?_|refine uN e ?_|refine uN N ?_)
  all_goals exact cW (k+1,r) ⟨qf,qf,hF.down⟩ qf (aB rfl rfl rfl wkS)
 .have h1:=aj k t.length;rw[cw qd,lv] at A;rw[<- A];clear A
  repeat' (first|exact⟨⟩|refine sp ?_)
end Go.Proofs.YtfcindonokhbeaaGreatDoor
end
