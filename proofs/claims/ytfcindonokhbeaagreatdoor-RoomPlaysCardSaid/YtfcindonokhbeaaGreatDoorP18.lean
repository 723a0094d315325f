/- Part 19 of roomPlays_card. No condition. -/
import Derived.Test.YtfcindonokhbeaaGreatDoorP17
set_option linter.all false
set_option maxRecDepth 100000
set_option maxHeartbeats 0
section
namespace Go.Dm
open Go
section
variable {r:Rm}{d:Dr}{y:Ly × Bl}{t:Bl}{l:Bh}
def dS(r:Rm)(s:Ba):Bl × Int:=if !((cF r s).2==0) then ([],(cF r s).2) else (treeR r (cF r s).1.i,0)
theorem AE(h:SimW r d)(s:Ba):dS r s=gA d s:=by
 unfold dS gA;cases a:pT d.N s with
 | none =>
  grind [eD]
 | some n =>
  obtain⟨y,f,b,c,g,j,e⟩:=eF h a;rw[b,c,e];show (treeR r y.1.i,(0:Int))=(cB d y.1.i,0);rw[h.treeR]
theorem pP(h:OkW d)(s:Ba):OkT (gA d s).1:=by
 unfold gA;split
 .exact OkT.nil
 .exact h.tree _
def zEO(r:Rm)(l:Ly)(t:Bl):Rm:=if jB (treeR r l.i) t then r else ⟨r.N,r.L,rK r.E l.i (eW (treeR r l.p) t),r.x⟩
theorem HD(h:Sim r d)(b:y∈d.L)(c:OkT t)(k:t=y.2∨y.1.f=false):Sim (zEO r y.1 t) (oN d y.1.i t):=by
 have e:=mH h.g.inc b;unfold zEO;rw[h.toSimW.treeR,h.toSimW.treeR,e];cases j:jB y.2 t
 .grind [zBy,zQx]
 .rw[aw rfl];have:=ZA (λx a=>iV ((h.t y b).its x a).2.2.1 ((h.t y b).tlen x a)) (λx a=>iV (c.its x a).2.2.1 (c.tlen x a)) j;rw[<- this,<- e,ZU h.g.inc];exact h
def zAz(r:Rm)(s:Ba)(c:Cl):Rm × An :=
 if !((cF r s).2==0) then (r,anE (cF r s).2) else if (cF r s).1.f && jX c.k then (r,anE 14)
 else (zEO r (cF r s).1 (doP (treeR r (cF r s).1.i) c).1,(doP (treeR r (cF r s).1.i) c).2)
theorem zN7(h:Sim r d)(s:Ba){c:Cl}(x:c.t<18446744073709551616):(zAz r s c).2=(doD d s c).2/\Sim (zAz r s c).1 (doD d s c).1:=by
 unfold zAz doD;cases j:pT d.N s with
 | none =>
  obtain⟨m,o⟩:=eD h.toSimW j;simp_all
 | some n =>
  obtain⟨y,p,m,o,b,z,q⟩:=eF h.toSimW j;have a:=h.t y p;rw[m,o,q,kZ b,fF b];rw[show (!((0:Int)==0))=false from rfl]
  rw[h.toSimW.treeR,fF b,<- zRI a];cases u:y.1.f && jX c.k
  .simp only[av,ax];cases v:((doP y.2 c).2.e==0)
   .simp only[br,az,i6];have w:=zO1 (t:=y.2) (c:=c) (by simpa using v);rw[w];have:=HD h p a (.inl rfl);rw[show oN d y.1.i y.2=d by rw[<- fF b,ZU h.g.inc]] at this
    exact this
   .grind [HD,zRM,zO2]
  .simp_all
def jY(r:Rm)(s:Ba)(l:Bh):Rm × Int :=
 if !((wsP r s).2==0) then (r,(wsP r s).2) else if !((gP (treeR r (wsP r s).1.i) l).2==0) then (r,(gP (treeR r (wsP r s).1.i) l).2)
 else (zEO r (wsP r s).1 (gP (treeR r (wsP r s).1.i) l).1,0)
def oQ(d:Dr)(s:Ba)(l:Bh):Dr × Int :=
 if aW d.N s==0 then (d,6) else if fN d (aW d.N s) then (d,14) else if !((gP (cB d (aW d.N s)) l).2==0) then (d,(gP (cB d (aW d.N s)) l).2)
 else (oN d (aW d.N s) (gP (cB d (aW d.N s)) l).1,0)
theorem SL(f:OkT t)(j:∀x∈l,x.n.t<18446744073709551616)(a:(gP t l).2=0):OkT (gP t l).1:=by
 unfold gP at a ⊢;split at a
 .cases a
 .rename_i g;split at a
  .cases a
  .rename_i h;split at a
   .cases a
   .rename_i i;split at a
    .cases a
    .rename_i e;rw[au g,au h,au i,au e];refine GR (λy b=>?_) (by simpa using e);rcases zA5 b with⟨c,k,rfl⟩|b
     .simp_all
     .exact f.tlen y b
theorem zFg(h:Sim r d)(s:Ba)(k:∀x∈l,x.n.t<18446744073709551616):(jY r s l).2=(oQ d s l).2/\Sim (jY r s l).1 (oQ d s l).1:=by
 unfold jY oQ wsP;cases b:pT d.N s with
 | none =>
  obtain⟨c,e⟩:=eD h.toSimW b;simp_all
 | some n =>
  obtain⟨y,g,c,e,a,m,i⟩:=eF h.toSimW b;have j:=h.t y g;rw[c,e,i,kZ a,fF a];cases o:y.1.f;rotate_left 1
  .simp_all
  .rw[show ((0:Int)==0 && false)=false from rfl]
   simp only[av,ax];rw[h.toSimW.treeR,fF a];grind [HD,SL]
def gT(b o t:Bl):Bl × Bg × Int :=
 if decide (0<((eX b o t).2.length:Int)) then ([],(eX b o t).2,17) else if decide (120<((eX b o t).1.length:Int)) then ([],[],16) else ((eX b o t).1,[],0)
def fU(r:Rm)(o t:Ba):Ly × Ly × Int :=
 if !((cF r o).2==0) then ((cF r o).1,(cF r o).1,(cF r o).2)
 else ((cF r o).1,(cF r t).1,if (cF r t).2==0 && (!(cF r o).1.f || !(cF r t).1.f) then 13 else (cF r t).2)
def lI(r:Rm)(o t s:Ba):Rm × Bg × Int :=
 if !((fU r o t).2.2==0) then (r,[],(fU r o t).2.2) else if !(jN r s==0) then (r,[],jN r s) else if !(jU r (fU r o t).1.i==0) then (r,[],jU r (fU r o t).1.i)
 else
  let m:=gT (treeR r (rE r.L (fU r o t).1.i (fU r o t).2.1.i)) (treeR r (fU r o t).1.i) (treeR r (fU r o t).2.1.i)
  if !(m.2.2==0) then (r,m.2.1,m.2.2)
  else (zE1 r s (fU r o t).1.i (if (fU r o t).1.i==(fU r o t).2.1.i then 0 else (fU r o t).2.1.i) (eW (treeR r (fU r o t).1.i) m.1),[],0)
def lQ(d:Dr)(o t s:Ba):Dr × Bg × Int :=
 if aW d.N o==0 || aW d.N t==0 then (d,[],6) else if !fN d (aW d.N o) || !fN d (aW d.N t) then (d,[],13) else if !(iE d s==0) then (d,[],iE d s) else if rF d (aW d.N o) then (d,[],15)
 else
  let m:=eX (cB d (rE d.G (aW d.N o) (aW d.N t))) (cB d (aW d.N o)) (cB d (aW d.N t))
  if decide (0<(m.2.length:Int)) then (d,m.2,17) else if decide (120<(m.1.length:Int)) then (d,[],16)
  else (vP d s (aW d.N o) (if aW d.N t==aW d.N o then 0 else aW d.N t) m.1,[],0)
theorem FK{b o:Bl}(a:OkT b)(c:OkT o)(e:OkT t)(h1:¬ 0<(eX b o t).2.length)(f:¬ 120<(eX b o t).1.length):OkT (eX b o t).1:=by grind [eX,zP9]
theorem zIc(h:Sim r d)(o t s:Ba):(lI r o t s).2=(lQ d o t s).2/\Sim (lI r o t s).1 (lQ d o t s).1:=by
 unfold lI lQ fU;cases C:pT d.N o with
 | none =>
  obtain⟨D,E⟩:=eD h.toSimW C;simp_all
 | some n =>
  obtain⟨y,F,D,E,j,Q,M⟩:=eF h.toSimW C;have k:=h.t y F;rw[D,E,M,kZ j,fF j];rw[show (!((0:Int)==0))=false from rfl]
  simp only[av,ax,dw];cases c:pT d.N t with
  | none =>
   obtain⟨H,I⟩:=eD h.toSimW c;simp_all
  | some m =>
   obtain⟨z,J,H,I,p,R,O⟩:=eF h.toSimW c;have q:=h.t z J;rw[H,I,O,kZ p,fF p];rw[show ((0:Int)==0)=true from rfl]
   simp only[cy,av,ax];cases a:(!y.1.f || !z.1.f);rotate_left 1
   .exact⟨rfl,h⟩
   .simp only[av,ax];rw[show (!((0:Int)==0))=false from rfl]
    simp only[av,ax];simp only[ij,kd] at a;rw[tQ h.toSimW];cases u:(iE d s==0)
    .exact⟨rfl,h⟩
    .simp only[bh,av,ax];rw[qB h.toSimW,ki];cases K:rF d y.1.i
     .simp only[av,ax];obtain⟨f1,f2,f3,f4,f5⟩:=qJ u;rw[h.toSimW.treeR,h.toSimW.treeR,h.toSimW.treeR,fF j,fF p,h.L];unfold gT;have g:=h.toOkW.tree (rE d.G y.1.i z.1.i);generalize cB d (rE d.G y.1.i z.1.i)=b at g ⊢;cases v:decide (0<((eX b y.2 z.2).2.length:Int))
      .simp only[av,ax];cases w:decide (120<((eX b y.2 z.2).1.length:Int))
       .simp only[av,ax];rw[show (!((0:Int)==0))=false from rfl]
        simp only[av,ax,i6];simp only[ik] at v w;have A:=FK g k q qd qd;have P:(if y.1.i==z.1.i then (0:Int) else z.1.i)=(if z.1.i==y.1.i then 0 else z.1.i):=by
         by_cases e:y.1.i=z.1.i
         .rw[aw (by simpa using e),aw (by simpa using e.symm)]
         .rw[au (by simpa using e),au (by simpa using λB=>e B.symm)]
        rw[P];refine RQ h.toSimW f1 ⟨y,F,rfl,a.1⟩ ?_ (tV K) A f5 (by have:=gQ d.N s d.x;omega) (by rw[fF j]) ?_
        .by_cases e:z.1.i=y.1.i
         .exact .inl (aw (by simpa using e))
         .right;rw[au (by simpa using e)];exact⟨λB=>e B.symm,z,J,rfl,a.2⟩
        .have:=CL (lZ d s y.1.i (if z.1.i==y.1.i then 0 else z.1.i) (eX b y.2 z.2).1) (CQ h.toOkW _ _ _ _)
         have e:(lZ d s y.1.i (if z.1.i==y.1.i then 0 else z.1.i) (eX b y.2 z.2).1).L.length=d.L.length+1:=by show (d.L++[_]).length=_;rw[bo];rfl
         rw[CH];omega
       .exact⟨rfl,h⟩
      .exact⟨rfl,h⟩
     .simp only[az];rw[NV r y.1.i (by rw[qB h.toSimW,K];rfl)];exact⟨rfl,h⟩
def iO(r:Rm)(s a:Ba):Rm × Bg × Int :=
 if !((wsP r s).2==0) then (r,[],(wsP r s).2) else if !((snP r a).2==0) then (r,[],(snP r a).2) else if !(jU r (snP r a).1.i==0) then (r,[],jU r (snP r a).1.i)
 else
  let m:=gT (treeR r (wsP r s).1.p) (treeR r (snP r a).1.i) (treeR r (wsP r s).1.i)
  if !(m.2.2==0) then (r,m.2.1,m.2.2) else if decide (2147483647<=r.x) then (r,[],16)
  else (zE1 r s (snP r a).1.i 0 (eW (treeR r (snP r a).1.i) m.1),[],0)
def zE4(d:Dr)(id:Int):Int:=match lX d id with
 | some y=>y.1.p
 | none=>0
def iI(d:Dr)(s a:Ba):Dr × Bg × Int :=
 if aW d.N s==0 then (d,[],6) else if fN d (aW d.N s) then (d,[],14) else if aW d.N a==0 then (d,[],6) else if !fN d (aW d.N a) then (d,[],13) else if rF d (aW d.N a) then (d,[],15)
 else
  let m:=eX (cB d (zE4 d (aW d.N s))) (cB d (aW d.N a)) (cB d (aW d.N s))
  if decide (0<(m.2.length:Int)) then (d,m.2,17) else if decide (120<(m.1.length:Int)) || decide (2147483647<=d.x) then (d,[],16)
  else (vP d s (aW d.N a) 0 m.1,[],0)
theorem zEf(h:OkW d){s:Ba}{n:Nm}(D:pT d.N s=some n)(k:y∈d.L)(E:y.1.i=n.l)(B:y.1.f=false){p:Int}(F:HU d p)(H:(cA d.G p).length<=11)(C:d.x<2147483647):(vP d s p 0 t).L.length<=d.L.length:=by
 obtain ⟨I,J⟩:=fJ D;have c:=CQ h s p 0 t;have a:∀x∈d.G,x.i<d.x:=λx C=>by
  obtain⟨w,o,rfl⟩:=JH.1 C;exact h.nx.1 w o
 have K:OkG (lZ d s p 0 t).G:=by
  rw[zCt];exact zHx h.g a ⟨h.nx.2.1,qf⟩ (AD F) (.inl rfl) (λM=>absurd rfl M) H
 have q:zH (lZ d s p 0 t).G (qK (lZ d s p 0 t).N) y.1.i=false:=by
  rw[lh];intro O;obtain⟨m,u,P⟩:=zIv O;rcases zC5 K P with e|⟨w,o,Q,v⟩
  .rcases (wU h.srt).1 u with rfl|⟨R,S⟩
   .have:=h.nx.1 y k;simp only at e;omega
   .have:=h.one n I m R qd λz a T=>by rw[zMa h.g.inc a k qd];exact B
    subst this;exact S J
  .obtain⟨U,A,rfl⟩:=JH.1 o;rcases c9.1 (show U∈d.L++[_] from A) with b|b
   .rw[zMa h.g.inc b k Q,B] at v;cases v
   .rw[ep] at b;subst b;cases v
 rw[CH];show (zDW (lZ d s p 0 t)).length<=_;rw[CM c];have u:y∈(lZ d s p 0 t).L:=show y∈d.L++[_] from fg _ k
 have b:∀{l:List (Ly × Bl)} {f:Ly × Bl->Bool},y∈l->f y=false->(l.filter f).length+1<=l.length:=by
  intro l f
  induction l with
  | nil=>intro h;cases h
  | cons z l V =>
   intro a j;rw[fc];have:=ei f l;rcases bx.1 a with rfl|a
   .rw[au (by rw[j];decide)];simp only[bw];omega
   .have:=V a j;split<;>simp only[bw]<;>omega
 have W:=b (f:=λz=>zH (lZ d s p 0 t).G (qK (lZ d s p 0 t).N) z.1.i) u q;have X:(lZ d s p 0 t).L.length=d.L.length+1:=by show (d.L++[_]).length=_;rw[bo];rfl
 omega
theorem zEh(h:Sim r d)(s a:Ba):(iO r s a).2=(iI d s a).2/\Sim (iO r s a).1 (iI d s a).1:=by
 unfold iO iI wsP snP;cases e:pT d.N s with
 | none =>
  obtain⟨I,J⟩:=eD h.toSimW e;simp_all
 | some n =>
  obtain⟨y,K,I,J,o,O,P⟩:=eF h.toSimW e;have u:=h.t y K;rw[I,J,P,kZ o,fF o];cases Q:y.1.f;rotate_left 1
  .exact⟨rfl,h⟩
  .rw [show ((0:Int)==0 && false)=false from rfl]
   simp only[av,ax];rw[show (!((0:Int)==0))=false from rfl]
   simp only[av,ax];cases g:pT d.N a with
   | none =>
    obtain⟨L,M⟩:=eD h.toSimW g;simp_all
   | some m =>
    obtain⟨z,v,L,M,q,S,R⟩:=eF h.toSimW g;have w:=h.t z v;rw[L,M,R,kZ q,fF q];cases j:z.1.f
    .exact⟨rfl,h⟩
    .rw [show ((0:Int)==0 && !true)=false from rfl]
     simp only[av,ax,bh];rw[show (!((0:Int)==0))=false from rfl]
     simp only[av,ax];rw[qB h.toSimW,ki];cases A:rF d z.1.i
     .simp only[av,ax];rw[h.toSimW.treeR,h.toSimW.treeR,h.toSimW.treeR,fF o,fF q,show zE4 d y.1.i=y.1.p by unfold zE4;rw[o],h.x]
      unfold gT;have k:=h.toOkW.tree y.1.p;generalize cB d y.1.p=b at k ⊢;cases B:decide (0<((eX b z.2 y.2).2.length:Int))
      .simp only[av,ax];cases C:decide (120<((eX b z.2 y.2).1.length:Int))
       .simp only[av,ax,dw];rw[show (!((0:Int)==0))=false from rfl]
        simp only[av,ax];cases D:decide (2147483647<=d.x)
        .simp only[av,ax,i6];simp only[ik] at B C D;have E:=FK k w u qd qd;have F:bB s=true:=by
          obtain⟨G,H⟩:=fJ e;rw[<- H];exact(h.nm n G).1
         have c:(bY d.N s d.x).length<=20:=by
          obtain⟨G,H⟩:=fJ e;rw[<- H,rP h.srt G,ff];exact h.ln
         refine RQ h.toSimW F ⟨z,v,rfl,j⟩ (.inl rfl) (tV A) E qd c (by rw[fF q]) ?_;exact bj (zEf h.toOkW e K O Q ⟨z,v,rfl,j⟩ (tV A) qd) h.len
        .exact⟨rfl,h⟩
       .exact⟨rfl,h⟩
      .exact⟨rfl,h⟩
     .simp only[az];rw[NV r z.1.i (by rw[qB h.toSimW,A];rfl)];exact⟨rfl,h⟩
end
def lH:Ba:=[109,97,105,110]
def zRf:Rm:=⟨[⟨lH,2⟩],[⟨1,0,0,true⟩,⟨2,1,0,false⟩],[],3⟩
def zA9:Sim zRf SI:=by
 have h:OkG SI.G:=(zJn qi).1;have c:∀y∈SI.L,y=(⟨1,0,0,true⟩,[])∨y=(⟨2,1,0,false⟩,[]):=λy b=>by
  simpa[SI] using b
 refine { g:=h,t:=λy b=>?_,srt:=ky _ _,nm:=λn d=>?_,one:=λn d m f _ _=>?_,nx:=⟨λy b=>?_,qh,qh⟩,ln:=by decide,N:=rfl,L:=rfl,x:=rfl,e:=λy b=>?_,kept:=λy b=>?_,len:=by decide }
 .rcases c y b with rfl|rfl<;>exact OkT.nil
 .obtain rfl:n=⟨lH,2⟩:=by simpa[SI,lH] using d
  exact⟨qi,(⟨2,1,0,false⟩,[]),by simp[SI],rfl⟩
 .rw[show n=⟨lH,2⟩ by simpa[SI,lH] using d,show m=⟨lH,2⟩ by simpa[SI,lH] using f]
 .rcases c y b with rfl|rfl<;>decide
 .have e:∀a,cB SI a=[]:=λa=>by
   unfold cB;split
   .rename_i y b;rcases c y (lY b).1 with rfl|rfl<;>rfl
   .rfl
  rw[e];rcases c y b with rfl|rfl<;>rfl
 .refine⟨⟨lH,2⟩,by simp[SI,lH],?_⟩
  rcases c y b with rfl|rfl<;>decide +kernel
def bC(r:Rm):aF:=[.box [.own 1 0 r.N.length,.own 2 0 r.L.length,.mp 3,.p (.i .i64 r.x)],.arr 2 (bW r.N) false,.arr 4 (cZ r.L) false,.mp (uV r.E)]
def AtN(N:Bn)(s:Ba)(i:Nat):Prop:=i<=N.length/\∀(k:Nat) (x:Nm),N[k]?=some x->(k<i->cC x.n s=true)/\(i<=k->cC x.n s=false)
def zFk{s:Ba}:∀{N:Bn} {i:Nat},AtN N s i->nP N s=i
 | [],i,h=>by have:=h.1;simp at this;subst this;rfl
 | x::N,0,h=>by
  have:=(h.2 0 x rfl).2 (bg _);unfold nP;rw[ou,au (by rw[this];decide)];rfl
 | x::N,i+1,h=>by
  have c:=(h.2 0 x rfl).1 qd;have a:=zFk (N:=N) (i:=i) (s:=s) ⟨by have:=h.1;simp only[bw] at this;omega,λk y b=>⟨λd=>(h.2 (k+1) y (by simpa using b)).1 qd,λd=>(h.2 (k+1) y (by simpa using b)).2 qd⟩⟩
  unfold nP at a ⊢;rw[ou,aw c,bw,a]
def zPK{N:Bn}(h:DC N){s:Ba}{i:Nat}(f:AtN N s i):zAa N s=(match N[i]? with
  | some x=>x.n==s
  | none=>false):=by
 have e:=zFk f;cases b:N[i]? with
 | none =>
  simp only;unfold zAa;rw[mw];intro x c;obtain⟨k,g⟩:=eh.1 c;have d:k<i:=by
   have m:=(bz.1 g).1;have o:N.length<=i:=by
    rcases cc i N.length with h|h
    .rw[ay h] at b;cases b
    .exact h
   omega
  have:=mO ((f.2 k x g).1 d);rw[this];decide
 | some y =>
  simp only;cases j:y.n==s
  .rw[lh];intro l;unfold zAa at l;obtain⟨x,c,a⟩:=jj.1 l;have a:=eq_of_beq a;subst a;have:=QK h c;rw[e,b] at this;cases this;simp at j
  .exact jj.2 ⟨y,dr b,j⟩
def zBb{N:Bn}(h:DC N){s:Ba}:(zAa N s=false/\pT N s=none)∨∃x,zAa N s=true/\pT N s=some x/\N[nP N s]?=some x/\x.n=s:=by
 cases a:pT N s with
 | none =>
  left;rw[<- QL,a];exact⟨rfl,rfl⟩
 | some x =>
  right;obtain⟨c,b⟩:=fJ a;refine⟨x,by rw[<- QL,a];rfl,rfl,?_,b⟩
  rw[<- b];exact QK h c
structure OkR (r:Rm):Prop where
 srt:DC r.N
 nl:r.N.length<=900
 ll:r.L.length<=900
 ent:∀x∈r.L,OkE (nM r.E x.i)
 x:0<=r.x/\r.x<=2147483647
def JV{l:Bm}:∀{n:Nat} {id a:Int},a∈eP l n id->∃x∈l,x.i=a
 | 0,_,_,h=>by cases h
 | n+1,id,a,h=>by
  simp only[eP] at h;split at h
  .rename_i x b;rcases bx.1 h with rfl|h
   .exact⟨x,(oW b).1,rfl⟩
   .exact JV h
  .cases h
def OkR.layers{r:Rm}(h:OkR r)(id:Int):∀l∈qL r id,OkE l:=λl b=>by
 obtain⟨a,c,rfl⟩:=cg.1 b;obtain⟨x,d,rfl⟩:=JV (kz.1 c);exact h.ent x d
attribute [go_sem] bC
section
variable {r:Rm}{d:Dr}{s t sn o:Ba}{q:Int}{w:Bl}
theorem SimW.okR(h:SimW r d)(c:d.L.length<=900):OkR r where
 srt:=by rw[h.N];exact h.srt
 nl:=by rw[h.N];have:=h.ln;omega
 ll:=by rw[h.L];simpa[Dr.G] using c
 ent:=λx a=>by
  rw[h.L] at a;obtain⟨y,b,rfl⟩:=JH.1 a;rw[h.e y b];exact zA3 (h.toOkW.tree _) (h.t y b)
 x:=by rw[h.x];have:=h.nx.2;omega
theorem Sim.okR(h:Sim r d):OkR r:=h.toSimW.okR (by have:=h.len;omega)
theorem Sim.okG(h:Sim r d):OkG r.L:=by rw[h.L];exact h.g
theorem Sim.okT(h:Sim r d)(id:Int):OkT (treeR r id):=by rw[h.toSimW.treeR];exact h.toOkW.tree id
theorem CR(h:SimW r d)(m:d.L.length<=800){p:Int}{t:Bl}(c:bB s=true)(e:HU d p)(f:q=0∨(p≠q/\HU d q))(i:(cA d.G p).length<=11)(j:OkT t)
 (k:d.x<2147483647)(l:(bY d.N s d.x).length<=20):OkR ⟨bY r.N s r.x,r.L++[⟨r.x,p,q,false⟩],rK r.E r.x (eW (treeR r p) t),r.x+1⟩/\OkG (r.L++[⟨r.x,p,q,false⟩]):=by
 have a:=ZF h c e f i j k l;rw[h.treeR];refine⟨a.okR ?_,?_⟩
 .show (d.L++[_]).length<=900;rw[bo];simp only[bw,da];omega
 .have b:=a.g;rw[<- a.L] at b;exact b
theorem zSH(h:Sim r d)(h1:((snP r s).2==0)=true):∃n y,pT d.N s=some n/\y∈d.L/\snP r s=(y.1,0)/\lX d y.1.i=some y/\y.1.f=true:=by
 unfold snP at h1 ⊢;cases a:pT d.N s with
 | none =>
  obtain⟨b,_⟩:=eD h.toSimW a;simp_all
 | some n =>
  obtain⟨y,c,e,g,j,k,l⟩:=eF h.toSimW a;grind
theorem zTe(h:Sim r d)(h1:((wsP r s).2==0)=true):∃n y,pT d.N s=some n/\y∈d.L/\wsP r s=(y.1,0)/\lX d y.1.i=some y/\y.1.f=false/\y.1.i=n.l:=by
 unfold wsP at h1 ⊢;cases a:pT d.N s with
 | none =>
  obtain⟨b,_⟩:=eD h.toSimW a;simp_all
 | some n =>
  obtain⟨y,c,e,g,j,k,m⟩:=eF h.toSimW a;grind
theorem NW(h:SimW r d){a:Int}(b:(jU r a==0)=true):(cA d.G a).length<=11:=by grind [qB,tV]
theorem zLT(h:Sim r d)(h1:((snP r sn).2==0)=true)(b:(jN r s==0)=true)(c:(jU r (snP r sn).1.i==0)=true):
  OkR ⟨bY r.N s r.x,r.L++[⟨r.x,(snP r sn).1.i,0,false⟩],rK r.E r.x [],r.x+1⟩/\OkG (r.L++[⟨r.x,(snP r sn).1.i,0,false⟩]):=by
 obtain⟨n,y,j,a,e,f,g⟩:=zSH h h1;rw[e] at c ⊢;rw[tQ h.toSimW] at b;obtain⟨f1,f2,f3,f4,f5⟩:=qJ b;have:=CR (s:=s) (p:=y.1.i) (q:=0) (t:=y.2) h.toSimW (by have:=h.len;omega) f1 ⟨y,a,rfl,g⟩ (.inl rfl) (NW h.toSimW c) (h.t y a) f5 (by have:=gQ d.N s d.x;omega)
 rwa[h.toSimW.treeR,fF f,xL (h.t y a)] at this
theorem zDI(h:Sim r d)(h1:((wsP r s).2==0)=true)(Q:(jN r sn==0)=true)(R:(jU r (wsP r s).1.i==0)=true):
  OkR ⟨bY r.N sn (wsP r s).1.i,sA r.L (wsP r s).1.i,r.E,r.x⟩ /\
   OkR ⟨bY (bY r.N sn (wsP r s).1.i) s r.x,sA r.L (wsP r s).1.i++[⟨r.x,(wsP r s).1.i,0,false⟩],rK r.E r.x [],r.x+1⟩/\OkG (sA r.L (wsP r s).1.i++[⟨r.x,(wsP r s).1.i,0,false⟩]):=by
 obtain ⟨n,y,H,F,e,T,Y,Z⟩:=zTe h h1;rw[e] at R ⊢;rw[tQ h.toSimW] at Q;obtain⟨f1,f2,f3,f4,f5⟩:=qJ Q;have B:=HC h.toSimW y.1.i;have c:∀n,n∈bY d.N sn y.1.i↔n=⟨sn,y.1.i⟩∨(n∈d.N/\n.n≠sn):=λn=>wU h.srt;have j:=zW B (N:=bY d.N sn y.1.i) (rQ h.srt sn y.1.i) (λm U=>by
   rcases (c m).1 U with rfl|⟨k,_⟩
   .exact⟨f1,_,jO h.g.inc (id:=y.1.i) F,rfl⟩
   .exact B.nm m k) (λa V b W e I=>by
   have C:∀z∈d.L,z.1.i=a.l->z.1.i≠y.1.i/\z.1.f=false:=λz J u=>by
    have:=I _ (jO h.g.inc (id:=y.1.i) J) u;grind [HQ]
   rcases (c a).1 V with rfl|⟨k,_⟩<;>rcases (c b).1 W with rfl|⟨v,_⟩
   .rfl
   .grind
   .grind
   .exact h.one a k b v e λz J u=>(C z J u).2) (by have:=gQ d.N sn y.1.i;omega)
 have j:SimW ⟨bY d.N sn y.1.i,sA r.L y.1.i,r.E,r.x⟩ ⟨vM y.1.i d.L,bY d.N sn y.1.i,d.x⟩:=j;have S:(vM y.1.i d.L).length=d.L.length:=by rw[tR h.g.inc,di]
 have K:bB s=true:=by
  obtain⟨k,v⟩:=fJ H;rw[<- v];exact(h.nm n k).1
 have M:HU ⟨vM y.1.i d.L,bY d.N sn y.1.i,d.x⟩ y.1.i:=⟨_,jO h.g.inc (id:=y.1.i) F,rfl,by show (y.1.f || y.1.i==y.1.i)=true;simp⟩
 have D:(⟨vM y.1.i d.L,bY d.N sn y.1.i,d.x⟩:Dr).G=sA d.G y.1.i:=zHs h.g.inc y.1.i;have O:sn≠s:=λe=>by
  have:=h.toOkW.name0 sn;simp_all
 have P:(⟨n.n,n.l⟩:Nm)∈bY d.N sn y.1.i:=by
  obtain⟨k,v⟩:=fJ H;exact(c _).2 (.inr ⟨k,by rw[v];exactλe=>O e.symm⟩)
 have A:(bY (bY d.N sn y.1.i) s d.x).length<=20:=by
  obtain⟨k,v⟩:=fJ H;rw[<- v,rP (rQ h.srt sn y.1.i) P];grind [gQ]
 have X:cB ⟨vM y.1.i d.L,bY d.N sn y.1.i,d.x⟩ y.1.i=y.2:=(CG h.toOkW y.1.i y.1.i).trans (fF T);have:=CR (s:=s) (p:=y.1.i) (q:=0) (t:=y.2) j (by show (vM y.1.i d.L).length<=800;omega) K M (.inl rfl) (by rw[D,EP];exact NW h.toSimW R) (h.t y F) f5 A;rw[j.treeR,X,xL (h.t y F)] at this;rw[h.N];exact⟨j.okR (by show (vM y.1.i d.L).length<=900;omega),this⟩
theorem zOO(h:Sim r d)(h1:((fU r o t).2.2==0)=true):∃y z,y∈d.L/\z∈d.L/\fU r o t=(y.1,z.1,0)/\lX d y.1.i=some y/\lX d z.1.i=some z/\y.1.f=true/\z.1.f=true:=by
 unfold fU at h1 ⊢;cases a:pT d.N o with
 | none =>
  obtain⟨b,_⟩:=eD h.toSimW a;simp_all
 | some n =>
  obtain⟨y,e,g,j,k,l,p⟩:=eF h.toSimW a;cases c:pT d.N t with
  | none =>
   obtain⟨b,_⟩:=eD h.toSimW c;simp_all
  | some m =>
   obtain⟨z,u,b,v,x,A,B⟩:=eF h.toSimW c;grind
theorem zIb(h:Sim r d)(h1:((fU r o t).2.2==0)=true)(c:(jN r s==0)=true)(f:(jU r (fU r o t).1.i==0)=true)(j:OkT w)(g:q=if (fU r o t).1.i==(fU r o t).2.1.i then 0 else (fU r o t).2.1.i):
  OkR ⟨bY r.N s r.x,r.L++[⟨r.x,(fU r o t).1.i,q,false⟩],rK r.E r.x (eW (treeR r (fU r o t).1.i) w),r.x+1⟩/\OkG (r.L++[⟨r.x,(fU r o t).1.i,q,false⟩]):=by
 obtain⟨y,z,k,l,e,n,p,m,b⟩:=zOO h h1;rw[e] at f g ⊢;rw[tQ h.toSimW] at c;obtain⟨f1,f2,f3,f4,f5⟩:=qJ c;refine CR h.toSimW (by have:=h.len;omega) f1 ⟨y,k,rfl,m⟩ ?_ (NW h.toSimW f) j f5 (by have:=gQ d.N s d.x;omega);by_cases a:y.1.i=z.1.i
 .simp_all
 .right;rw[g,au (by simpa using a)];exact⟨a,z,l,rfl,b⟩
theorem zEg(h:Sim r d)(h1:((wsP r s).2==0)=true)(g:((snP r o).2==0)=true)(b:(jU r (snP r o).1.i==0)=true)(j:OkT w)(k:r.x<2147483647):
  OkR ⟨bY r.N s r.x,r.L++[⟨r.x,(snP r o).1.i,0,false⟩],rK r.E r.x (eW (treeR r (snP r o).1.i) w),r.x+1⟩/\OkG (r.L++[⟨r.x,(snP r o).1.i,0,false⟩]):=by
 obtain⟨n,y,l,A,e,B,C,D⟩:=zTe h h1;obtain⟨m,z,F,p,u,G,v⟩:=zSH h g;rw[u] at b ⊢;obtain⟨c,f⟩:=fJ l;have a:bB s=true:=by rw[<- f];exact(h.nm n c).1
 refine CR h.toSimW (by have:=h.len;omega) a ⟨z,p,rfl,v⟩ (.inl rfl) (NW h.toSimW b) j (by rw[<- h.x];exact k) ?_;rw[<- f,rP h.srt c,ff];exact h.ln
theorem KW(h:Sim r d)(a b c:Int)(e:(gT (treeR r a) (treeR r b) (treeR r c)).2.2=0):OkT (gT (treeR r a) (treeR r b) (treeR r c)).1:=by
 have f:=h.okT a;have g:=h.okT b;have i:=h.okT c;grind [gT,FK]
theorem uI(h:Sim r d)(s:Ba):OkT (dS r s).1:=by rw[AE h.toSimW];exact pP h.toOkW s
theorem zFf(h:Sim r d)(s:Ba){l:Bh}(a:∀x∈l,x.n.t<18446744073709551616):OkT (treeR r (wsP r s).1.i)/\OkT (treeR r (wsP r s).1.p)/\(((gP (treeR r (wsP r s).1.i) l).2==0)=true->OkT (gP (treeR r (wsP r s).1.i) l).1) :=
 ⟨h.okT _,h.okT _,λb=>SL (h.okT _) a (by simpa using b)⟩
theorem zRN(h:Sim r d)(s:Ba){c:Cl}(a:c.t<18446744073709551616):OkT (treeR r (cF r s).1.i)/\OkT (treeR r (cF r s).1.p)/\OkT (doP (treeR r (cF r s).1.i) c).1 :=
 ⟨h.okT _,h.okT _,zRM (h.okT _) a⟩
theorem zK4(h:Sim r d)(s:Ba):OkR ⟨kC r.N s,r.L,r.E,r.x⟩ :=
 have k:=h.okR
 ⟨VB k.srt s,bj (VA _ _) k.nl,k.ll,k.ent,k.x⟩
end
section
section steps
variable {r:Rm}{d d':Dr}
section
variable {r:Rm}{d d':Dr}
end
theorem zAL{s sn:Ba}{e:Int}(h:Sim r d)(f:gR d s sn=(d',e)):∃a,lG r s sn=(a,e)/\Sim a d':=by
 obtain⟨b,c⟩:=KJ h s sn;rw[f] at b c;exact⟨_,kq rfl b,c⟩
section
variable {r:Rm}{d d':Dr}
end
section
variable {r:Rm}{d d':Dr}
end
theorem zGl{s:Ba}{c:Cl}{a:An}(h:Sim r d)(g:c.t<18446744073709551616)(i:doD d s c=(d',a)):∃b,zAz r s c=(b,a)/\Sim b d':=by
 obtain⟨e,f⟩:=zN7 h s g;rw[i] at e f;exact⟨_,kq rfl e,f⟩
section
variable {r:Rm}{d d':Dr}
end
section
variable {r:Rm}{d d':Dr}
end
section
variable {r:Rm}{d d':Dr}
end
end steps
theorem zF4{a b:Bl}(c:OkT a)(e:OkT b):∀x∈dB a b,x.n.t<18446744073709551616:=λx f=>(xA c e f).2
def v1S:Ba:=[118,49]
def mkS(p:Ba):Cl:=⟨1,p,[],493,0,0,0,[]⟩
def zAZ:∃(g h f:Rm) (d1 d2 d3:Dr) (a b:An),lG zRf lH v1S=(g,0)/\Sim g d1/\zAz g v1S (mkS [97])=(h,a)/\a.e=14/\Sim h d2/\zAz h lH (mkS [97])=(f,b)/\b.e=0/\Sim f d3/\f.N.length=2/\f.x=4:=by
 obtain⟨g,l,j⟩:=zAL (d':=(gR SI lH v1S).1) (e:=0) (s:=lH) (sn:=v1S) zA9 (kq rfl qi);obtain⟨h,m,k⟩:=zGl (s:=v1S) (c:=mkS [97]) j qh (kq rfl rfl:_=((doD (gR SI lH v1S).1 v1S (mkS [97])).1,(doD (gR SI lH v1S).1 v1S (mkS [97])).2));obtain⟨f,n,i⟩:=zGl (s:=lH) (c:=mkS [97]) k qh (kq rfl rfl:_=((doD (doD (gR SI lH v1S).1 v1S (mkS [97])).1 lH (mkS [97])).1,(doD (doD (gR SI lH v1S).1 v1S (mkS [97])).1 lH (mkS [97])).2));exact⟨g,h,f,_,_,_,_,_,l,j,m,qi,k,n,qi,i,by rw[i.N];decide +kernel,by rw[i.x];decide +kernel⟩
end
structure Ev where
 k:Int
 n:Ba
 t:Ba
 m:Ba
 c:Cl
 q:Int
 b:Ba
structure Rw where
 e:Int
 a:An
 c:Bh
 f:Bg
def rw0:Rw:=⟨0,anE 0,[],[]⟩
structure OkEv (e:Ev):Prop where
 c:OkC e.c
 n:e.n.length<=1000000000
 t:e.t.length<=1000000000
 m:e.m.length<=1000000000
def TQ(r:Rm)(a b:Ba):Bh × Int :=
 if !((dS r a).2==0) then ([],(dS r a).2) else if !((dS r b).2==0) then ([],(dS r b).2) else (dB (dS r a).1 (dS r b).1,0)
def gM(d:Dr)(a b:Ba):Bh × Int :=
 if !((gA d a).2==0) then ([],(gA d a).2) else if !((gA d b).2==0) then ([],(gA d b).2) else (dB (gA d a).1 (gA d b).1,0)
def zBY{r:Rm}{d:Dr}(h:SimW r d)(a b:Ba):TQ r a b=gM d a b:=by grind [TQ,gM,AE]
def JJ(r:Rm)(e:Ev):Rm × Rw :=
 if e.k==1 then ((zAz r e.n e.c).1,⟨(zAz r e.n e.c).2.e,(zAz r e.n e.c).2,[],[]⟩)
 else if e.k==2 then ((lG r e.n e.t).1,⟨(lG r e.n e.t).2,anE 0,[],[]⟩)
 else if e.k==3 then ((JB r e.n e.t).1,⟨(JB r e.n e.t).2,anE 0,[],[]⟩)
 else if e.k==4 then (r,⟨(TQ r e.n e.t).2,anE 0,(TQ r e.n e.t).1,[]⟩)
 else if e.k==5 then (if (TQ r e.t e.m).2==0 then ((jY r e.n (TQ r e.t e.m).1).1,⟨(jY r e.n (TQ r e.t e.m).1).2,anE 0,[],[]⟩) else (r,⟨(TQ r e.t e.m).2,anE 0,[],[]⟩))
 else if e.k==6 then ((lI r e.n e.t e.m).1,⟨(lI r e.n e.t e.m).2.2,anE 0,[],(lI r e.n e.t e.m).2.1⟩)
 else if e.k==7 then ((iO r e.n e.t).1,⟨(iO r e.n e.t).2.2,anE 0,[],(iO r e.n e.t).2.1⟩)
 else if e.k==8 then ((HZ r e.n).1,⟨(HZ r e.n).2,anE 0,[],[]⟩)
 else (r,rw0)
def wF(d:Dr)(e:Ev):Dr × Rw :=
 if e.k==1 then ((doD d e.n e.c).1,⟨(doD d e.n e.c).2.e,(doD d e.n e.c).2,[],[]⟩)
 else if e.k==2 then ((gR d e.n e.t).1,⟨(gR d e.n e.t).2,anE 0,[],[]⟩)
 else if e.k==3 then ((EN d e.n e.t).1,⟨(EN d e.n e.t).2,anE 0,[],[]⟩)
 else if e.k==4 then (d,⟨(gM d e.n e.t).2,anE 0,(gM d e.n e.t).1,[]⟩)
 else if e.k==5 then (if (gM d e.t e.m).2==0 then ((oQ d e.n (gM d e.t e.m).1).1,⟨(oQ d e.n (gM d e.t e.m).1).2,anE 0,[],[]⟩) else (d,⟨(gM d e.t e.m).2,anE 0,[],[]⟩))
 else if e.k==6 then ((lQ d e.n e.t e.m).1,⟨(lQ d e.n e.t e.m).2.2,anE 0,[],(lQ d e.n e.t e.m).2.1⟩)
 else if e.k==7 then ((iI d e.n e.t).1,⟨(iI d e.n e.t).2.2,anE 0,[],(iI d e.n e.t).2.1⟩)
 else if e.k==8 then ((EC d e.n).1,⟨(EC d e.n).2,anE 0,[],[]⟩)
 else (d,rw0)
def zDq{d:Dr}(h:OkW d)(a b:Ba):∀x∈(gM d a b).1,x.n.t<18446744073709551616:=by grind [pP,gM,zF4]
def zMZ{r:Rm}{d:Dr}(h:Sim r d){e:Ev}(f:OkEv e):(JJ r e).2=(wF d e).2/\Sim (JJ r e).1 (wF d e).1:=by
 unfold JJ wF;split
 .obtain⟨a,b⟩:=zN7 h e.n f.c.t;simp_all
 split
 .obtain⟨a,b⟩:=KJ h e.n e.t;simp_all
 split
 .obtain⟨a,b⟩:=zLU h e.n e.t;simp_all
 split
 .exact⟨by rw[zBY h.toSimW],h⟩
 split
 .rw[zBY h.toSimW];split
  .obtain⟨a,b⟩:=zFg h e.n (zDq h.toOkW e.t e.m);exact⟨by rw[a],b⟩
  .exact⟨rfl,h⟩
 split
 .obtain⟨a,b⟩:=zIc h e.n e.t e.m;exact⟨by rw[a],b⟩
 split
 .obtain⟨a,b⟩:=zEh h e.n e.t;exact⟨by rw[a],b⟩
 split
 .obtain⟨a,b⟩:=zK5 h e.n;exact⟨by rw[a],b⟩
 .exact⟨rfl,h⟩
def uL(l:List (Ly × Bl)):Bc:=l.map λy=>[.i .i64 y.1.i,.i .i64 y.1.p,.i .i64 y.1.s,.b y.1.f,.sl 5 (aP y.2)]
def zB4(l:List (Ly × Bl)):(uL l).length=l.length:=by simp[uL]
theorem zLd:uL []=[]:=rfl
def oI{l:List (Ly × Bl)}{k:Nat}{y:Ly × Bl}(h:l[k]?=some y):(uL l).getD k []=[.i .i64 y.1.i,.i .i64 y.1.p,.i .i64 y.1.s,.b y.1.f,.sl 5 (aP y.2)]:=by
 simp only[uL,ed,dv,h];rfl
def zLe(l:List (Ly × Bl)):(∀x∈uL l,x.length=5)=True:=fr λx a=>by
 obtain⟨y,_,rfl⟩:=cg.1 a;rfl
def zGB(a:List (Ly × Bl))(n:Nat):(uL a).take n=uL (a.take n):=by simp[uL]
def zGz(a:List (Ly × Bl))(n:Nat):(uL a).drop n=uL (a.drop n):=by simp[uL]
def zLc(a b:List (Ly × Bl)):uL a++uL b=uL (a++b):=by simp[uL]
def zGA(l:List (Ly × Bl))(i p s:Int)(f:Bool)(t:Bl):uL l++[[.i .i64 i,.i .i64 p,.i .i64 s,.b f,.sl 5 (aP t)]]=uL (l++[(⟨i,p,s,f⟩,t)]):=by simp[uL]
def PA(l:List (Ly × Bl))(k:Nat)(i p s:Int)(f:Bool)(t:Bl):(uL l).set k [.i .i64 i,.i .i64 p,.i .i64 s,.b f,.sl 5 (aP t)]=uL (l.set k (⟨i,p,s,f⟩,t)):=by simp[uL,jn]
abbrev drv(d:Dr):Bf:=[.p (.sl 5 (uL d.L)),.p (.sl 2 (bW d.N)),.p (.i .i64 d.x)]
def KO:List (Ly × Bl)->Int->Int
 | [],_=>-1
 | x::l,a=>if x.1.i==a then 0 else if KO l a == -1 then -1 else KO l a+1
def zAS:∀(l:List (Ly × Bl)) (a:Int),-1<=KO l a
 | [],_=>Int.le_refl _
 | x::l,a=>by
  simp only[KO];have:=zAS l a;split
  .omega
  .split
   .omega
   .omega
def WA{a:Int}:∀{l:List (Ly × Bl)},(∀(k:Nat) (x:Ly × Bl),l[k]?=some x->(x.1.i==a)=false)->KO l a = -1
 | [],_=>rfl
 | x::l,h=>by
  simp only[KO];rw[h 0 x rfl,WA (l:=l) λk y b=>h (k+1) y (by simpa using b)];rfl
def zHz{a:Int}:∀{l:List (Ly × Bl)} {i:Nat} {x:Ly × Bl},(∀(k:Nat) (y:Ly × Bl),k<i->l[k]?=some y->(y.1.i==a)=false)->l[i]?=some x->(x.1.i==a)=true->KO l a=i
 | [],_,_,_,h,_=>by simp at h
 | y::l,0,x,_,h,b=>by
  simp only[eu,b0] at h;subst h;simp only[KO];rw[b];rfl
 | y::l,i+1,x,c,h,b=>by
  simp only[fp] at h;have d:=zHz (l:=l) (i:=i) (λk z f e=>c (k+1) z qd (by simpa using e)) h b;simp only[KO];rw[c 0 y qd rfl,d];simp only[av,ax];rw[au q9];omega
def vW(d:Dr)(a:Int):(lX d a=none/\KO d.L a = -1)∨∃(k:Nat) (y:Ly × Bl),lX d a=some y/\KO d.L a=k/\d.L[k]?=some y:=by
 unfold lX
 induction d.L with
 | nil=>exact .inl ⟨rfl,rfl⟩
 | cons y l e =>
  rw[mz];simp only[KO];cases g:y.1.i==a
  .simp only[av,ax];rcases e with⟨b,c⟩|⟨k,x,b,c,f⟩
   .exact .inl ⟨b,by rw[c];rfl⟩
   .refine .inr ⟨k+1,x,b,?_,by simpa using f⟩
    rw[c,au q9];omega
  .exact .inr ⟨0,y,rfl,ql,rfl⟩
def zC2{id:Int}{t:Bl}:∀{l:List (Ly × Bl)} {k:Nat} {y:Ly × Bl},KO l id=k->l[k]?=some y->AG id t l=l.set k (y.1,t)
 | [],k,y,_,h=>by simp at h
 | z::l,k,y,a,h=>by
  simp only[KO] at a;simp only[AG];cases c:(z.1.i==id)
  .rw [c] at a;simp only[av,ax] at a ⊢;have d:=zAS l id;split at a
   .omega
   .rename_i b;have b:KO l id≠-1:=by simpa using b
    obtain⟨j,rfl⟩:∃j,k=j+1:=⟨k-1,qd⟩
    rw[kn,zC2 (k:=j) (y:=y) qd (by simpa using h)]
  .rw[c] at a;simp only[az] at a ⊢;obtain rfl:k=0:=qd
   simp only[eu,b0] at h;subst h;rfl
def zHt{id:Int}:∀{l:List (Ly × Bl)} {k:Nat} {y:Ly × Bl},KO l id=k->l[k]?=some y->vM id l=l.set k (⟨y.1.i,y.1.p,y.1.s,true⟩,y.2)
 | [],k,y,_,h=>by simp at h
 | z::l,k,y,a,h=>by
  simp only[KO] at a;simp only[vM];cases c:(z.1.i==id)
  .rw [c] at a;simp only[av,ax] at a ⊢;have d:=zAS l id;split at a
   .omega
   .rename_i b;have b:KO l id≠-1:=by simpa using b
    obtain⟨j,rfl⟩:∃j,k=j+1:=⟨k-1,qd⟩
    rw[kn,zHt (k:=j) (y:=y) qd (by simpa using h)]
  .rw[c] at a;simp only[az] at a ⊢;obtain rfl:k=0:=qd
   simp only[eu,b0] at h;subst h;rfl
attribute [go_sem] zB4 zLd zLe zGB zGz zLc zGA PA
structure RW where
 k:Int
 a:Int
 b:Int
 c:Int
 n:Int
 r:RC
 m:Ba
def RW.cs(x:RW):List PV:=[.i .i64 x.k,.i .i64 x.a,.i .i64 x.b,.i .i64 x.c,.i .i64 x.n,.i .i64 x.r.k,.i .i64 x.r.p,.i .i64 x.r.to',.i .i64 x.r.m,.i .i64 x.r.t,.i .i64 x.r.at',.i .i64 x.r.n,.i .i64 x.r.how,.f x.r.x,.sl 1 (bS x.r.d),.s x.r.s,.sl 1 (bS x.m)]
def VI(l:List RW):Bc:=l.map RW.cs
def zG2(l:List RW):(VI l).length=l.length:=by simp[VI]
attribute [go_sem] zG2
def zLE{t:List RW}{k:Nat}{x:RW}(h:t[k]?=some x):(VI t).getD k []=[.i .i64 x.k,.i .i64 x.a,.i .i64 x.b,.i .i64 x.c,.i .i64 x.n,.i .i64 x.r.k,.i .i64 x.r.p,.i .i64 x.r.to',.i .i64 x.r.m,.i .i64 x.r.t,.i .i64 x.r.at',.i .i64 x.r.n,.i .i64 x.r.how,.f x.r.x,.sl 1 (bS x.r.d),.s x.r.s,.sl 1 (bS x.m)]:=by
 simp only[VI,ed,dv,h];rfl
def zRc(x:RW):Prop:=(x.r.d.length<=9223372036854775807/\x.r.s.length<=9223372036854775807/\x.r.x<18446744073709551616)/\x.m.length<=9223372036854775807
end Go.Dm
end
