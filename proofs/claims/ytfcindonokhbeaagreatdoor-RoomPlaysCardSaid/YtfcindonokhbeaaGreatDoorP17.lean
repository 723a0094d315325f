/- Part 18 of roomPlays_card. No condition. -/
import Derived.Test.YtfcindonokhbeaaGreatDoorP16
set_option linter.all false
set_option maxRecDepth 100000
set_option maxHeartbeats 0
section
namespace Go.Dm
open Go
section
variable {r:Rm}{d:Dr}{id p q:Int}{y:Ly × Bl}{s:Ba}{t:Bl}
theorem zW(h:SimW r d){N:Bn}(a:DC N)(b:∀n∈N,bB n.n=true/\∃y∈d.L,y.1.i=n.l)
 (h1:∀n∈N,∀m∈N,n.l=m.l->(∀y∈d.L,y.1.i=n.l->y.1.f=false)->n=m)(c:N.length<=20):SimW ⟨N,r.L,r.E,r.x⟩ ⟨d.L,N,d.x⟩ :=
 { g:=h.g,t:=h.t,srt:=a,nm:=b,one:=h1,nx:=h.nx,ln:=c,N:=rfl,L:=h.L,x:=h.x,e:=h.e }
theorem tR: ∀{l:List (Ly × Bl)},tE (l.map (·.1))->vM id l=l.map λy=>(HQ id y.1,y.2)
 | [],_=>rfl
 | y::l,h=>by
  have e:=dx.1 h;simp only[vM,dt];split
  .rename_i a;have a:=eq_of_beq a;have b:HQ id y.1=⟨y.1.i,y.1.p,y.1.s,true⟩:=by unfold HQ;rw[show (y.1.i==id)=true by simpa using a,ej]
   rw[b]
   congr 1
   have c:∀z∈l,(HQ id z.1,z.2)=z:=λz f=>by
    have:y.1.i<z.1.i:=e.1 z.1 (cg.2 ⟨z,f,rfl⟩);unfold HQ;rw[show (z.1.i==id)=false by simp;omega,dn]
   exact((nh c).trans (List.map_id' l)).symm
  .rename_i a;have b:HQ id y.1=y.1:=by unfold HQ;rw[show (y.1.i==id)=false by simpa using a,dn]
   rw[b,tR e.2]
def zPw(d:Dr)(id:Int):Dr:=⟨vM id d.L,d.N,d.x⟩
theorem zHs(hi:tE d.G)(id:Int):(zPw d id).G=sA d.G id:=by
 show (vM id d.L).map (·.1)=_
 simp_all[tR,sA,Dr.G]
theorem CF(hi:tE d.G)(h:y∈(zPw d id).L):∃z∈d.L,y=(HQ id z.1,z.2):=by
 have h:y∈vM id d.L:=h;rw[tR hi] at h;grind
theorem jO(hi:tE d.G){z:Ly × Bl}(h:z∈d.L):(HQ id z.1,z.2)∈(zPw d id).L:=by
 show _∈vM id d.L;rw[tR hi];grind
theorem CG(h:OkW d)(id a:Int):cB (zPw d id) a=cB d a:=by
 have f:tE (zPw d id).G:=by rw[zHs h.g.inc];exact(zOd h.g id).inc
 cases e:lX d a with
 | none =>
  have b:=FB e;rw[oE b,oE λy i=>?_];obtain⟨z,c,rfl⟩:=CF h.g.inc i;exact b z c
 | some y =>
  obtain⟨c,rfl⟩:=lY e;rw[mH h.g.inc c];exact mH f (y:=(HQ id y.1,y.2)) (jO h.g.inc (id:=id) c)
theorem HC(h:SimW r d)(id:Int):SimW ⟨r.N,sA r.L id,r.E,r.x⟩ (zPw d id):=by
 refine { g:=by rw[zHs h.g.inc];exact zOd h.g id,t:=λy b=>?_,srt:=h.srt,nm:=λn c=>?_,one:=λn c m j e k=>?_,nx:=⟨λy b=>?_,h.nx.2⟩,ln:=h.ln,N:=h.N,L:=by rw[zHs h.g.inc,<- h.L],x:=h.x,e:=λy b=>?_ }
 .obtain⟨z,a,rfl⟩:=CF h.g.inc b;exact h.t z a
 .obtain⟨a,y,f,i⟩:=h.nm n c;exact⟨a,_,jO h.g.inc (id:=id) f,i⟩
 .refine h.one n c m j e λy f i=>?_;have:=k _ (jO h.g.inc (id:=id) f) i;grind [HQ]
 .obtain⟨z,a,rfl⟩:=CF h.g.inc b;exact h.nx.1 z a
 .obtain⟨z,a,rfl⟩:=CF h.g.inc b;rw[CG h.toOkW];exact h.e z a
def lZ(d:Dr)(s:Ba)(p q:Int)(t:Bl):Dr:=⟨d.L++[(⟨d.x,p,q,false⟩,t)],bY d.N s d.x,d.x+1⟩
theorem CH(d:Dr)(s:Ba)(p q:Int)(t:Bl):vP d s p q t=uO (lZ d s p q t):=rfl
theorem zCt(d:Dr)(s:Ba)(p q:Int)(t:Bl):(lZ d s p q t).G=d.G++[⟨d.x,p,q,false⟩]:=by grind [lZ,Dr.G]
def HU(d:Dr)(p:Int):Prop:=∃y∈d.L,y.1.i=p/\y.1.f=true
theorem AD(h:HU d p):gO d.G d.G.length p:=by
 obtain⟨y,b,c,e⟩:=h;obtain⟨k,a⟩:=eh.1 (rN b);exact .inr ⟨k,y.1,(bz.1 a).1,a,c,e⟩
theorem XB(h:OkW d)(hi:tE (lZ d s p q t).G)(a:Int)(i:a≠d.x):cB (lZ d s p q t) a=cB d a:=by
 cases f:lX d a with
 | none =>
  have c:=FB f;rw[oE c,oE λy j=>?_];rcases c9.1 (show y∈d.L++[_] from j) with b|b
  .exact c y b
  .rw[ep] at b;subst b;exactλe=>i e.symm
 | some y =>
  obtain⟨b,rfl⟩:=lY f;rw[mH h.g.inc b];exact mH hi (show y∈d.L++[_] from fg _ b)
theorem ZF(h:SimW r d)(D:bB s=true)(A:HU d p)(B:q=0∨(p≠q/\HU d q))(F:(cA d.G p).length<=11)(H:OkT t)
 (C:d.x<2147483647)(k:(bY d.N s d.x).length<=20):SimW ⟨bY r.N s r.x,r.L++[⟨r.x,p,q,false⟩],rK r.E r.x (eW (cB d p) t),r.x+1⟩ (lZ d s p q t):=by
 have I:∀x∈d.G,x.i<d.x:=λx C=>by
  obtain⟨y,c,rfl⟩:=JH.1 C;exact h.nx.1 y c
 have J:1<=p/\p<d.x:=by
  obtain⟨y,b,rfl,_⟩:=A;exact⟨h.g.lo1 _ (rN b),h.nx.1 y b⟩
 have o:OkG (lZ d s p q t).G:=by
  rw[zCt];refine zHx h.g I ⟨h.nx.2.1,by have:=h.nx.2.2;simp only;omega⟩ (AD A) ?_ (λR=>?_) F
  .rcases B with rfl|⟨_,B⟩
   .exact .inl rfl
   .grind [AD]
  .grind
 have a:∀y,y∈(lZ d s p q t).L↔y∈d.L∨y=(⟨d.x,p,q,false⟩,t):=λy=>by
  show y∈d.L++[_]↔_;simp_all
 have u:∀n,n∈(lZ d s p q t).N↔n=⟨s,d.x⟩∨(n∈d.N/\n.n≠s):=λn=>wU h.srt;have old:∀n∈d.N,n.l≠d.x:=λn k e=>by
  obtain⟨y,_,b,j⟩:=h.toOkW.named k;have:=h.nx.1 y b;omega
 refine { g:=o,t:=λy c=>?_,srt:=rQ h.srt s d.x,nm:=λn f=>?_,one:=λn f m v e K=>?_,nx:=⟨λy c=>?_,by show 1<=d.x+1;have:=h.nx.2.1;omega,by show d.x+1<=2147483647;omega⟩,ln:=k,N:=by show bY r.N s r.x=bY d.N s d.x;rw[h.N,h.x],L:=by rw[zCt,<- h.L,<- h.x],x:=by show r.x+1=d.x+1;rw[h.x],e:=λy c=>?_ }
 .rcases (a y).1 c with b|rfl
  .exact h.t y b
  .exact H
 .rcases (u n).1 f with rfl|⟨b,_⟩
  .exact⟨D,_,(a _).2 (.inr rfl),rfl⟩
  .obtain⟨j,y,w,M⟩:=h.nm n b;grind
 .rcases (u n).1 f with rfl|⟨b,j⟩<;>rcases (u m).1 v with rfl|⟨w,M⟩
  .rfl
  .grind
  .simp_all
  .exact h.one n b m w e λy O P=>K y ((a y).2 (.inl O)) P
 .show y.1.i<d.x+1;rcases (a y).1 c with b|rfl
  .have:=h.nx.1 y b;omega
  .grind
 .show nM (rK r.E r.x _) y.1.i=_;rcases (a y).1 c with b|rfl
  .have Q:=h.nx.1 y b;rw[tX _ _ (by rw[h.x];omega),h.e y b,XB h.toOkW o.inc];rcases h.toOkW.below b with j|⟨z,j,w,_⟩
   .omega
   .omega
  .rw[h.x];rw[xU,XB h.toOkW o.inc p qd]
def cF(r:Rm)(s:Ba):Ly × Int:=match pT r.N s with
 | some n=>((fQ r.L n.l).getD ly0,0)
 | none=>(ly0,6)
def wsP(r:Rm)(s:Ba):Ly × Int:=if (cF r s).2==0 && (cF r s).1.f then (ly0,14) else cF r s
def snP(r:Rm)(s:Ba):Ly × Int:=if (cF r s).2==0 && !(cF r s).1.f then (ly0,13) else cF r s
def jN(r:Rm)(s:Ba):Int:=if !bB s then 1 else if zAa r.N s then 7 else if decide (20<=(r.N.length:Int)) || (decide (40<=(r.L.length:Int)) || decide (2147483647<=r.x)) then 16 else 0
def jU(r:Rm)(a:Int):Int:=if decide (12<=((cA r.L a).length:Int)) then 15 else 0
def JX(r:Rm):Rm:=⟨r.N,jV r.L (qK r.N),SQ (jV r.L (qK r.N)) r.E,r.x⟩
def zE1(r:Rm)(s:Ba)(p q:Int)(es:Bk):Rm:=JX ⟨bY r.N s r.x,r.L++[⟨r.x,p,q,false⟩],rK r.E r.x es,r.x+1⟩
def lG(r:Rm)(s sn:Ba):Rm × Int :=
 if !((wsP r s).2==0) then (r,(wsP r s).2) else if !(jN r sn==0) then (r,jN r sn) else if !(jU r (wsP r s).1.i==0) then (r,jU r (wsP r s).1.i)
 else (zE1 ⟨bY r.N sn (wsP r s).1.i,sA r.L (wsP r s).1.i,r.E,r.x⟩ s (wsP r s).1.i 0 [],0)
def JB(r:Rm)(sn s:Ba):Rm × Int :=
 if !((snP r sn).2==0) then (r,(snP r sn).2) else if !(jN r s==0) then (r,jN r s) else if !(jU r (snP r sn).1.i==0) then (r,jU r (snP r sn).1.i)
 else (zE1 r s (snP r sn).1.i 0 [],0)
def HZ(r:Rm)(s:Ba):Rm × Int:=if !zAa r.N s then (r,6) else (JX ⟨kC r.N s,r.L,r.E,r.x⟩,0)
theorem eF(h:SimW r d){n:Nm}(a:pT d.N s=some n):∃y∈d.L,cF r s=(y.1,0)/\aW d.N s=y.1.i/\lX d y.1.i=some y/\y.1.i=n.l/\(y.1.i==0)=false:=by
 obtain⟨f,j⟩:=fJ a;obtain⟨y,c,e,b⟩:=h.toOkW.named f;refine⟨y,e,?_,by unfold aW;rw[a,b],by rw[b];exact c,b,?_⟩
 .unfold cF;rw[h.N,a];show ((fQ r.L n.l).getD ly0,(0:Int))=_;rw[h.L,zOb,c];rfl
 .have:=h.g.lo1 _ (rN e);simp only[ji,ne_eq];omega
theorem eD(h:SimW r d)(a:pT d.N s=none):cF r s=(ly0,6)/\(aW d.N s==0)=true:=by
 refine⟨by unfold cF;rw[h.N,a],?_⟩
 rw[h.toOkW.name0,a];rfl
theorem kZ(h:lX d y.1.i=some y):fN d y.1.i=y.1.f:=by grind [fN]
theorem fF(h:lX d y.1.i=some y):cB d y.1.i=y.2:=by grind [cB]
theorem tQ(h:SimW r d)(s:Ba):jN r s=iE d s:=by
 unfold jN iE;rw[h.toOkW.name0,QL,h.N,h.L,h.x,show d.G.length=d.L.length by simp[Dr.G],ki]
theorem qJ(h:(iE d s==0)=true):bB s=true/\aW d.N s=0/\d.N.length<20/\d.L.length<40/\d.x<2147483647:=by grind [iE]
theorem qB(h:SimW r d)(on:Int):(jU r on==0) = !rF d on:=by
 unfold jU rF;rw[h.L];grind
theorem NV(r:Rm)(a:Int)(h:(jU r a==0)=false):jU r a=15:=by grind [jU]
theorem tV{a:Int}(h:rF d a=false):(cA d.G a).length<=11:=by grind [rF]
theorem RQ(h:SimW r d){es:Bk}(a:bB s=true)(b:HU d p)(c:q=0∨(p≠q/\HU d q))(e:(cA d.G p).length<=11)(f:OkT t)
 (g:d.x<2147483647)(i:(bY d.N s d.x).length<=20)(j:es=eW (cB d p) t)(k:(vP d s p q t).L.length<=40):Sim (zE1 r s p q es) (vP d s p q t):=by
 subst j;exact zCT (ZF h a b c e f g i) k
theorem CL(d:Dr)(hi:tE d.G):(uO d).L.length<=d.L.length:=by
 show (zDW d).length<=_;grind [CM]
theorem CQ(h:OkW d)(s:Ba)(p q:Int)(t:Bl):tE (lZ d s p q t).G:=by
 rw [zCt];exact PM h.g.inc λx a=>by
  obtain⟨y,b,rfl⟩:=JH.1 a;exact h.nx.1 y b
theorem zLU(h:Sim r d)(sn s:Ba):(JB r sn s).2=(EN d sn s).2/\Sim (JB r sn s).1 (EN d sn s).1:=by
 unfold JB EN snP;cases g:pT d.N sn with
 | none =>
  obtain⟨j,k⟩:=eD h.toSimW g;simp_all
 | some n =>
  obtain⟨y,a,j,k,b,u,m⟩:=eF h.toSimW g;rw[j,k,m,kZ b,fF b];cases o:y.1.f
  .exact⟨rfl,h⟩
  .rw [show ((0:Int)==0 && !true)=false from rfl]
   simp only[av,ax,bh];rw[show (!((0:Int)==0))=false from rfl]
   simp only[av,ax];rw[tQ h.toSimW];cases c:(iE d s==0)
   .exact⟨rfl,h⟩
   .simp only[bh,av,ax];rw[qB h.toSimW,ki];cases l:rF d y.1.i
    .simp only[av,ax,i6];obtain⟨f1,f2,f3,f4,f5⟩:=qJ c;refine RQ h.toSimW f1 ⟨y,a,rfl,o⟩ (.inl rfl) (tV l) (h.t y a) f5 (by have:=gQ d.N s d.x;omega) ?_ ?_
     .rw[fF b,xL (h.t y a)]
     .have:=CL (lZ d s y.1.i 0 y.2) (CQ h.toOkW _ _ _ _);have e:(lZ d s y.1.i 0 y.2).L.length=d.L.length+1:=by show (d.L++[_]).length=_;rw[bo];rfl
      rw[CH];omega
    .simp only[az];have:=NV r y.1.i (by rw[qB h.toSimW,l];rfl);exact⟨this,h⟩
theorem zK5(h:Sim r d)(s:Ba):(HZ r s).2=(EC d s).2/\Sim (HZ r s).1 (EC d s).1:=by
 unfold HZ EC;rw[h.toOkW.name0,QL,<- h.N];cases a:zAa r.N s
 .simp_all
 .simp only[bh,av,ax,i6];have b:=zW h.toSimW (N:=kC d.N s) (VB h.srt s) (λn a=>h.nm n (ED.1 a).1) (λn a m c=>h.one n (ED.1 a).1 m (ED.1 c).1) (bj (VA _ _) h.ln);have e:r.N=d.N:=h.N;rw[e];exact zCT b (bj (CL _ b.g.inc) h.len)
theorem KJ(h:Sim r d)(s sn:Ba):(lG r s sn).2=(gR d s sn).2/\Sim (lG r s sn).1 (gR d s sn).1:=by
 unfold lG gR wsP;cases A:pT d.N s with
 | none =>
  obtain⟨Q,R⟩:=eD h.toSimW A;simp_all
 | some n =>
  obtain⟨y,B,Q,R,F,Z,T⟩:=eF h.toSimW A;rw[Q,R,T,kZ F,fF F];cases hf:y.1.f;rotate_left 1
  .exact⟨rfl,h⟩
  .rw [show ((0:Int)==0 && false)=false from rfl]
   simp only[av,ax];rw[show (!((0:Int)==0))=false from rfl]
   simp only[av,ax];rw[tQ h.toSimW];cases H:(iE d sn==0)
   .exact⟨rfl,h⟩
   .simp only[bh,av,ax];rw[qB h.toSimW,ki];cases S:rF d y.1.i
    .simp only[av,ax,i6];obtain⟨f1,f2,f3,f4,f5⟩:=qJ H;have C:=HC h.toSimW y.1.i;have c:∀n,n∈bY d.N sn y.1.i↔n=⟨sn,y.1.i⟩∨(n∈d.N/\n.n≠sn):=λn=>wU h.srt;have k:=zW C (N:=bY d.N sn y.1.i) (rQ h.srt sn y.1.i) (λm U=>?_) (λa V b W e I=>?_) (by have:=gQ d.N sn y.1.i;omega)
     .have X:=gQ d.N sn y.1.i;have k:SimW ⟨bY d.N sn y.1.i,sA r.L y.1.i,r.E,r.x⟩ ⟨vM y.1.i d.L,bY d.N sn y.1.i,d.x⟩:=k;have J:bB s=true:=by
       obtain⟨o,u⟩:=fJ A;rw[<- u];exact(h.nm n o).1
      have K:HU ⟨vM y.1.i d.L,bY d.N sn y.1.i,d.x⟩ y.1.i:=⟨_,jO h.g.inc (id:=y.1.i) B,rfl,by show (y.1.f || y.1.i==y.1.i)=true;simp⟩
      have D:(⟨vM y.1.i d.L,bY d.N sn y.1.i,d.x⟩:Dr).G=sA d.G y.1.i:=zHs h.g.inc y.1.i;have M:sn≠s:=λe=>by
       subst e;have:=h.toOkW.name0 sn;rw[f2,A] at this;cases this
      have O:(⟨n.n,n.l⟩:Nm)∈bY d.N sn y.1.i:=by
       obtain⟨o,u⟩:=fJ A;exact(c _).2 (.inr ⟨o,by rw[u];exactλe=>M e.symm⟩)
      have v:(bY (bY d.N sn y.1.i) s d.x).length<=20:=by
       obtain⟨o,u⟩:=fJ A;rw[<- u,rP (rQ h.srt sn y.1.i) O];rw[ff];omega
      have Y:cB ⟨vM y.1.i d.L,bY d.N sn y.1.i,d.x⟩ y.1.i=y.2:=(CG h.toOkW y.1.i y.1.i).trans (fF F);rw[h.N];refine RQ k J K (.inl rfl) (by rw[D,EP];exact tV S) (h.t y B) f5 v ?_ ?_
      .show []=eW (cB ⟨vM y.1.i d.L,bY d.N sn y.1.i,d.x⟩ y.1.i) y.2;rw[Y,xL (h.t y B)]
      .have h7:=CL (lZ ⟨vM y.1.i d.L,bY d.N sn y.1.i,d.x⟩ s y.1.i 0 y.2) (CQ k.toOkW _ _ _ _);have e:(lZ ⟨vM y.1.i d.L,bY d.N sn y.1.i,d.x⟩ s y.1.i 0 y.2).L.length=d.L.length+1:=by
        show (vM y.1.i d.L++[_]).length=_;rw[bo,tR h.g.inc,di];rfl
       rw[CH];omega
     .rcases (c m).1 U with rfl|⟨o,_⟩
      .exact⟨f1,_,jO h.g.inc (id:=y.1.i) B,rfl⟩
      .exact C.nm m o
     .have j:∀z∈d.L,z.1.i=a.l->z.1.i≠y.1.i/\z.1.f=false:=λz P w=>by
       have:=I _ (jO h.g.inc (id:=y.1.i) P) w;simp only[HQ,ij] at this;exact⟨by simpa using this.2,this.1⟩
      rcases (c a).1 V with rfl|⟨o,_⟩<;>rcases (c b).1 W with rfl|⟨u,_⟩
      .rfl
      .exact absurd rfl (j y B rfl).1
      .exact absurd rfl (j y B e.symm).1
      .exact h.one a o b u e λz P w=>(j z P w).2
    .simp only[az];have:=NV r y.1.i (by rw[qB h.toSimW,S];rfl);exact⟨this,h⟩
end
def zO1{t:Bl}{c:Cl}(h:(doP t c).2.e≠0):(doP t c).1=t:=by
 unfold doP at h ⊢;split
 .rfl
 .rename_i a;rw[au a] at h;split
  .rfl
  .rename_i b;rw[au b] at h;split
   .rfl
   .rename_i d;rw[au d] at h;split
    .rename_i f;rw[aw f] at h;exact absurd rfl h
    .rfl
section
def zAe(x:Bl × Int):Prop:=x.2=0->OkT x.1
def zCl{c:Prop}[Decidable c]{a b:Bl × Int}(d:c->zAe a)(e:¬ c->zAe b):zAe (if c then a else b):=by
 split
 .exact d (by assumption)
 .exact e (by assumption)
def zAQ{l:Bl}{e:Int}(h:e≠0):zAe (l,e):=λa=>absurd a h
def zL1{l:Bl}{e:Int}(h:(!(e==0))=true):zAe (l,e):=zAQ (by simpa using h)
section
variable {t:Bl}{p:Ba}{is:Bool}{c:Cl}
attribute [local irreducible] vB mA BM
theorem zMm(h:OkT t){kind:Int}(a:c.t<18446744073709551616):zAe (BM t p is kind c):=by
 unfold BM
 repeat' refine zCl (λ_=>?_) λ_=>?_
 all_goals first
  | (exact zAQ qh)
  | exactλb=>h.put (show bL c.t<_ from tI a) b
theorem zJT(h:OkT t){n:Nd}(d:n.t<18446744073709551616)(b:c.t<18446744073709551616):zAe (cN t p is n c):=by
 have e:bL c.t<18446744073709551616:=tI b;unfold cN GS zOs wH yN HL
 repeat' refine zCl (λ_=>?_) λ_=>?_
 all_goals first
  | exact zMm h b
  | (exact zAQ qh)
  | (exact zL1 (by assumption))
  | exactλ_=>h
  | exactλ_=>h.remove _
  | exactλa=>h.put e a
  | exactλa=>h.put (show n.t<_ from d) a
  | exactλa=>(h.remove _).move a
end
variable {t:Bl}{c:Cl}
theorem zRM(h:OkT t)(a:c.t<18446744073709551616):OkT (doP t c).1:=by
 unfold doP;split
 .exact h
 .split
  .exact h
  .split
   .exact h
   .split
    .rename_i b;refine zJT h ?_ a (eq_of_beq b);unfold bK;split
     .exact pe _
     .exact h.gett _
    .exact h
theorem zO2(h:jX c.k=false):(doP t c).1=t:=by
 unfold doP;rw[h];simp only[br,az];split
 .rfl
 .split<;>rfl
theorem zBy(h:OkT t):jB t t=true:=GY λx a=>h.tlen x a
end
end Go.Dm
end
section
namespace Go.Dm
open Go Go.Proofs Go.Sort
structure Cf where
 p:Ba
 k:Int
deriving DecidableEq
abbrev Bg:=List Cf
structure Pr where
 a:Ba
 b:Ba
deriving DecidableEq
abbrev Bo:=List Pr
def Cf.cs(x:Cf):List PV:=[.s x.p,.i .i64 x.k]
def Pr.cs(x:Pr):List PV:=[.s x.a,.s x.b]
def eI(l:Bg):Bc:=l.map Cf.cs
def tN(t:Bg):(eI t).length=t.length:=by simp[eI]
theorem zLh:eI []=[]:=rfl
def zLg(a b:Bg):eI a++eI b=eI (a++b):=by simp[eI]
def zGJ(a:Bg)(n:Nat):(eI a).take n=eI (a.take n):=by simp[eI]
def zGG(a:Bg)(n:Nat):(eI a).drop n=eI (a.drop n):=by simp[eI]
def PB{t:Bg}{k:Nat}{x:Cf}(h:t[k]?=some x):(eI t).getD k []=[.s x.p,.i .i64 x.k]:=by
 simp only[eI,ed,dv,h];rfl
def zLi(t:Bg):(∀x∈eI t,x.length=2)=True:=fr λx a=>by
 simp only[eI,cg] at a;obtain⟨y,_,rfl⟩:=a;rfl
def zGH(t:Bg)(p:Ba)(k:Int):eI t++[[.s p,.i .i64 k]]=eI (t++[⟨p,k⟩]):=by simp[eI,Cf.cs]
attribute [go_sem] tN zLh zLg zGJ zGG zLi zGH
def rA(l:Bo):Bc:=l.map Pr.cs
def zLx(t:Bo):(rA t).length=t.length:=by simp[rA]
theorem zLy:rA []=[]:=rfl
def zLw(a b:Bo):rA a++rA b=rA (a++b):=by simp[rA]
def zG0(a:Bo)(n:Nat):(rA a).take n=rA (a.take n):=by simp[rA]
def zGY(a:Bo)(n:Nat):(rA a).drop n=rA (a.drop n):=by simp[rA]
def EH{t:Bo}{k:Nat}{x:Pr}(h:t[k]?=some x):(rA t).getD k []=[.s x.a,.s x.b]:=by
 simp only[rA,ed,dv,h];rfl
def zLz(t:Bo):(∀x∈rA t,x.length=2)=True:=fr λx a=>by
 simp only[rA,cg] at a;obtain⟨y,_,rfl⟩:=a;rfl
def zGZ(t:Bo)(a b:Ba):rA t++[[.s a,.s b]]=rA (t++[⟨a,b⟩]):=by simp[rA,Pr.cs]
attribute [go_sem] zLx zLy zLw zG0 zGY zLz zGZ
def ltC(x y:Cf):Bool:=cC x.p y.p || (x.p==y.p && decide (x.k<y.k))
def leC(x y:Cf):Bool:=!ltC y x
def fH(l:Bg):Bg:=l.mergeSort leC
def zTi:List PV->Cf
 | [.s p,.i _ k]=>⟨p,k⟩
 | _=>⟨[],0⟩
def ltV(x y:List PV):Bool:=ltC (zTi x) (zTi y)
def KU(x:Cf):ltC x x=false:=by simp[ltC,cD]
def xK{x y z:Cf}(h:ltC x y=true)(k:ltC y z=true):ltC x z=true:=by
 simp only[ltC,fj,bn,dq,ew] at *;rcases h with h|⟨a,c⟩<;>rcases k with k|⟨b,d⟩
 .exact .inl (cO h k)
 .rw[<- b];exact .inl h
 .rw[a];exact .inl k
 .exact .inr ⟨a.trans b,qd⟩
def QE{x y:Cf}(h:ltC x y=false)(k:ltC y x=false):x=y:=by
 simp only[ltC,ij,Bool.and_eq_false_iff,ji,ik] at *;have e:=fM h.1 k.1;have a:¬ x.k<y.k:=h.2.resolve_left (λn=>n e);have b:¬ y.k<x.k:=k.2.resolve_left (λn=>n e.symm);cases x;cases y;simp only at *;subst e
 congr 1
 omega
def WU{x y:Cf}(h:ltC x y=true):ltC y x=false:=by
 cases k:ltC y x with
 | false=>rfl
 | true=>have:=xK h k;rw[KU] at this;cases this
def RX:SWO ltC where
 irrefl:=KU
 trans _ _ _:=xK
 ntrans x y z h k:=by
  cases e:ltC x z with
  | false=>rfl
  | true =>
   cases f:ltC y x with
   | true=>have:=xK f e;rw[k] at this;cases this
   | false=>have:=QE h f;subst this;rw[k] at e;cases e
def zQL:SWO ltV:=⟨λx=>RX.irrefl _,λx y z=>RX.trans _ _ _,λx y z=>RX.ntrans _ _ _⟩
def cfC(x y:Cf):Int:=if HP x.p y.p==0 then zE2 x.k y.k else HP x.p y.p
def cfV(x y:List PV):Int:=cfC (zTi x) (zTi y)
def zSf(x y:Cf):decide (cfC x y<0)=ltC x y:=by
 unfold cfC ltC;rw[NO];by_cases h:(x.p==y.p)=true
 .rw[aw h,h,eq_of_beq h,cD];unfold zE2;by_cases a:x.k<y.k
  .simp[a]
  .by_cases b:y.k<x.k<;>simp[a,b]
 .rw[au h,rS];simp[h]
def zH8:ltOf cfV=ltV:=by
 funext x y
 exact zSf _ _
def zQK:SWO (ltOf cfV):=by rw[zH8];exact zQL
def zFA(l:Bg):∀x∈eI l,∀y∈eI l,ltOf cfV x y=false->ltOf cfV y x=false->x=y:=by
 rw[zH8];intro x c y d h k;obtain⟨a,_,rfl⟩:=cg.1 c;obtain⟨b,_,rfl⟩:=cg.1 d;rw[QE (x:=a) (y:=b) h k]
def zY(l:Bg):(fH l).Perm l:=l4 _ _
def pL(l:Bg):(fH l).length=l.length:=iq ..
def sW(l:Bg):(fH l).Pairwise λx y=>ltC y x=false:=by
 have h:(fH l).Pairwise λx y=>leC x y=true:=by
  refine np (le:=leC) ?_ ?_ _
  .intro a b c d e;simp only[leC,dg] at d e ⊢;exact RX.ntrans c b a e d
  .intro a b;simp only[leC];cases h:ltC b a with
   | false=>simp
   | true=>simp[WU h]
 exact h.imp λ{a b} h=>by simpa[leC] using h
def BD{l m:Bg}(a:m.Perm l)(b:m.Pairwise λx y=>ltC y x=false):m=fH l :=
 oa (le:=λx y=>ltC y x=false) (λ_ _ _ _ h k=>QE k h) b (sW l) (a.trans (zY l).symm)
def zGI(l:Bg):(eI l).mergeSort (zAb (ltOf cfV))=eI (fH l):=by
 rw[zH8];unfold eI fH;exact(pj (r:=leC) (s:=zAb ltV) (f:=Cf.cs) (l:=l) λa _ b _=>rfl).symm
def lS(l:Bo)(p:Ba):Bool:=l.any λx=>x.b==p
def nA(d:Ba)(out:Bo):Bh->Option Ba
 | []=>none
 | x::r=>if x.k==1 && x.n.k==1 && d==x.n.d && !lS out x.p then some x.p else nA d out r
def eL(l:Bh)(out:Bo)(x:Ch):Bo :=
 if x.k != 2 || x.o.k != 1 then out else match nA x.o.d out l with
 | some p=>out++[⟨x.p,p⟩]
 | none=>out
def nZ(l:Bh):Bo:=l.foldl (eL l) []
def dU(l:Bh):Bo:=if gU l then nZ l else []
def XO(l:Bh):dU l=nZ l∨dU l=[]:=by
 unfold dU;split
 .exact .inl rfl
 .exact .inr rfl
def toF(l:Bo)(p:Ba):Option Ba:=match l with
 | []=>none
 | x::r=>if x.a==p then some x.b else toF r p
def zEu(b:Bo)(x:Pr):Bg:=match toF b x.a with
 | some c=>if c != x.b then [⟨x.a,6⟩] else []
 | none=>[]
def gK(a b:Bo):Bg:=a.flatMap (zEu b)
def BQ(t:Bl)(bad:Bg)(x:It):Bg:=if !aZ t (aU x.p) && !(bad.any λc=>c.p==aU x.p) then [⟨x.p,7⟩] else []
def gJ(t:Bl)(bad:Bg):Bg:=t.flatMap (BQ t bad)
def gD(a b c:Bl):List Ba:=Lib.compact (((a++(b++c)).map It.p).mergeSort λx y=>decide (x<=y))
def mgN(b o t:Bl)(p:Ba):Nd × Bool × Int:=mB ((aN b p).getD nd0) ((aN o p).getD nd0) ((aN t p).getD nd0) (aN b p).isSome (aN o p).isSome (aN t p).isSome
def mgI(b o t:Bl)(p:Ba):Bl:=if (mgN b o t p).2.2 != 0 then [] else if (mgN b o t p).2.1 then [⟨p,(mgN b o t p).1⟩] else []
def mgC(b o t:Bl)(p:Ba):Bg:=if (mgN b o t p).2.2 != 0 then [⟨p,(mgN b o t p).2.2⟩] else []
def uP(b o t:Bl)(l:List Ba):Bl:=l.flatMap (mgI b o t)
def lJ(b o t:Bl)(l:List Ba):Bg:=l.flatMap (mgC b o t)
def HT(b o t:Bl):Bl:=uP b o t (gD b o t)
def zC8(b o t:Bl):Bg :=
 fH (lJ b o t (gD b o t)++(gJ (HT b o t) (lJ b o t (gD b o t))++gK (dU (dB b o)) (dU (dB b t))))
def eX(b o t:Bl):Bl × Bg:=if (zC8 b o t).length==0 then (HT b o t,[]) else ([],zC8 b o t)
end Go.Dm
end
section
namespace Go.Dm
open Go Go.Sort
def zA6{b o t:Bl}{p:Ba}{x:It}(h:x∈mgI b o t p):x=⟨p,(mgN b o t p).1⟩/\(mgN b o t p).2.2=0/\(mgN b o t p).2.1=true:=by
 unfold mgI at h;split at h
 .simp at h
 .rename_i a;split at h
  .rename_i c;exact⟨by simpa using h,by simpa using a,c⟩
  .simp at h
def zCs{b o t:Bl}{l:List Ba}{x:It}(h:x∈uP b o t l):x.p∈l/\x=⟨x.p,(mgN b o t x.p).1⟩/\(mgN b o t x.p).2.2=0/\(mgN b o t x.p).2.1=true:=by
 obtain⟨p,a,c⟩:=jc.1 h;have:=zA6 c;have e:x.p=p:=by rw[this.1]
 subst e;exact⟨a,this⟩
def EL{α β:Type}{f:α->List β}{r:α->α->Prop}{s:β->β->Prop}(h1:∀a,(f a).length<=1)(d:∀{a c x y},r a c->x∈f a->y∈f c->s x y):∀{l:List α},l.Pairwise r->(l.flatMap f).Pairwise s
 | [],_=>by simp
 | a::l,h=>by
  obtain⟨e,g⟩:=dx.1 h;rw[jq];refine ic.2 ⟨?_,EL h1 d g,λx i y j=>?_⟩
  .have:=h1 a
   match f a,this with
   | [],_=>exact .nil
   | [x],_=>exact ky ..
  .obtain⟨c,k,b⟩:=jc.1 j;exact d (e c k) i b
def zA7(b o t:Bl)(p:Ba):(mgI b o t p).length<=1:=by unfold mgI;split<;>(try split)<;>simp
def zIf(b o t:Bl)(p:Ba):(mgC b o t p).length<=1:=by unfold mgC;split<;>simp
def XH(t:Bl)(bad:Bg)(x:It):(BQ t bad x).length<=1:=by unfold BQ;split<;>simp
def zCJ(b:Bo)(x:Pr):(zEu b x).length<=1:=by unfold zEu;split<;>(try split)<;>simp
def zCB(b o t:Bl):Srt (HT b o t):=EL (zA7 b o t) (λ{a c x y} d e f=>by rw[(zA6 e).1,(zA6 f).1];exact d) (oA _)
def XN(l:Bh)(out:Bo)(x:Ch):eL l out x=out∨∃p,eL l out x=out++[⟨x.p,p⟩]/\x.k=2/\x.o.k=1/\nA x.o.d out l=some p:=by
 unfold eL;split
 .exact .inl rfl
 .rename_i a;simp only[fj,bne_iff_ne,ne_eq,jo,Decidable.not_not] at a;split
  .rename_i p b;exact .inr ⟨p,rfl,a.1,a.2,b⟩
  .exact .inl rfl
def zTf(b o t:Bl):Bg:=lJ b o t (gD b o t)++(gJ (HT b o t) (lJ b o t (gD b o t))++gK (dU (dB b o)) (dU (dB b t)))
theorem zAg(b o t:Bl):zC8 b o t=fH (zTf b o t):=rfl
def qM{α β:Type}{f:α->List β}(h1:∀a,(f a).length<=1):∀l:List α,(l.flatMap f).length<=l.length
 | []=>by simp
 | a::l=>by
  have:=qM h1 l;have:=h1 a;rw[jq,bo,bw];omega
def XP(l:Bh):∀(m:Bh) (out:Bo),(m.foldl (eL l) out).length<=out.length+m.length
 | [],out=>by simp
 | c::m,out=>by
  rw[gx,bw];have:=XP l m (eL l out c);rcases XN l out c with e|⟨p,e,_⟩
  .rw[e] at this ⊢;omega
  .rw[e] at this ⊢;simp at this;omega
def zD8(l:Bh):(nZ l).length<=l.length:=by have:=XP l l [];simpa[nZ] using this
def mL(l:Bh):(dU l).length<=l.length:=by
 rcases XO l with e|e<;>rw[e]
 .exact zD8 l
 .simp
def tW(a b c:Bl):(gD a b c).length<=a.length+b.length+c.length:=by
 refine bj (JY _) ?_;rw[iq,di,bo,bo];omega
theorem zCA(b o t:Bl):(HT b o t).length<=b.length+o.length+t.length:=bj (qM (zA7 b o t) _) (tW b o t)
def zKz(b o t:Bl):(zC8 b o t).length<=3*(b.length+o.length+t.length):=by
 rw[zAg,pL];unfold zTf;rw[bo,bo];have a:=qM (zIf b o t) (gD b o t);have c:=tW b o t;have d:=qM (XH (HT b o t) (lJ b o t (gD b o t))) (HT b o t);have e:=zCA b o t;have f:=qM (zCJ (dU (dB b t))) (dU (dB b o));have g:=mL (dB b o);have h:=jG b o;unfold lJ gJ gK at *;omega
def LK{a b c:Bl}{p:Ba}:p∈gD a b c↔(aN a p).isSome=true∨(aN b p).isSome=true∨(aN c p).isSome=true:=by
 have d:∀{t:Bl},(∃x∈t,x.p=p)↔(aN t p).isSome=true:=λ{t}=>⟨λ⟨x,f,e⟩=>e▸tS f,λh=>by
  cases g:aN t p with
  | none=>rw[g] at h;cases h
  | some n=>obtain⟨x,f,e,_⟩:=cP g;exact⟨x,f,e⟩⟩
 unfold gD;rw[vF,<- d,<- d,<- d];simp only[cg,c9];constructor
 .rintro⟨x,h|h|h,e⟩
  .exact .inl ⟨x,h,e⟩
  .exact .inr (.inl ⟨x,h,e⟩)
  .exact .inr (.inr ⟨x,h,e⟩)
 .rintro (⟨x,h,e⟩|⟨x,h,e⟩|⟨x,h,e⟩)
  .exact⟨x,.inl h,e⟩
  .exact⟨x,.inr (.inl h),e⟩
  .exact⟨x,.inr (.inr h),e⟩
def zIt{a o t:Nd}(f:a.wf)(d:o.wf)(e:t.wf)(b p q:Bool):
  (zI a o t b p q).2.2=(mB a o t b p q).2.2/\(zI a o t b p q).2.1=(mB a o t b p q).2.1 /\
   ((mB a o t b p q).2.1=true->(zI a o t b p q).1=(mB a o t b p q).1):=by
 refine⟨((zCw f d e b p q).1).symm,((zCw f d e b p q).2.1).symm,?_⟩;unfold mB zI;rw[uC d e,uC f e,uC f d];by_cases h:pI o t p q=true
 .simp only[h,e8,az];cases p<;>simp
 .by_cases i:pI a t b q=true
  .have g:pI a o b p=false:=by
    cases g:pI a o b p with
    | false=>rfl
    | true=>exact absurd (MJ g i) h
   simp only[h,i,g,ej,az,av,ax];cases p<;>simp
  .by_cases g:pI a o b p=true
   .simp only[h,i,g,iw,av,ax,az];cases q<;>simp
   .simp only[h,i,g,iw,av,ax];cases p with
    | false=>simp
    | true =>
     cases q with
     | false=>simp
     | true =>
      simp only[bh,av,ax,uZ];have l:=pK (b:=b) (o:=lD a o) (t:=lD a t) (alike:=lD o t) (λx y=>MV x y);have n:=pK (b:=b) (o:=a.m==o.m) (t:=a.m==t.m) (alike:=o.m==t.m) (λx y=>by simp only[dq] at x y ⊢;exact x.symm.trans y)
      have r:=pK (b:=b) (o:=bL a.t==bL o.t) (t:=bL a.t==bL t.t) (alike:=bL o.t==bL t.t) (λx y=>by simp only[dq] at x y ⊢;exact x.symm.trans y)
      simp only[iU d e,iU f d,iU f e,WL d e,l,n,r];clear l n r;cases BR b (lD o t) (lD a o) (lD a t) with
      | none=>cases b<;>by_cases j:o.k=t.k<;>simp[j]
      | some w =>
       cases BR b (o.m==t.m) (a.m==o.m) (a.m==t.m) with
       | none=>cases w<;>cases b<;>by_cases j:o.k=t.k<;>simp[j]
       | some m =>
        cases BR b (bL o.t==bL t.t) (bL a.t==bL o.t) (bL a.t==bL t.t) with
        | none=>cases w<;>cases m<;>simp
        | some c=>cases w<;>cases m<;>cases c<;>simp
def zEa(b o t:Bl):dX (dX (dX [] b) o) t=gD b o t :=
 qW (lt:=cC) cD (λh=>fL h) (iZ (iZ (iZ .nil))) (oA _) λp=>by
  show p∈dX (dX (dX [] b) o) t↔p∈Lib.compact (((b++(o++t)).map It.p).mergeSort λx y=>decide (x<=y));rw[vF,kI,kI,kI];simp only[cg,c9,oc,false_or];constructor
  .rintro ((⟨x,h,e⟩|⟨x,h,e⟩)|⟨x,h,e⟩)
   .exact⟨x,.inl h,e⟩
   .exact⟨x,.inr (.inl h),e⟩
   .exact⟨x,.inr (.inr h),e⟩
  .rintro⟨x,h|h|h,e⟩
   .exact .inl (.inl ⟨x,h,e⟩)
   .exact .inl (.inr ⟨x,h,e⟩)
   .exact .inr ⟨x,h,e⟩
theorem zCj(p:Ba)(b:Bl):∀a:Bl,aN (a++b) p=match aN a p with
  | some n=>some n
  | none=>aN b p
 | []=>rfl
 | x::a=>by
  rw[gn,aN,aN];split
  .rfl
  .exact zCj p b a
def zOL{b o t:Bl}(h:(zC8 b o t).length=0):lJ b o t (gD b o t)=[]/\gJ (HT b o t) []=[]:=by
 rw[zAg,pL] at h;grind [zTf,List.length_eq_zero_iff.1]
def zMG{b o t:Bl}(h:(zC8 b o t).length=0):Par (HT b o t):=λx a=>by
 have c:=List.flatMap_eq_nil_iff.1 (zOL h).2 x a;grind [BQ]
def PZ(a b:Nat):uW a b=bL a∨uW a b=bL b:=by grind [uW]
def BS{x y z:Nd}{u:Bool}(i:aO y=true)(j:aO z=true)(c:y.wf)(f:z.wf)(n:Nd)
  (p:(n.k=y.k/\n.d=y.d)∨(n.k=z.k/\n.d=z.d))(q:n.m=y.m∨n.m=z.m)(l:n.t=y.t∨n.t=z.t∨n.t=uW y.t z.t):aO n=true/\n.t<18446744073709551616:=by
 have a:=iV i c;have b:=iV j f;have g:n.t<18446744073709551616/\bL n.t=n.t:=by
  rcases l with e|e|e
  .rw[e];exact a
  .rw[e];exact b
  .rcases PZ y.t z.t with h|h
   .rw[e,h,a.2];exact a
   .rw[e,h,b.2];exact b
 have o:n.wf:=g.1;rw[<- mC o];rw[<- mC c] at i;rw[<- mC f] at j;grind [pB,zDl]
def zBc{x y z:Nd}{u v w:Bool}(d:v=true->aO y=true)(e:w=true->aO z=true)(a:y.wf)(b:z.wf)(c:(mB x y z u v w).2.2=0)(h:(mB x y z u v w).2.1=true):
  aO (mB x y z u v w).1=true/\(mB x y z u v w).1.t<18446744073709551616:=by
 revert c h;unfold mB;split
 .intro _ h;simp only at h;rw[h,aw rfl];exact⟨d h,a⟩
 .split
  .intro _ h;simp only at h;rw[h,aw rfl];exact⟨e h,b⟩
  .cases v
   .simp
   .cases w
    .simp
    .simp only[bh,av,ax];split
     .intro _ _;refine BS (x:=x) (u:=u) (d rfl) (e rfl) a b _ ?_ ?_ ?_
      .unfold uZ;simp only;split<;>simp
      .unfold uZ;simp only;split<;>simp
      .unfold uZ;simp only;split
       .simp
       .split<;>simp
     .intro c;exfalso;revert c
      repeat' split
      all_goals simp
theorem zP9{b o t:Bl}(d:OkT b)(a:OkT o)(c:OkT t)(h:(zC8 b o t).length=0)(i:(HT b o t).length<=120):OkT (HT b o t):=by
 refine ⟨⟨zCB b o t,λx j=>?_,i⟩,zMG h⟩;obtain⟨k,l,m,q⟩:=zCs j;have f:x.p≠[]/\bZ x.p=true:=by
  rcases LK.1 k with h|h|h
  .exact⟨(d.getok h).1,(d.getok h).2.1⟩
  .exact⟨(a.getok h).1,(a.getok h).2.1⟩
  .exact⟨(c.getok h).1,(c.getok h).2.1⟩
 have g:=zBc (x:=(aN b x.p).getD nd0) (u:=(aN b x.p).isSome) (λh=>(a.getok h).2.2) (λh=>(c.getok h).2.2) (a.gett x.p) (c.gett x.p) m q;have e:x.n=(mgN b o t x.p).1:=by rw[l]
 refine⟨f.1,f.2,?_,?_⟩
 .rw[e];exact g.1
 .rw[e];exact g.2
structure OkS (t:Bl):Prop where
 srt:Srt t
 ne:∀x∈t,x.p≠[]
 plen:∀x∈t,x.p.length<=1000
 dlen:∀x∈t,x.n.d.length<=2000
 tlen:∀x∈t,x.n.t<18446744073709551616
 len:t.length<=120
def OkT.s{t:Bl}(h:OkT t):OkS t:=⟨h.srt,h.ne,λx a=>bj (h.plen x a) qh,h.dlen,h.tlen,h.len⟩
def OkS.getd{t:Bl}(h:OkS t)(p:Ba):((aN t p).getD nd0).d.length<=2000:=by
 cases a:aN t p with
 | none=>simp[nd0]
 | some n=>obtain⟨x,b,_,e⟩:=cP a;rw[fe,<- e];exact h.dlen x b
def OkS.gett{t:Bl}(h:OkS t)(p:Ba):((aN t p).getD nd0).t<18446744073709551616:=by
 cases a:aN t p with
 | none=>simp[nd0]
 | some n=>obtain⟨x,b,_,e⟩:=cP a;rw[fe,<- e];exact h.tlen x b
theorem zDS{t:Bl}{p:Ba}(r:Bl)(h:aZ t p=true):aZ (t++r) p=true:=by
 by_cases a:p=[]
 .subst a;rfl
 .grind [dF,iN,zCj]
def OkT.take{t:Bl}(h:OkT t)(k:Nat):OkT (t.take k):=by
 refine⟨⟨h.srt.sublist (mi _ _),λx a=>h.its x (lg a),bj ri h.len⟩,λx a=>?_⟩;obtain⟨j,c,rfl⟩:=ie.1 a;have b:j<k/\j<t.length:=by rw[cr] at c;omega
 rw[km];have d:=KQ h (ay b.2);grind [zDS,List.take_append_drop]
def DX{a b:Bl}(d:OkS a)(f:OkS b):∀x∈dB a b,x.p.length<=1000000000/\x.o.t<18446744073709551616/\x.n.t<18446744073709551616:=λx g=>by
 obtain⟨h,i⟩:=iQ g;obtain⟨j,_⟩:=wV g;refine⟨?_,by rw[h];exact d.gett _,by rw[i];exact f.gett _⟩
 rcases zK.1 j with⟨y,c,e⟩|⟨y,c,e⟩
 .rw[<- e];exact bj (d.plen y c) qh
 .rw[<- e];exact bj (f.plen y c) qh
def XI{b o t:Bl}(d:OkS b)(f:OkS o)(g:OkS t):∀x∈HT b o t,x.p.length<=1000:=λx i=>by
 obtain ⟨j,_⟩:=zCs i;have a:∀{s:Bl},OkS s->(aN s x.p).isSome=true->x.p.length<=1000:=λ{s} k h=>by
  cases c:aN s x.p with
  | none=>rw[c] at h;cases h
  | some n=>obtain⟨y,l,e,_⟩:=cP c;rw[<- e];exact k.plen y l
 rcases LK.1 j with h|h|h
 .exact a d h
 .exact a f h
 .exact a g h
def zCr(b o t:Bl)(l:List Ba):(uP b o t l).length<=l.length:=qM (zA7 b o t) l
def zCq(b o t:Bl)(l:List Ba):(lJ b o t l).length<=l.length:=qM (zIf b o t) l
def FU(t:Bl)(bad:Bg):(gJ t bad).length<=t.length:=qM (XH t bad) t
def GP(a b:Bo):(gK a b).length<=a.length:=qM (zCJ b) a
end Go.Dm
end
