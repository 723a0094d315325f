/- Part 23 of the proof of roomDrops_card, set without needless blanks. No condition. -/
import Derived.Test.YtlbfnbldeefgmaaGreatDoorS21
set_option linter.all false
set_option maxRecDepth 100000
set_option maxHeartbeats 16000000
section
namespace Go.Dm
open Go
section
variable {r:Rm}{d:Dr}{s t sn o:List UInt8}{q:Int}{w:List It}
theorem SimW.okR(h:SimW r d)(hl:d.L.length<=900):OkR r where
 srt:=by rw[h.N];exact h.srt
 nl:=by rw[h.N];have:=h.ln;omega
 ll:=by rw[h.L];simpa[Dr.G] using hl
 ent:=λx hx=>by
  rw[h.L] at hx;obtain⟨y,hy,rfl⟩:=CT.1 hx;rw[h.e y hy];exact TJ (h.toOkW.tree _) (h.t y hy)
 x:=by rw[h.x];have:=h.nx.2;omega
theorem Sim.okR(h:Sim r d):OkR r:=h.toSimW.okR (by have:=h.len;omega)
theorem Sim.okG(h:Sim r d):OkG r.L:=by rw[h.L];exact h.g
theorem Sim.okT(h:Sim r d)(id:Int):OkT (treeR r id):=by rw[h.toSimW.treeR];exact h.toOkW.tree id
theorem xV(h:SimW r d)(hl:d.L.length<=800){p:Int}{t:List It}(hs:bD s=true)(hp:CI d p)(hq:q=0∨(p≠q/\CI d q))(hc:(bL d.G p).length<=11)(ht:OkT t)
 (hx:d.x<2147483647)(hn:(bV d.N s d.x).length<=20):OkR ⟨bV r.N s r.x,r.L++[⟨r.x,p,q,false⟩],nV r.E r.x (eB (treeR r p) t),r.x+1⟩/\OkG (r.L++[⟨r.x,p,q,false⟩]):=by
 have hw:=QA h hs hp hq hc ht hx hn;rw[h.treeR];refine⟨hw.okR ?_,?_⟩
 .show (d.L++[_]).length<=900;rw[List.length_append];simp only[List.length_cons,List.length_nil];omega
 .have h1:=hw.g;rw[<- hw.L] at h1;exact h1
theorem zNy(h:Sim r d)(h1:((snP r s).2==0)=true):∃n y,lX d.N s=some n/\y∈d.L/\snP r s=(y.1,0)/\rI d y.1.i=some y/\y.1.f=true:=by
 unfold snP at h1 ⊢;cases hn:lX d.N s with
 | none =>
  obtain⟨k1,_⟩:=dH h.toSimW hn;rw[k1] at h1;cases h1
 | some n =>
  obtain⟨y,hy,g1,g2,g3,g4,g5⟩:=dI h.toSimW hn;rw[g1] at h1 ⊢;cases hf:y.1.f
  .rw[hf] at h1;cases h1
  .exact⟨n,y,rfl,hy,by rw[show ((0:Int)==0 && !true)=false from rfl];rfl,g3,hf⟩
theorem zN1(h:Sim r d)(h1:((wsP r s).2==0)=true):∃n y,lX d.N s=some n/\y∈d.L/\wsP r s=(y.1,0)/\rI d y.1.i=some y/\y.1.f=false/\y.1.i=n.l:=by
 unfold wsP at h1 ⊢;cases hn:lX d.N s with
 | none =>
  obtain⟨k1,_⟩:=dH h.toSimW hn;rw[k1] at h1;cases h1
 | some n =>
  obtain⟨y,hy,g1,g2,g3,g4,g5⟩:=dI h.toSimW hn;rw[g1] at h1 ⊢;cases hf:y.1.f
  .exact⟨n,y,rfl,hy,by rw[show ((0:Int)==0 && false)=false from rfl];rfl,g3,hf,g4⟩
  .rw[hf] at h1;cases h1
theorem GO(h:SimW r d){on:Int}(h3:(gW r on==0)=true):(bL d.G on).length<=11:=by
 rw[mX h] at h3;exact pV (by simpa using h3)
theorem zHw(h:Sim r d)(h1:((snP r sn).2==0)=true)(h2:(gO r s==0)=true)(h3:(gW r (snP r sn).1.i==0)=true):
  OkR ⟨bV r.N s r.x,r.L++[⟨r.x,(snP r sn).1.i,0,false⟩],nV r.E r.x [],r.x+1⟩/\OkG (r.L++[⟨r.x,(snP r sn).1.i,0,false⟩]):=by
 obtain⟨n,y,hn,hy,e,g3,hf⟩:=zNy h h1;rw[e] at h3 ⊢;rw[pR h.toSimW] at h2;obtain⟨f1,f2,f3,f4,f5⟩:=pS h2;have:=xV (s:=s) (p:=y.1.i) (q:=0) (t:=y.2) h.toSimW (by have:=h.len;omega) f1 ⟨y,hy,rfl,hf⟩ (.inl rfl) (GO h.toSimW h3) (h.t y hy) f5 (by have:=iS d.N s d.x;omega)
 rwa[h.toSimW.treeR,dV g3,tE (h.t y hy)] at this
theorem zAb(h:Sim r d)(h1:((wsP r s).2==0)=true)(h2:(gO r sn==0)=true)(h3:(gW r (wsP r s).1.i==0)=true):
  OkR ⟨bV r.N sn (wsP r s).1.i,nW r.L (wsP r s).1.i,r.E,r.x⟩ /\
   OkR ⟨bV (bV r.N sn (wsP r s).1.i) s r.x,nW r.L (wsP r s).1.i++[⟨r.x,(wsP r s).1.i,0,false⟩],nV r.E r.x [],r.x+1⟩/\OkG (nW r.L (wsP r s).1.i++[⟨r.x,(wsP r s).1.i,0,false⟩]):=by
 obtain ⟨n,y,hn,hy,e,g3,hf,g4⟩:=zN1 h h1;rw[e] at h3 ⊢;rw[pR h.toSimW] at h2;obtain⟨f1,f2,f3,f4,f5⟩:=pS h2;have hwf:=BN h.toSimW y.1.i;have hmem:∀n,n∈bV d.N sn y.1.i↔n=⟨sn,y.1.i⟩∨(n∈d.N/\n.n≠sn):=λn=>sI h.srt;have hwn:=qB hwf (N:=bV d.N sn y.1.i) (nZ h.srt sn y.1.i) (λm hm=>by
   rcases (hmem m).1 hm with rfl|⟨g1,_⟩
   .exact⟨f1,_,gP h.g.inc (id:=y.1.i) hy,rfl⟩
   .exact hwf.nm m g1) (λa ha b hb e hfz=>by
   have hfz2:∀z∈d.L,z.1.i=a.l->z.1.i≠y.1.i/\z.1.f=false:=λz hz hza=>by
    have:=hfz _ (gP h.g.inc (id:=y.1.i) hz) hza;simp only[CF,Bool.or_eq_false_iff] at this;exact⟨by simpa using this.2,this.1⟩
   rcases (hmem a).1 ha with rfl|⟨g1,_⟩<;>rcases (hmem b).1 hb with rfl|⟨g2,_⟩
   .rfl
   .exact absurd rfl (hfz2 y hy rfl).1
   .exact absurd rfl (hfz2 y hy e.symm).1
   .exact h.one a g1 b g2 e λz hz hza=>(hfz2 z hz hza).2) (by have:=iS d.N sn y.1.i;omega)
 have hwn:SimW ⟨bV d.N sn y.1.i,nW r.L y.1.i,r.E,r.x⟩ ⟨zN y.1.i d.L,bV d.N sn y.1.i,d.x⟩:=hwn;have hlen:(zN y.1.i d.L).length=d.L.length:=by rw[pT h.g.inc,List.length_map]
 have hsn:bD s=true:=by
  obtain⟨g1,g2⟩:=dO hn;rw[<- g2];exact(h.nm n g1).1
 have hfa:CI ⟨zN y.1.i d.L,bV d.N sn y.1.i,d.x⟩ y.1.i:=⟨_,gP h.g.inc (id:=y.1.i) hy,rfl,by show (y.1.f || y.1.i==y.1.i)=true;simp⟩
 have hGeq:(⟨zN y.1.i d.L,bV d.N sn y.1.i,d.x⟩:Dr).G=nW d.G y.1.i:=zDs h.g.inc y.1.i;have hne:sn≠s:=λe=>by
  subst e;have:=h.toOkW.name0 sn;rw[f2,hn] at this;cases this
 have hin:(⟨n.n,n.l⟩:Nm)∈bV d.N sn y.1.i:=by
  obtain⟨g1,g2⟩:=dO hn;exact(hmem _).2 (.inr ⟨g1,by rw[g2];exactλe=>hne e.symm⟩)
 have hlen2:(bV (bV d.N sn y.1.i) s d.x).length<=20:=by
  obtain⟨g1,g2⟩:=dO hn;rw[<- g2,nY (nZ h.srt sn y.1.i) hin];have:=iS d.N sn y.1.i;rw[List.length_set];omega
 have e0:cF ⟨zN y.1.i d.L,bV d.N sn y.1.i,d.x⟩ y.1.i=y.2:=(HB h.toOkW y.1.i y.1.i).trans (dV g3);have hl:=h.len;have:=xV (s:=s) (p:=y.1.i) (q:=0) (t:=y.2) hwn (by show (zN y.1.i d.L).length<=800;omega) hsn hfa (.inl rfl) (by rw[hGeq,zO];exact GO h.toSimW h3) (h.t y hy) f5 hlen2;rw[hwn.treeR,e0,tE (h.t y hy)] at this;rw[h.N];exact⟨hwn.okR (by show (zN y.1.i d.L).length<=900;omega),this⟩
theorem zKd(h:Sim r d)(h1:((eF r o t).2.2==0)=true):∃y z,y∈d.L/\z∈d.L/\eF r o t=(y.1,z.1,0)/\rI d y.1.i=some y/\rI d z.1.i=some z/\y.1.f=true/\z.1.f=true:=by
 unfold eF at h1 ⊢;cases hn:lX d.N o with
 | none =>
  obtain⟨k1,_⟩:=dH h.toSimW hn;rw[k1] at h1;cases h1
 | some n =>
  obtain⟨y,hy,g1,g2,g3,g4,g5⟩:=dI h.toSimW hn;rw[g1] at h1 ⊢;cases hm:lX d.N t with
  | none =>
   obtain⟨k1,_⟩:=dH h.toSimW hm;rw[k1] at h1;cases h1
  | some m =>
   obtain⟨z,hz,k1,k2,k3,k4,k5⟩:=dI h.toSimW hm;rw[k1] at h1 ⊢;cases hf:y.1.f<;>cases hf2:z.1.f
   .rw[hf,hf2] at h1;cases h1
   .rw[hf,hf2] at h1;cases h1
   .rw[hf,hf2] at h1;cases h1
   .exact⟨y,z,hy,hz,rfl,g3,k3,hf,hf2⟩
theorem zD8(h:Sim r d)(h1:((eF r o t).2.2==0)=true)(h2:(gO r s==0)=true)(h3:(gW r (eF r o t).1.i==0)=true)(hw:OkT w)(hq:q=if (eF r o t).1.i==(eF r o t).2.1.i then 0 else (eF r o t).2.1.i):
  OkR ⟨bV r.N s r.x,r.L++[⟨r.x,(eF r o t).1.i,q,false⟩],nV r.E r.x (eB (treeR r (eF r o t).1.i) w),r.x+1⟩/\OkG (r.L++[⟨r.x,(eF r o t).1.i,q,false⟩]):=by
 obtain⟨y,z,hy,hz,e,g3,g4,hf,hf2⟩:=zKd h h1;rw[e] at h3 hq ⊢;rw[pR h.toSimW] at h2;obtain⟨f1,f2,f3,f4,f5⟩:=pS h2;refine xV h.toSimW (by have:=h.len;omega) f1 ⟨y,hy,rfl,hf⟩ ?_ (GO h.toSimW h3) hw f5 (by have:=iS d.N s d.x;omega);by_cases hyz:y.1.i=z.1.i
 .left;rw[hq,if_pos (by simpa using hyz)]
 .right;rw[hq,if_neg (by simpa using hyz)];exact⟨hyz,z,hz,rfl,hf2⟩
theorem zAP(h:Sim r d)(h1:((wsP r s).2==0)=true)(h2:((snP r o).2==0)=true)(h3:(gW r (snP r o).1.i==0)=true)(hw:OkT w)(hx:r.x<2147483647):
  OkR ⟨bV r.N s r.x,r.L++[⟨r.x,(snP r o).1.i,0,false⟩],nV r.E r.x (eB (treeR r (snP r o).1.i) w),r.x+1⟩/\OkG (r.L++[⟨r.x,(snP r o).1.i,0,false⟩]):=by
 obtain⟨n,y,hn,hy,e,g3,hf,g4⟩:=zN1 h h1;obtain⟨m,z,hm,hz,e2,k3,kf⟩:=zNy h h2;rw[e2] at h3 ⊢;obtain⟨g1,g2⟩:=dO hn;have hsn:bD s=true:=by rw[<- g2];exact(h.nm n g1).1
 refine xV h.toSimW (by have:=h.len;omega) hsn ⟨z,hz,rfl,kf⟩ (.inl rfl) (GO h.toSimW h3) hw (by rw[<- h.x];exact hx) ?_;rw[<- g2,nY h.srt g1,List.length_set];exact h.ln
theorem EE(h:Sim r d)(a b c:Int)(he:(eY (treeR r a) (treeR r b) (treeR r c)).2.2=0):OkT (eY (treeR r a) (treeR r b) (treeR r c)).1:=by
 have ha:=h.okT a;have hb:=h.okT b;have hc:=h.okT c;unfold eY at he ⊢;split at he
 .cases he
 .rename_i h1;split at he
  .cases he
  .rename_i h2;rw[if_neg h1,if_neg h2];exact AB ha hb hc (by simp only[decide_eq_true_eq] at h1;omega) (by simp only[decide_eq_true_eq] at h2;omega)
theorem qE(h:Sim r d)(s:List UInt8):OkT (cY r s).1:=by rw[jS h.toSimW];exact BV h.toOkW s
theorem zBz(h:Sim r d)(s:List UInt8){l:List Ch}(hl:∀x∈l,x.n.t<18446744073709551616):OkT (treeR r (wsP r s).1.i)/\OkT (treeR r (wsP r s).1.p)/\(((fP (treeR r (wsP r s).1.i) l).2==0)=true->OkT (fP (treeR r (wsP r s).1.i) l).1) :=
 ⟨h.okT _,h.okT _,λhe=>KB (h.okT _) hl (by simpa using he)⟩
theorem zMK(h:Sim r d)(s:List UInt8){c:Cl}(hc:c.t<18446744073709551616):OkT (treeR r (bP r s).1.i)/\OkT (treeR r (bP r s).1.p)/\OkT (doP (treeR r (bP r s).1.i) c).1 :=
 ⟨h.okT _,h.okT _,zMJ (h.okT _) hc⟩
theorem zGC(h:Sim r d)(s:List UInt8):OkR ⟨iA r.N s,r.L,r.E,r.x⟩ :=
 have k:=h.okR
 ⟨sQ k.srt s,Nat.le_trans (zC _ _) k.nl,k.ll,k.ent,k.x⟩
end
section
section steps
variable {r:Rm}{d d':Dr}
theorem SM{s sn:List UInt8}{e:Int}(h:Sim r d)(he:jX d s sn=(d',e)):∃r',iY r s sn=(r',e)/\Sim r' d':=by
 obtain⟨h1,h2⟩:=DT h s sn;rw[he] at h1 h2;exact⟨_,Prod.ext rfl h1,h2⟩
theorem zCs{s:List UInt8}{c:Cl}{a:An}(h:Sim r d)(hc:c.t<18446744073709551616)(he:doD d s c=(d',a)):∃r',SD r s c=(r',a)/\Sim r' d':=by
 obtain⟨h1,h2⟩:=zJo h s hc;rw[he] at h1 h2;exact⟨_,Prod.ext rfl h1,h2⟩
end steps
theorem zCb{a b:List It}(ha:OkT a)(hb:OkT b):∀x∈eL a b,x.n.t<18446744073709551616:=λx hx=>(WN ha hb hx).2
def v1S:List UInt8:=[118,49]
def mkS(p:List UInt8):Cl:=⟨1,p,[],493,0,0,0,[]⟩
theorem TE:∃(r1 r2 r3:Rm) (d1 d2 d3:Dr) (a b:An),iY zMi iZ v1S=(r1,0)/\Sim r1 d1/\SD r1 v1S (mkS [97])=(r2,a)/\a.e=14/\Sim r2 d2/\SD r2 iZ (mkS [97])=(r3,b)/\b.e=0/\Sim r3 d3/\r3.N.length=2/\r3.x=4:=by
 obtain⟨r1,e1,s1⟩:=SM (d':=(jX TQ iZ v1S).1) (e:=0) (s:=iZ) (sn:=v1S) TS (Prod.ext rfl (by decide +kernel));obtain⟨r2,e2,s2⟩:=zCs (s:=v1S) (c:=mkS [97]) s1 (by decide) (Prod.ext rfl rfl:_=((doD (jX TQ iZ v1S).1 v1S (mkS [97])).1,(doD (jX TQ iZ v1S).1 v1S (mkS [97])).2));obtain⟨r3,e3,s3⟩:=zCs (s:=iZ) (c:=mkS [97]) s2 (by decide) (Prod.ext rfl rfl:_=((doD (doD (jX TQ iZ v1S).1 v1S (mkS [97])).1 iZ (mkS [97])).1,(doD (doD (jX TQ iZ v1S).1 v1S (mkS [97])).1 iZ (mkS [97])).2));exact⟨r1,r2,r3,_,_,_,_,_,e1,s1,e2,by decide +kernel,s2,e3,by decide +kernel,s3,by rw[s3.N];decide +kernel,by rw[s3.x];decide +kernel⟩
end
structure Ev where
 k:Int
 n:List UInt8
 t:List UInt8
 m:List UInt8
 c:Cl
 q:Int
 b:List UInt8
structure Rw where
 e:Int
 a:An
 c:List Ch
 f:List Cf
def rw0:Rw:=⟨0,anE 0,[],[]⟩
structure OkEv (e:Ev):Prop where
 c:OkC e.c
 n:e.n.length<=1000000000
 t:e.t.length<=1000000000
 m:e.m.length<=1000000000
def KZ(r:Rm)(a b:List UInt8):List Ch × Int :=
 if !((cY r a).2==0) then ([],(cY r a).2) else if !((cY r b).2==0) then ([],(cY r b).2) else (eL (cY r a).1 (cY r b).1,0)
def CM(d:Dr)(a b:List UInt8):List Ch × Int :=
 if !((eP d a).2==0) then ([],(eP d a).2) else if !((eP d b).2==0) then ([],(eP d b).2) else (eL (eP d a).1 (eP d b).1,0)
theorem WO{r:Rm}{d:Dr}(h:SimW r d)(a b:List UInt8):KZ r a b=CM d a b:=by
 unfold KZ CM;rw[jS h,jS h]
def AX(r:Rm)(e:Ev):Rm × Rw :=
 if e.k==1 then ((SD r e.n e.c).1,⟨(SD r e.n e.c).2.e,(SD r e.n e.c).2,[],[]⟩)
 else if e.k==2 then ((iY r e.n e.t).1,⟨(iY r e.n e.t).2,anE 0,[],[]⟩)
 else if e.k==3 then ((CN r e.n e.t).1,⟨(CN r e.n e.t).2,anE 0,[],[]⟩)
 else if e.k==4 then (r,⟨(KZ r e.n e.t).2,anE 0,(KZ r e.n e.t).1,[]⟩)
 else if e.k==5 then (if (KZ r e.t e.m).2==0 then ((hU r e.n (KZ r e.t e.m).1).1,⟨(hU r e.n (KZ r e.t e.m).1).2,anE 0,[],[]⟩) else (r,⟨(KZ r e.t e.m).2,anE 0,[],[]⟩))
 else if e.k==6 then ((jA r e.n e.t e.m).1,⟨(jA r e.n e.t e.m).2.2,anE 0,[],(jA r e.n e.t e.m).2.1⟩)
 else if e.k==7 then ((fV r e.n e.t).1,⟨(fV r e.n e.t).2.2,anE 0,[],(fV r e.n e.t).2.1⟩)
 else if e.k==8 then ((qW r e.n).1,⟨(qW r e.n).2,anE 0,[],[]⟩)
 else (r,rw0)
def zLp(d:Dr)(e:Ev):Dr × Rw :=
 if e.k==1 then ((doD d e.n e.c).1,⟨(doD d e.n e.c).2.e,(doD d e.n e.c).2,[],[]⟩)
 else if e.k==2 then ((jX d e.n e.t).1,⟨(jX d e.n e.t).2,anE 0,[],[]⟩)
 else if e.k==3 then ((zDq d e.n e.t).1,⟨(zDq d e.n e.t).2,anE 0,[],[]⟩)
 else if e.k==4 then (d,⟨(CM d e.n e.t).2,anE 0,(CM d e.n e.t).1,[]⟩)
 else if e.k==5 then (if (CM d e.t e.m).2==0 then ((KA d e.n (CM d e.t e.m).1).1,⟨(KA d e.n (CM d e.t e.m).1).2,anE 0,[],[]⟩) else (d,⟨(CM d e.t e.m).2,anE 0,[],[]⟩))
 else if e.k==6 then ((ED d e.n e.t e.m).1,⟨(ED d e.n e.t e.m).2.2,anE 0,[],(ED d e.n e.t e.m).2.1⟩)
 else if e.k==7 then ((vK d e.n e.t).1,⟨(vK d e.n e.t).2.2,anE 0,[],(vK d e.n e.t).2.1⟩)
 else if e.k==8 then ((SF d e.n).1,⟨(SF d e.n).2,anE 0,[],[]⟩)
 else (d,rw0)
theorem ZM{d:Dr}(h:OkW d)(a b:List UInt8):∀x∈(CM d a b).1,x.n.t<18446744073709551616:=by
 have ha:=BV h a;have hb:=BV h b;unfold CM;split
 .intro x hx;cases hx
 .split
  .intro x hx;cases hx
  .exact zCb ha hb
theorem zIn{r:Rm}{d:Dr}(h:Sim r d){e:Ev}(he:OkEv e):(AX r e).2=(zLp d e).2/\Sim (AX r e).1 (zLp d e).1:=by
 unfold AX zLp;split
 .obtain⟨h1,h2⟩:=zJo h e.n he.c.t;exact⟨by rw[h1],h2⟩
 split
 .obtain⟨h1,h2⟩:=DT h e.n e.t;exact⟨by rw[h1],h2⟩
 split
 .obtain⟨h1,h2⟩:=zHx h e.n e.t;exact⟨by rw[h1],h2⟩
 split
 .exact⟨by rw[WO h.toSimW],h⟩
 split
 .rw[WO h.toSimW];split
  .obtain⟨h1,h2⟩:=zBA h e.n (ZM h.toOkW e.t e.m);exact⟨by rw[h1],h2⟩
  .exact⟨rfl,h⟩
 split
 .obtain⟨h1,h2⟩:=zD9 h e.n e.t e.m;exact⟨by rw[h1],h2⟩
 split
 .obtain⟨h1,h2⟩:=zAQ h e.n e.t;exact⟨by rw[h1],h2⟩
 split
 .obtain⟨h1,h2⟩:=WU h e.n;exact⟨by rw[h1],h2⟩
 .exact⟨rfl,h⟩
def DK(l:List (Ly × List It)):List (List PV):=l.map λy=>[.i .i64 y.1.i,.i .i64 y.1.p,.i .i64 y.1.s,.b y.1.f,.sl 5 (aQ y.2)]
theorem zGM(l:List (Ly × List It)):(DK l).length=l.length:=by simp[DK]
theorem zGN:DK []=[]:=rfl
theorem zGO(l:List (Ly × List It)):(∀x∈DK l,x.length=5)=True:=eq_true λx hx=>by
 obtain⟨y,_,rfl⟩:=List.mem_map.1 hx;rfl
theorem zCD(a:List (Ly × List It))(n:Nat):(DK a).take n=DK (a.take n):=by simp[DK]
theorem zCB(a:List (Ly × List It))(n:Nat):(DK a).drop n=DK (a.drop n):=by simp[DK]
theorem zGL(a b:List (Ly × List It)):DK a++DK b=DK (a++b):=by simp[DK]
theorem zCC(l:List (Ly × List It))(i p s:Int)(f:Bool)(t:List It):DK l++[[.i .i64 i,.i .i64 p,.i .i64 s,.b f,.sl 5 (aQ t)]]=DK (l++[(⟨i,p,s,f⟩,t)]):=by simp[DK]
theorem zGP(l:List (Ly × List It))(k:Nat)(i p s:Int)(f:Bool)(t:List It):(DK l).set k [.i .i64 i,.i .i64 p,.i .i64 s,.b f,.sl 5 (aQ t)]=DK (l.set k (⟨i,p,s,f⟩,t)):=by simp[DK,List.map_set]
attribute [go_sem] zGM zGN zGO zCD zCB zGL zCC zGP
structure RW where
 k:Int
 a:Int
 b:Int
 c:Int
 n:Int
 r:RC
 m:List UInt8
def RW.cs(x:RW):List PV:=[.i .i64 x.k,.i .i64 x.a,.i .i64 x.b,.i .i64 x.c,.i .i64 x.n,.i .i64 x.r.k,.i .i64 x.r.p,.i .i64 x.r.to',.i .i64 x.r.m,.i .i64 x.r.t,.i .i64 x.r.at',.i .i64 x.r.n,.i .i64 x.r.how,.f x.r.x,.sl 1 (bJ x.r.d),.s x.r.s,.sl 1 (bJ x.m)]
def LP(l:List RW):List (List PV):=l.map RW.cs
theorem zC4(l:List RW):(LP l).length=l.length:=by simp[LP]
attribute [go_sem] zC4
theorem zHg{t:List RW}{k:Nat}{x:RW}(h:t[k]?=some x):(LP t).getD k []=[.i .i64 x.k,.i .i64 x.a,.i .i64 x.b,.i .i64 x.c,.i .i64 x.n,.i .i64 x.r.k,.i .i64 x.r.p,.i .i64 x.r.to',.i .i64 x.r.m,.i .i64 x.r.t,.i .i64 x.r.at',.i .i64 x.r.n,.i .i64 x.r.how,.f x.r.x,.sl 1 (bJ x.r.d),.s x.r.s,.sl 1 (bJ x.m)]:=by
 simp only[LP,List.getD_eq_getElem?_getD,List.getElem?_map,h];rfl
def zMe(x:RW):Prop:=(x.r.d.length<=9223372036854775807/\x.r.s.length<=9223372036854775807/\x.r.x<18446744073709551616)/\x.m.length<=9223372036854775807
end Go.Dm
end
section
namespace Go.Proofs.YtlbfnbldeefgmaaGreatDoor
open Go Go.ChangeShapes Go.Dm Go.RowKit Go.WideShapes
section
theorem zOD{g:Nat}{xs:List PV}(h:pK tab (g+1+1+1+1) 63 xs):∃r:RW,xs=r.cs/\zMe r:=by
 obtain⟨parts,rfl,hp⟩:=AZ (by rw[tab63]) h;obtain⟨a1,_,rfl,h1,hp⟩:=dK hp;obtain⟨a2,_,rfl,h2,hp⟩:=dK hp;obtain⟨a3,_,rfl,h3,hp⟩:=dK hp;obtain⟨a4,_,rfl,h4,hp⟩:=dK hp;obtain⟨a5,_,rfl,h5,hp⟩:=dK hp;obtain⟨a6,_,rfl,h6,hp⟩:=dK hp;obtain⟨a7,_,rfl,h7,hp⟩:=dK hp;obtain rfl:=zES hp;obtain⟨n1,rfl⟩:=lG h1;obtain⟨n2,rfl⟩:=lG h2;obtain⟨n3,rfl⟩:=lG h3;obtain⟨n4,rfl⟩:=lG h4;obtain⟨n5,rfl⟩:=lG h5;obtain⟨r,rfl,hr⟩:=zOC h6;obtain⟨m,rfl,hm⟩:=XW h7;exact⟨⟨n1,n2,n3,n4,n5,r,m⟩,rfl,hr,hm⟩
theorem zLr{g:Nat}{xs:List PV}(h:pK tab (g+1+1+1+1+1) 47 xs):∃l:List RW,xs=[.sl 17 (LP l)]/\l.length<=9223372036854775807/\∀r∈l,zMe r:=by
 unfold pK at h;rw[tab47] at h;simp only[tab63] at h;obtain⟨es,h,h2,h3⟩:=h;obtain⟨l,rfl,hl⟩:=TG (f:=RW.cs) (B:=zMe) λx hx=>zOD (h2 x hx);exact⟨l,h,by simp at h3;omega,hl⟩
section
variable {H:Type}{enc:TypeId × Value->H}{W:World}{base:Nat}{v:Value}{d:DataW H}{p:List MemPlace}
theorem zGc(hv:Value.okWide Tryz.prog W .any base 47 v)(h:DataW.Trod enc Tryz.prog W 0 (λ_=>true) true 47 v d p):
  ∃l:List RW,(l.length<=9223372036854775807/\∀r∈l,zMe r)/\aZ (eR W) (.c (.p (.sl 17 (LP l)))) v:=by
 obtain⟨xs,hx,hr⟩:=WC aF 5 (by kernel_rfl) hv h;obtain⟨l,rfl,hl⟩:=zLr hx;exact⟨l,hl,hr⟩
end
end
section
theorem zLq{g:Nat}{xs:List PV}(h:pK tab (g+1+1) 81 xs):∃l:List Int,xs=[.sl 1 (cG l)]/\l.length<=9223372036854775807:=by
 unfold pK at h;rw[tab81] at h;simp only[tab3] at h;obtain⟨es,h,h2,h3⟩:=h;obtain⟨l,rfl,hl⟩:=TG (f:=λz:Int=>[PV.i .i64 z]) (B:=λ_=>True) λx hx=>by
  obtain⟨n,hn⟩:=lG (h2 x hx);exact⟨n,hn,trivial⟩
 exact⟨l,h,by simpa using h3⟩
section
variable {H:Type}{enc:TypeId × Value->H}{W:World}{base:Nat}{v:Value}{d:DataW H}{p:List MemPlace}
theorem zGb(hv:Value.okWide Tryz.prog W .any base 81 v)(h:DataW.Trod enc Tryz.prog W 0 (λ_=>true) true 81 v d p):
  ∃l:List Int,l.length<=9223372036854775807/\aZ (eR W) (.c (.p (.sl 1 (cG l)))) v:=by
 obtain⟨xs,hx,hr⟩:=WC aF 2 (by kernel_rfl) hv h;obtain⟨l,rfl,hl⟩:=zLq hx;exact⟨l,hl,hr⟩
end
end
theorem zIA {W:World} {l:List (String × DataW Unit)} (h:laidMetH Tryz.prog l W.memory) (hn:(l.all λx=>x.2.handleName?.isNone)=true) (hm:("pentimento/pentimentohand.kinds",(Rows.laid_pentimento_pentimentohand_kinds:DataW Unit))∈l) (hm2:("pentimento/pentimentoplay.names",(Rows.laid_pentimento_pentimentoplay_names:DataW Unit))∈l):zJ3 W:=by
 rw[Go.MakeChecks.laidMetH_plain _ _ _ hn] at h;intro g j v hj
 match g,hj with
 | 0,hj =>
  simp only[said,List.getElem?_map,Option.map_eq_some_iff] at hj;obtain⟨n,hn,rfl⟩:=hj;exact zDR h hm (vs:=zFa) rfl (by kernel_rfl) (by kernel_rfl) Tryz.underlying113 Tryz.underlying3 (by kernel_rfl) j n hn
 | 1,hj =>
  simp only[said,List.getElem?_map,Option.map_eq_some_iff] at hj;obtain⟨n,hn,rfl⟩:=hj;exact zDS h hm2 (vs:=YC) rfl (by kernel_rfl) (by kernel_rfl) Tryz.underlying200 Tryz.underlying9 (by kernel_rfl) j n hn
 | g+2,hj=>simp[said] at hj
end Go.Proofs.YtlbfnbldeefgmaaGreatDoor
end
section
namespace Go.Proofs.YtlbfnbldeefgmaaGreatDoor
open Go Go.Dm Go.Proofs.Tryz
theorem AH(a b:Nat):((a:Int)==(b:Int))=(a==b):=by
 rw[Bool.eq_iff_iff];simp only[beq_iff_eq];omega
theorem zDH(x:Nat):aA prog 291 [.c (.p (.f x))] [] λd h=>d=.c (.p (.b (isNaN x)))/\h=[]:=by
 refine eT func291 λX0 hX=>?_;simp only[f291,go_sem]
 repeat' (first|exact⟨⟩|refine sp ?_)
 all_goals ((simp_all[isNaN];done))
theorem DD(x:Nat):aA prog 194 [.c (.p (.f x))] [] λd h=>d=.c (.p (.i .u64 x))/\h=[]:=by
 intro X vals hh hi _ hr
 match vals,hr with
 | [v],⟨h1,_⟩ =>
  simp only[aZ,bU,dB] at h1;subst h1;refine .inr ⟨.int .u64 x,X.w,?_,_,X,rfl,hi,Step.refl hi,qO (x:=.p (.i .u64 x)) rfl,rfl,hh⟩;kernel_rfl
theorem jR(z:Int)(hz:0<=z):aA prog 113 [.c (.p (.i .u64 z))] [] λd h=>d=.c (.p (.f z.toNat))/\h=[]:=by
 intro X vals hh hi _ hr
 match vals,hr with
 | [v],⟨h1,_⟩ =>
  simp only[aZ,bU,dB] at h1;obtain⟨n,rfl⟩:=Int.eq_ofNat_of_zero_le hz;subst h1;refine .inr ⟨.float .f64 n,X.w,?_,_,X,rfl,hi,Step.refl hi,qO (x:=.p (.f n)) rfl,rfl,hh⟩;kernel_rfl
theorem zFk(x:Nat):aA prog 356 [.c (.p (.f x))] [] λd h=>d=.c (.p (.b (zAy x)))/\h=[]:=by
 refine eT func356 λX0 hX=>?_;simp only[f356,go_sem]
 repeat' (first|exact⟨⟩|refine sp ?_|refine uF (DD _) ?_)
 all_goals ((simp_all[zAy];done))
theorem zLA(x:Nat):aA prog 300 [.c (.p (.f x))] [] λd h=>d=.tup [.c (.p (.i .i64 (lI x).1)),.c (.p (.i .i64 (lI x).2))]/\h=[]:=by
 refine eT func300 λX0 hX=>?_;simp only[f300,go_sem]
 repeat' (first|exact⟨⟩|refine sp ?_|refine uF (zDH _) ?_|refine uF (zFk _) ?_|with_reducible refine aK (λ_=>?_) (λ_=>?_)|with_reducible refine bK (λ_=>?_) (λ_=>?_))
 all_goals ((simp_all[lI];done))
theorem zJe(x:Nat):aA prog 200 [.c (.p (.f x))] [] λd h=>d=.c (.p (.i .u64 (cZ x)))/\h=[]:=by
 refine eT func200 λX0 hX=>?_;simp only[f200,go_sem]
 repeat' (first|exact⟨⟩|refine sp ?_|refine uF (DD _) ?_|with_reducible refine aK (λ_=>?_) (λ_=>?_))
 all_goals ((simp_all[cZ,isNaN,FR];done))
theorem zJ2(x:Nat):aA prog 195 [.c (.p (.f x))] [] λd h=>d=.c (.p (.f (cZ x)))/\h=[]:=by
 refine eT func195 λX0 hX=>?_;simp only[Tryz.f195,go_sem]
 repeat' (first|exact⟨⟩|refine sp ?_|refine uF (zJe _) ?_|refine uF (jR _ (by omega)) ?_)
 all_goals (first|(with_reducible rfl)|(simp_all[];done)|(simp_all[];omega)|(simp_all[];(repeat' split)<;>omega))
theorem RB(x:Nat):aA prog 114 [.c (.p (.f x))] [] λd h=>d=.c (.p (.f (cZ x)))/\h=[]:=by
 refine eT func114 λX0 hX=>?_;simp only[f114,go_sem]
 repeat' (first|exact⟨⟩|refine sp ?_|refine uF (zJ2 _) ?_)
 all_goals (first|(with_reducible rfl)|(simp_all[];done)|(simp_all[];omega)|(simp_all[];(repeat' split)<;>omega))
theorem zAR(x y:Nat):aA prog 121 [.c (.p (.f x)),.c (.p (.f y))] [] λd h=>d=.c (.p (.b (cZ x==cZ y)))/\h=[]:=by
 refine eT func121 λX0 hX=>?_;simp only[f121,go_sem]
 repeat' (first|exact⟨⟩|refine sp ?_|refine uF (zJe _) ?_)
 all_goals ((simp_all[AH];done))
theorem zAl(x:Int):aA prog 357 [.c (.p (.i .i64 x))] [] λd h=>d=.c (.p (.b false))/\h=[]:=by
 refine eT Tryz.func357 λX0 hX=>?_;simp only[f357,go_sem]
 repeat' (first|exact⟨⟩|refine sp ?_)
 all_goals (first|(with_reducible rfl)|(simp_all[];done)|(simp_all[];omega)|(simp_all[];(repeat' split)<;>omega))
theorem zAk(x:Nat):aA prog 358 [.c (.p (.f x))] [] λd h=>d=.c (.p (.b (isNaN x)))/\h=[]:=by
 refine eT func358 λX0 hX=>?_;simp only[f358,go_sem]
 repeat' (first|exact⟨⟩|refine sp ?_)
 all_goals ((simp_all[isNaN];done))
theorem WJ(a b:Int):aA prog 301 [.c (.p (.i .i64 a)),.c (.p (.i .i64 b))] [] λd h=>d=.c (.p (.i .i64 (KK a b)))/\h=[]:=by
 refine eT func301 λX0 hX=>?_;simp only[f301,go_sem]
 repeat' (first|exact⟨⟩|refine sp ?_|refine uF (zAl _) ?_|with_reducible refine aK (λ_=>?_) (λ_=>?_))
 all_goals (first|(simp_all[KK];done)|(simp_all[KK];omega))
theorem zGi(a b:Nat):aA prog 303 [.c (.p (.f a)),.c (.p (.f b))] [] λd h=>d=.c (.p (.i .i64 (zMg a b)))/\h=[]:=by
 refine eT func303 λX0 hX=>?_;simp only[f303,go_sem]
 repeat' (first|exact⟨⟩|refine sp ?_|refine uF (zAk _) ?_|with_reducible refine aK (λ_=>?_) (λ_=>?_))
 all_goals ((simp_all[zMg];done))
theorem ZG:aA prog 110 [.c (.p (.f 0)),.c (.p (.f 13830554455654793216))] [] λd h=>d=.c (.p (.f 9223372036854775808))/\h=[]:=by
 have e:Dm.bits .or .u64 (Dm.bits .andNot .u64 0 9223372036854775808) (Dm.bits .and .u64 13830554455654793216 9223372036854775808)=9223372036854775808:=by kernel_rfl
 refine eT func110 λX0 hX=>?_;simp only[f110,go_sem]
 repeat' (first|exact⟨⟩|refine sp ?_|refine uF (DD _) ?_|refine uF (jR _ (by omega)) ?_)
 all_goals (first|(with_reducible rfl)|(simp_all[];done)|(simp_all[];omega)|(simp_all[];(repeat' split)<;>omega))
theorem zOr(n:Int):aA prog 111 [.c (.p (.i .i64 n))] [] λd h=>d=.c (.p (.f (if 0<=n then 9218868437227405312 else 18442240474082181120)))/\h=[]:=by
 refine eT func111 λX0 hX=>?_;simp only[f111,go_sem]
 repeat' (first|exact⟨⟩|refine sp ?_|refine uF (jR _ (by omega)) ?_|with_reducible refine aK (λ_=>?_) (λ_=>?_))
 all_goals ((simp_all[];done))
theorem zOg:aA prog 112 [] [] λd h=>d=.c (.p (.f FR))/\h=[]:=by
 refine eT func112 λX0 hX=>?_;simp only[f112,go_sem]
 repeat' (first|exact⟨⟩|refine sp ?_|refine uF (jR _ (by omega)) ?_)
 all_goals ((simp_all[FR];done))
theorem dA(x:Nat):aA prog 239 [.c (.p (.f x))] [] λd h=>d=.c (.p (.f (cZ x)))/\h=[]:=by
 refine eT func239 λX0 hX=>?_;simp only[f239,go_sem]
 repeat' (first|exact⟨⟩|refine sp ?_|refine uF (zDH _) ?_|refine uF (jR _ (by omega)) ?_|with_reducible refine aK (λ_=>?_) (λ_=>?_))
 all_goals ((simp_all[cZ,FR];done))
theorem zO1(a b:Int):aA prog 302 [.c (.p (.sl 1 [[.i .i64 a],[.i .i64 b]]))] [] λd h=>d=.c (.p (.i .i64 (if a==0 then b else a)))/\h=[]:=by
 refine eT func302 λX0 hX=>?_;simp only[f302,go_sem]
 repeat' (first|exact⟨⟩|refine sp ?_)
 refine dR aF aL 3 ?_
 repeat' (first|exact⟨⟩|refine sp ?_|with_reducible refine aK (λ_=>?_) (λ_=>?_))
 all_goals ((simp_all[];done))
theorem wH(a b:Nat):aA prog 249 [.c (.p (.f a)),.c (.p (.f b))] [] λd h=>d=.c (.p (.i .i64 (nR a b)))/\h=[]:=by
 refine eT func249 λX0 hX=>?_;simp only[f249,go_sem]
 repeat' (first|exact⟨⟩|refine sp ?_|refine uF (zLA _) ?_|refine uF (WJ _ _) ?_|refine uF (zGi _ _) ?_|refine uF (zO1 _ _) ?_|with_reducible refine aK (λ_=>?_) (λ_=>?_)|((with_reducible apply aA.frz);exact rfl;exact rfl)|((with_reducible refine And.intro ?_ ?_);decide))
 all_goals (first|(simp_all[nR];done)|(simp_all[nR];omega))
theorem NH(a b:Nat):aA prog 188 [.c (.p (.f a)),.c (.p (.f b))] [] λd h=>d=.c (.p (.b (nR a b==0)))/\h=[]:=by
 refine eT func188 λX0 hX=>?_;simp only[f188,go_sem]
 repeat' (first|exact⟨⟩|refine sp ?_|refine uF (wH _ _) ?_)
 all_goals (first|(with_reducible rfl)|(simp_all[];done)|(simp_all[];omega)|(simp_all[];(repeat' split)<;>omega))
theorem zAB(a b:Nat):aA prog 379 [.c (.p (.f a)),.c (.p (.f b))] [] λd h=>d=.c (.p (.f (wG a b)))/\h=[]:=by
 refine eT func379 λX0 hX=>?_;simp only[f379,go_sem]
 repeat' (first|exact⟨⟩|refine sp ?_|refine uF (wH _ _) ?_|refine uF (dA _) ?_|with_reducible refine aK (λ_=>?_) (λ_=>?_))
 all_goals (first|(simp_all[wG];done)|(simp_all[wG];omega))
theorem iR{a b:List UInt8}:aA prog 189 [.c (.p (.sl 1 (bJ a))),.c (.p (.sl 1 (bJ b)))] [] λd h=>d=.c (.p (.b (a==b)))/\h=[]:=by
 refine eT func189 λX0 hX=>?_;simp only[f189,go_sem]
 repeat' (first|exact⟨⟩|refine sp ?_)
 all_goals (first|(with_reducible rfl)|(simp_all[];done)|(simp_all[];omega)|(simp_all[];(repeat' split)<;>omega))
theorem yM{a:List UInt8}(ha:a.length<=140737488355328):aA prog 177 [.c (.p (.sl 1 (bJ a)))] [] λd h=>d=.c (.p (.sl 1 (bJ a)))/\h=[]:=by
 refine aH ?_;refine eT func177 λX0 hX=>?_;simp only[f177,go_sem];cases a with
 | nil =>
  repeat' (first|exact⟨⟩|refine sp ?_)
  simp[List.range_succ]
 | cons x l =>
  repeat' (first|exact⟨⟩|refine sp ?_|((with_reducible refine And.intro ?_ ?_);decide))
  simp only[List.length_cons] at ha;exact⟨by omega,by omega⟩
theorem tH{k m k' m':Int}{t t':Nat}{d d':List UInt8}:aA prog 107 [.agg (ndc k m t d),.agg (ndc k' m' t' d')] [] λr h=>r=.c (.p (.b (qM ⟨k,m,t,d⟩ ⟨k',m',t',d'⟩)))/\h=[]:=by
 refine eT func107 λX0 hX=>?_;simp only[f107,go_sem]
 repeat' (first|exact⟨⟩|refine sp ?_|refine uF (NH _ _) ?_|refine uF (iR) ?_|with_reducible refine bK (λ_=>?_) (λ_=>?_))
 all_goals ((simp_all[qM];done))
theorem zBa{k m k' m':Int}{t t':Nat}{d d':List UInt8}:aA prog 63 [.agg (ndc k m t d),.agg (ndc k' m' t' d')] [] λr h=>r=.c (.p (.b (kS ⟨k,m,t,d⟩ ⟨k',m',t',d'⟩)))/\h=[]:=by
 refine eT func63 λX0 hX=>?_;simp only[f63,go_sem]
 repeat' (first|exact⟨⟩|refine sp ?_|refine uF (zAR _ _) ?_|with_reducible refine bK (λ_=>?_) (λ_=>?_))
 all_goals ((simp_all[kS];done))
theorem qK{k m:Int}{t:Nat}{d:List UInt8}(hd:d.length<=140737488355328):aA prog 143 [.agg (ndc k m t d)] [] λr h=>r=.agg (ndc k m t d)/\h=[]:=by
 refine eT func143 λX0 hX=>?_;simp only[Tryz.f143,go_sem]
 repeat' (first|exact⟨⟩|refine sp ?_|refine uN (yM hd) ?_)
 all_goals (first|(with_reducible rfl)|(simp_all[];done)|(simp_all[];omega)|(simp_all[];(repeat' split)<;>omega))
theorem zNY{k m k' m':Int}{t t':Nat}{d d':List UInt8}:aA prog 378 [.agg (ndc k m t d),.agg (ndc k' m' t' d')] [] λr h=>r=.c (.p (.b (zFO ⟨k,m,t,d⟩ ⟨k',m',t',d'⟩)))/\h=[]:=by
 refine eT func378 λX0 hX=>?_;simp only[f378,go_sem]
 repeat' (first|exact⟨⟩|refine sp ?_|refine uF (iR) ?_|with_reducible refine bK (λ_=>?_) (λ_=>?_))
 all_goals ((simp_all[zFO];done))
end Go.Proofs.YtlbfnbldeefgmaaGreatDoor
end
