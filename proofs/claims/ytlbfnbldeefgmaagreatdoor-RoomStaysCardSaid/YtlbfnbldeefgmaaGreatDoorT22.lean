/- Part 23 of the proof of roomStays_card, set without needless blanks. No condition. -/
import Derived.Test.YtlbfnbldeefgmaaGreatDoorT21
set_option linter.all false
set_option maxRecDepth 100000
set_option maxHeartbeats 16000000
section
namespace Go.Dm
open Go
section
variable {r:Rm}{d:Dr}{s t sn o:List UInt8}{q:Int}{w:List It}
theorem SimW.okR(h:SimW r d)(hl:d.L.length<=900):OkR r where
 srt:=by rw[h.N];exact h.srt
 nl:=by rw[h.N];have:=h.ln;omega
 ll:=by rw[h.L];simpa[Dr.G] using hl
 ent:=λx hx=>by
  rw[h.L] at hx;obtain⟨y,hy,rfl⟩:=JJ.1 hx;rw[h.e y hy];exact VT (h.toOkW.tree _) (h.t y hy)
 x:=by rw[h.x];have:=h.nx.2;omega
theorem Sim.okR(h:Sim r d):OkR r:=h.toSimW.okR (by have:=h.len;omega)
theorem Sim.okG(h:Sim r d):OkG r.L:=by rw[h.L];exact h.g
theorem Sim.okT(h:Sim r d)(id:Int):OkT (treeR r id):=by rw[h.toSimW.treeR];exact h.toOkW.tree id
theorem yF(h:SimW r d)(hl:d.L.length<=800){p:Int}{t:List It}(hs:aZ s=true)(hp:uU d p)(hq:q=0∨(p≠q/\uU d q))(hc:(bN d.G p).length<=11)(ht:OkT t)
 (hx:d.x<2147483647)(hn:(bL d.N s d.x).length<=20):OkR ⟨bL r.N s r.x,r.L++[⟨r.x,p,q,false⟩],oI r.E r.x (eG (treeR r p) t),r.x+1⟩/\OkG (r.L++[⟨r.x,p,q,false⟩]):=by
 have hw:=CC h hs hp hq hc ht hx hn;rw[h.treeR];refine⟨hw.okR ?_,?_⟩
 .show (d.L++[_]).length<=900;rw[List.length_append];simp only[List.length_cons,List.length_nil];omega
 .have h1:=hw.g;rw[<- hw.L] at h1;exact h1
theorem zOv(h:Sim r d)(h1:((snP r s).2==0)=true):∃n y,fV d.N s=some n/\y∈d.L/\snP r s=(y.1,0)/\qY d y.1.i=some y/\y.1.f=true:=by
 unfold snP at h1 ⊢;cases hn:fV d.N s with
 | none =>
  obtain⟨k1,_⟩:=bP h.toSimW hn;rw[k1] at h1;cases h1
 | some n =>
  obtain⟨y,hy,g1,g2,g3,g4,g5⟩:=bY h.toSimW hn;rw[g1] at h1 ⊢;cases hf:y.1.f
  .rw[hf] at h1;cases h1
  .exact⟨n,y,rfl,hy,by rw[show ((0:Int)==0 && !true)=false from rfl];rfl,g3,hf⟩
theorem zOY(h:Sim r d)(h1:((wsP r s).2==0)=true):∃n y,fV d.N s=some n/\y∈d.L/\wsP r s=(y.1,0)/\qY d y.1.i=some y/\y.1.f=false/\y.1.i=n.l:=by
 unfold wsP at h1 ⊢;cases hn:fV d.N s with
 | none =>
  obtain⟨k1,_⟩:=bP h.toSimW hn;rw[k1] at h1;cases h1
 | some n =>
  obtain⟨y,hy,g1,g2,g3,g4,g5⟩:=bY h.toSimW hn;rw[g1] at h1 ⊢;cases hf:y.1.f
  .exact⟨n,y,rfl,hy,by rw[show ((0:Int)==0 && false)=false from rfl];rfl,g3,hf,g4⟩
  .rw[hf] at h1;cases h1
theorem HI(h:SimW r d){on:Int}(h3:(gX r on==0)=true):(bN d.G on).length<=11:=by
 rw[nG h] at h3;exact iT (by simpa using h3)
theorem zIp(h:Sim r d)(h1:((snP r sn).2==0)=true)(h2:(gR r s==0)=true)(h3:(gX r (snP r sn).1.i==0)=true):
  OkR ⟨bL r.N s r.x,r.L++[⟨r.x,(snP r sn).1.i,0,false⟩],oI r.E r.x [],r.x+1⟩/\OkG (r.L++[⟨r.x,(snP r sn).1.i,0,false⟩]):=by
 obtain⟨n,y,hn,hy,e,g3,hf⟩:=zOv h h1;rw[e] at h3 ⊢;rw[qC h.toSimW] at h2;obtain⟨f1,f2,f3,f4,f5⟩:=jW h2;have:=yF (s:=s) (p:=y.1.i) (q:=0) (t:=y.2) h.toSimW (by have:=h.len;omega) f1 ⟨y,hy,rfl,hf⟩ (.inl rfl) (HI h.toSimW h3) (h.t y hy) f5 (by have:=fE d.N s d.x;omega)
 rwa[h.toSimW.treeR,dB g3,tO (h.t y hy)] at this
theorem zAJ(h:Sim r d)(h1:((wsP r s).2==0)=true)(h2:(gR r sn==0)=true)(h3:(gX r (wsP r s).1.i==0)=true):
  OkR ⟨bL r.N sn (wsP r s).1.i,oC r.L (wsP r s).1.i,r.E,r.x⟩ /\
   OkR ⟨bL (bL r.N sn (wsP r s).1.i) s r.x,oC r.L (wsP r s).1.i++[⟨r.x,(wsP r s).1.i,0,false⟩],oI r.E r.x [],r.x+1⟩/\OkG (oC r.L (wsP r s).1.i++[⟨r.x,(wsP r s).1.i,0,false⟩]):=by
 obtain ⟨n,y,hn,hy,e,g3,hf,g4⟩:=zOY h h1;rw[e] at h3 ⊢;rw[qC h.toSimW] at h2;obtain⟨f1,f2,f3,f4,f5⟩:=jW h2;have hwf:=sF h.toSimW y.1.i;have hmem:∀n,n∈bL d.N sn y.1.i↔n=⟨sn,y.1.i⟩∨(n∈d.N/\n.n≠sn):=λn=>jB h.srt;have hwn:=mW hwf (N:=bL d.N sn y.1.i) (jC h.srt sn y.1.i) (λm hm=>by
   rcases (hmem m).1 hm with rfl|⟨g1,_⟩
   .exact⟨f1,_,eU h.g.inc (id:=y.1.i) hy,rfl⟩
   .exact hwf.nm m g1) (λa ha b hb e hfz=>by
   have hfz2:∀z∈d.L,z.1.i=a.l->z.1.i≠y.1.i/\z.1.f=false:=λz hz hza=>by
    have:=hfz _ (eU h.g.inc (id:=y.1.i) hz) hza;simp only[zX,Bool.or_eq_false_iff] at this;exact⟨by simpa using this.2,this.1⟩
   rcases (hmem a).1 ha with rfl|⟨g1,_⟩<;>rcases (hmem b).1 hb with rfl|⟨g2,_⟩
   .rfl
   .exact absurd rfl (hfz2 y hy rfl).1
   .exact absurd rfl (hfz2 y hy e.symm).1
   .exact h.one a g1 b g2 e λz hz hza=>(hfz2 z hz hza).2) (by have:=fE d.N sn y.1.i;omega)
 have hwn:SimW ⟨bL d.N sn y.1.i,oC r.L y.1.i,r.E,r.x⟩ ⟨vM y.1.i d.L,bL d.N sn y.1.i,d.x⟩:=hwn;have hlen:(vM y.1.i d.L).length=d.L.length:=by rw[qD h.g.inc,List.length_map]
 have hsn:aZ s=true:=by
  obtain⟨g1,g2⟩:=cN hn;rw[<- g2];exact(h.nm n g1).1
 have hfa:uU ⟨vM y.1.i d.L,bL d.N sn y.1.i,d.x⟩ y.1.i:=⟨_,eU h.g.inc (id:=y.1.i) hy,rfl,by show (y.1.f || y.1.i==y.1.i)=true;simp⟩
 have hGeq:(⟨vM y.1.i d.L,bL d.N sn y.1.i,d.x⟩:Dr).G=oC d.G y.1.i:=zAL h.g.inc y.1.i;have hne:sn≠s:=λe=>by
  subst e;have:=h.toOkW.name0 sn;rw[f2,hn] at this;cases this
 have hin:(⟨n.n,n.l⟩:Nm)∈bL d.N sn y.1.i:=by
  obtain⟨g1,g2⟩:=cN hn;exact(hmem _).2 (.inr ⟨g1,by rw[g2];exactλe=>hne e.symm⟩)
 have hlen2:(bL (bL d.N sn y.1.i) s d.x).length<=20:=by
  obtain⟨g1,g2⟩:=cN hn;rw[<- g2,kG (jC h.srt sn y.1.i) hin];have:=fE d.N sn y.1.i;rw[List.length_set];omega
 have e0:bU ⟨vM y.1.i d.L,bL d.N sn y.1.i,d.x⟩ y.1.i=y.2:=(xW h.toOkW y.1.i y.1.i).trans (dB g3);have hl:=h.len;have:=yF (s:=s) (p:=y.1.i) (q:=0) (t:=y.2) hwn (by show (vM y.1.i d.L).length<=800;omega) hsn hfa (.inl rfl) (by rw[hGeq,tH];exact HI h.toSimW h3) (h.t y hy) f5 hlen2;rw[hwn.treeR,e0,tO (h.t y hy)] at this;rw[h.N];exact⟨hwn.okR (by show (vM y.1.i d.L).length<=900;omega),this⟩
theorem zK3(h:Sim r d)(h1:((eI r o t).2.2==0)=true):∃y z,y∈d.L/\z∈d.L/\eI r o t=(y.1,z.1,0)/\qY d y.1.i=some y/\qY d z.1.i=some z/\y.1.f=true/\z.1.f=true:=by
 unfold eI at h1 ⊢;cases hn:fV d.N o with
 | none =>
  obtain⟨k1,_⟩:=bP h.toSimW hn;rw[k1] at h1;cases h1
 | some n =>
  obtain⟨y,hy,g1,g2,g3,g4,g5⟩:=bY h.toSimW hn;rw[g1] at h1 ⊢;cases hm:fV d.N t with
  | none =>
   obtain⟨k1,_⟩:=bP h.toSimW hm;rw[k1] at h1;cases h1
  | some m =>
   obtain⟨z,hz,k1,k2,k3,k4,k5⟩:=bY h.toSimW hm;rw[k1] at h1 ⊢;cases hf:y.1.f<;>cases hf2:z.1.f
   .rw[hf,hf2] at h1;cases h1
   .rw[hf,hf2] at h1;cases h1
   .rw[hf,hf2] at h1;cases h1
   .exact⟨y,z,hy,hz,rfl,g3,k3,hf,hf2⟩
theorem zEV(h:Sim r d)(h1:((eI r o t).2.2==0)=true)(h2:(gR r s==0)=true)(h3:(gX r (eI r o t).1.i==0)=true)(hw:OkT w)(hq:q=if (eI r o t).1.i==(eI r o t).2.1.i then 0 else (eI r o t).2.1.i):
  OkR ⟨bL r.N s r.x,r.L++[⟨r.x,(eI r o t).1.i,q,false⟩],oI r.E r.x (eG (treeR r (eI r o t).1.i) w),r.x+1⟩/\OkG (r.L++[⟨r.x,(eI r o t).1.i,q,false⟩]):=by
 obtain⟨y,z,hy,hz,e,g3,g4,hf,hf2⟩:=zK3 h h1;rw[e] at h3 hq ⊢;rw[qC h.toSimW] at h2;obtain⟨f1,f2,f3,f4,f5⟩:=jW h2;refine yF h.toSimW (by have:=h.len;omega) f1 ⟨y,hy,rfl,hf⟩ ?_ (HI h.toSimW h3) hw f5 (by have:=fE d.N s d.x;omega);by_cases hyz:y.1.i=z.1.i
 .left;rw[hq,if_pos (by simpa using hyz)]
 .right;rw[hq,if_neg (by simpa using hyz)];exact⟨hyz,z,hz,rfl,hf2⟩
theorem zBs(h:Sim r d)(h1:((wsP r s).2==0)=true)(h2:((snP r o).2==0)=true)(h3:(gX r (snP r o).1.i==0)=true)(hw:OkT w)(hx:r.x<2147483647):
  OkR ⟨bL r.N s r.x,r.L++[⟨r.x,(snP r o).1.i,0,false⟩],oI r.E r.x (eG (treeR r (snP r o).1.i) w),r.x+1⟩/\OkG (r.L++[⟨r.x,(snP r o).1.i,0,false⟩]):=by
 obtain⟨n,y,hn,hy,e,g3,hf,g4⟩:=zOY h h1;obtain⟨m,z,hm,hz,e2,k3,kf⟩:=zOv h h2;rw[e2] at h3 ⊢;obtain⟨g1,g2⟩:=cN hn;have hsn:aZ s=true:=by rw[<- g2];exact(h.nm n g1).1
 refine yF h.toSimW (by have:=h.len;omega) hsn ⟨z,hz,rfl,kf⟩ (.inl rfl) (HI h.toSimW h3) hw (by rw[<- h.x];exact hx) ?_;rw[<- g2,kG h.srt g1,List.length_set];exact h.ln
theorem EW(h:Sim r d)(a b c:Int)(he:(eN (treeR r a) (treeR r b) (treeR r c)).2.2=0):OkT (eN (treeR r a) (treeR r b) (treeR r c)).1:=by
 have ha:=h.okT a;have hb:=h.okT b;have hc:=h.okT c;unfold eN at he ⊢;split at he
 .cases he
 .rename_i h1;split at he
  .cases he
  .rename_i h2;rw[if_neg h1,if_neg h2];exact pC ha hb hc (by simp only[decide_eq_true_eq] at h1;omega) (by simp only[decide_eq_true_eq] at h2;omega)
theorem qR(h:Sim r d)(s:List UInt8):OkT (cO r s).1:=by rw[mY h.toSimW];exact CL h.toOkW s
theorem zCk(h:Sim r d)(s:List UInt8){l:List Ch}(hl:∀x∈l,x.n.t<18446744073709551616):OkT (treeR r (wsP r s).1.i)/\OkT (treeR r (wsP r s).1.p)/\(((gA (treeR r (wsP r s).1.i) l).2==0)=true->OkT (gA (treeR r (wsP r s).1.i) l).1) :=
 ⟨h.okT _,h.okT _,λhe=>KY (h.okT _) hl (by simpa using he)⟩
theorem zND(h:Sim r d)(s:List UInt8){c:Cl}(hc:c.t<18446744073709551616):OkT (treeR r (bR r s).1.i)/\OkT (treeR r (bR r s).1.p)/\OkT (doP (treeR r (bR r s).1.i) c).1 :=
 ⟨h.okT _,h.okT _,zNC (h.okT _) hc⟩
theorem zHw(h:Sim r d)(s:List UInt8):OkR ⟨lI r.N s,r.L,r.E,r.x⟩ :=
 have k:=h.okR
 ⟨tC k.srt s,Nat.le_trans (zP _ _) k.nl,k.ll,k.ent,k.x⟩
end
section
section steps
variable {r:Rm}{d d':Dr}
theorem TZ{s sn:List UInt8}{e:Int}(h:Sim r d)(he:iM d s sn=(d',e)):∃r',gK r s sn=(r',e)/\Sim r' d':=by
 obtain⟨h1,h2⟩:=EL h s sn;rw[he] at h1 h2;exact⟨_,Prod.ext rfl h1,h2⟩
theorem zDf{s:List UInt8}{c:Cl}{a:An}(h:Sim r d)(hc:c.t<18446744073709551616)(he:doD d s c=(d',a)):∃r',KU r s c=(r',a)/\Sim r' d':=by
 obtain⟨h1,h2⟩:=zKg h s hc;rw[he] at h1 h2;exact⟨_,Prod.ext rfl h1,h2⟩
end steps
theorem zCX{a b:List It}(ha:OkT a)(hb:OkT b):∀x∈eS a b,x.n.t<18446744073709551616:=λx hx=>(XT ha hb hx).2
def v1S:List UInt8:=[118,49]
def mkS(p:List UInt8):Cl:=⟨1,p,[],493,0,0,0,[]⟩
theorem VO:∃(r1 r2 r3:Rm) (d1 d2 d3:Dr) (a b:An),gK zNa jK v1S=(r1,0)/\Sim r1 d1/\KU r1 v1S (mkS [97])=(r2,a)/\a.e=14/\Sim r2 d2/\KU r2 jK (mkS [97])=(r3,b)/\b.e=0/\Sim r3 d3/\r3.N.length=2/\r3.x=4:=by
 obtain⟨r1,e1,s1⟩:=TZ (d':=(iM VY jK v1S).1) (e:=0) (s:=jK) (sn:=v1S) VZ (Prod.ext rfl (by decide +kernel));obtain⟨r2,e2,s2⟩:=zDf (s:=v1S) (c:=mkS [97]) s1 (by decide) (Prod.ext rfl rfl:_=((doD (iM VY jK v1S).1 v1S (mkS [97])).1,(doD (iM VY jK v1S).1 v1S (mkS [97])).2));obtain⟨r3,e3,s3⟩:=zDf (s:=jK) (c:=mkS [97]) s2 (by decide) (Prod.ext rfl rfl:_=((doD (doD (iM VY jK v1S).1 v1S (mkS [97])).1 jK (mkS [97])).1,(doD (doD (iM VY jK v1S).1 v1S (mkS [97])).1 jK (mkS [97])).2));exact⟨r1,r2,r3,_,_,_,_,_,e1,s1,e2,by decide +kernel,s2,e3,by decide +kernel,s3,by rw[s3.N];decide +kernel,by rw[s3.x];decide +kernel⟩
end
structure Ev where
 k:Int
 n:List UInt8
 t:List UInt8
 m:List UInt8
 c:Cl
 q:Int
 b:List UInt8
structure Rw where
 e:Int
 a:An
 c:List Ch
 f:List Cf
def rw0:Rw:=⟨0,anE 0,[],[]⟩
structure OkEv (e:Ev):Prop where
 c:OkC e.c
 n:e.n.length<=1000000000
 t:e.t.length<=1000000000
 m:e.m.length<=1000000000
def LZ(r:Rm)(a b:List UInt8):List Ch × Int :=
 if !((cO r a).2==0) then ([],(cO r a).2) else if !((cO r b).2==0) then ([],(cO r b).2) else (eS (cO r a).1 (cO r b).1,0)
def DD(d:Dr)(a b:List UInt8):List Ch × Int :=
 if !((aW d a).2==0) then ([],(aW d a).2) else if !((aW d b).2==0) then ([],(aW d b).2) else (eS (aW d a).1 (aW d b).1,0)
theorem XU{r:Rm}{d:Dr}(h:SimW r d)(a b:List UInt8):LZ r a b=DD d a b:=by
 unfold LZ DD;rw[mY h,mY h]
def kR(r:Rm)(e:Ev):Rm × Rw :=
 if e.k==1 then ((KU r e.n e.c).1,⟨(KU r e.n e.c).2.e,(KU r e.n e.c).2,[],[]⟩)
 else if e.k==2 then ((gK r e.n e.t).1,⟨(gK r e.n e.t).2,anE 0,[],[]⟩)
 else if e.k==3 then ((vL r e.n e.t).1,⟨(vL r e.n e.t).2,anE 0,[],[]⟩)
 else if e.k==4 then (r,⟨(LZ r e.n e.t).2,anE 0,(LZ r e.n e.t).1,[]⟩)
 else if e.k==5 then (if (LZ r e.t e.m).2==0 then ((fY r e.n (LZ r e.t e.m).1).1,⟨(fY r e.n (LZ r e.t e.m).1).2,anE 0,[],[]⟩) else (r,⟨(LZ r e.t e.m).2,anE 0,[],[]⟩))
 else if e.k==6 then ((gM r e.n e.t e.m).1,⟨(gM r e.n e.t e.m).2.2,anE 0,[],(gM r e.n e.t e.m).2.1⟩)
 else if e.k==7 then ((eP r e.n e.t).1,⟨(eP r e.n e.t).2.2,anE 0,[],(eP r e.n e.t).2.1⟩)
 else if e.k==8 then ((vE r e.n).1,⟨(vE r e.n).2,anE 0,[],[]⟩)
 else (r,rw0)
def PR(d:Dr)(e:Ev):Dr × Rw :=
 if e.k==1 then ((doD d e.n e.c).1,⟨(doD d e.n e.c).2.e,(doD d e.n e.c).2,[],[]⟩)
 else if e.k==2 then ((iM d e.n e.t).1,⟨(iM d e.n e.t).2,anE 0,[],[]⟩)
 else if e.k==3 then ((TY d e.n e.t).1,⟨(TY d e.n e.t).2,anE 0,[],[]⟩)
 else if e.k==4 then (d,⟨(DD d e.n e.t).2,anE 0,(DD d e.n e.t).1,[]⟩)
 else if e.k==5 then (if (DD d e.t e.m).2==0 then ((wF d e.n (DD d e.t e.m).1).1,⟨(wF d e.n (DD d e.t e.m).1).2,anE 0,[],[]⟩) else (d,⟨(DD d e.t e.m).2,anE 0,[],[]⟩))
 else if e.k==6 then ((wO d e.n e.t e.m).1,⟨(wO d e.n e.t e.m).2.2,anE 0,[],(wO d e.n e.t e.m).2.1⟩)
 else if e.k==7 then ((nV d e.n e.t).1,⟨(nV d e.n e.t).2.2,anE 0,[],(nV d e.n e.t).2.1⟩)
 else if e.k==8 then ((TN d e.n).1,⟨(TN d e.n).2,anE 0,[],[]⟩)
 else (d,rw0)
theorem zAs{d:Dr}(h:OkW d)(a b:List UInt8):∀x∈(DD d a b).1,x.n.t<18446744073709551616:=by
 have ha:=CL h a;have hb:=CL h b;unfold DD;split
 .intro x hx;cases hx
 .split
  .intro x hx;cases hx
  .exact zCX ha hb
theorem YZ{r:Rm}{d:Dr}(h:Sim r d){e:Ev}(he:OkEv e):(kR r e).2=(PR d e).2/\Sim (kR r e).1 (PR d e).1:=by
 unfold kR PR;split
 .obtain⟨h1,h2⟩:=zKg h e.n he.c.t;exact⟨by rw[h1],h2⟩
 split
 .obtain⟨h1,h2⟩:=EL h e.n e.t;exact⟨by rw[h1],h2⟩
 split
 .obtain⟨h1,h2⟩:=zIq h e.n e.t;exact⟨by rw[h1],h2⟩
 split
 .exact⟨by rw[XU h.toSimW],h⟩
 split
 .rw[XU h.toSimW];split
  .obtain⟨h1,h2⟩:=zCl h e.n (zAs h.toOkW e.t e.m);exact⟨by rw[h1],h2⟩
  .exact⟨rfl,h⟩
 split
 .obtain⟨h1,h2⟩:=zEW h e.n e.t e.m;exact⟨by rw[h1],h2⟩
 split
 .obtain⟨h1,h2⟩:=zBt h e.n e.t;exact⟨by rw[h1],h2⟩
 split
 .obtain⟨h1,h2⟩:=zHx h e.n;exact⟨by rw[h1],h2⟩
 .exact⟨rfl,h⟩
def ED(l:List (Ly × List It)):List (List PV):=l.map λy=>[.i .i64 y.1.i,.i .i64 y.1.p,.i .i64 y.1.s,.b y.1.f,.sl 5 (aQ y.2)]
theorem zHG(l:List (Ly × List It)):(ED l).length=l.length:=by simp[ED]
theorem zHH:ED []=[]:=rfl
theorem zHI(l:List (Ly × List It)):(∀x∈ED l,x.length=5)=True:=eq_true λx hx=>by
 obtain⟨y,_,rfl⟩:=List.mem_map.1 hx;rfl
theorem zDp(a:List (Ly × List It))(n:Nat):(ED a).take n=ED (a.take n):=by simp[ED]
theorem zDn(a:List (Ly × List It))(n:Nat):(ED a).drop n=ED (a.drop n):=by simp[ED]
theorem zHF(a b:List (Ly × List It)):ED a++ED b=ED (a++b):=by simp[ED]
theorem zDo(l:List (Ly × List It))(i p s:Int)(f:Bool)(t:List It):ED l++[[.i .i64 i,.i .i64 p,.i .i64 s,.b f,.sl 5 (aQ t)]]=ED (l++[(⟨i,p,s,f⟩,t)]):=by simp[ED]
theorem zHJ(l:List (Ly × List It))(k:Nat)(i p s:Int)(f:Bool)(t:List It):(ED l).set k [.i .i64 i,.i .i64 p,.i .i64 s,.b f,.sl 5 (aQ t)]=ED (l.set k (⟨i,p,s,f⟩,t)):=by simp[ED,List.map_set]
attribute [go_sem] zHG zHH zHI zDp zDn zHF zDo zHJ
structure RW where
 k:Int
 a:Int
 b:Int
 c:Int
 n:Int
 r:RC
 m:List UInt8
def RW.cs(x:RW):List PV:=[.i .i64 x.k,.i .i64 x.a,.i .i64 x.b,.i .i64 x.c,.i .i64 x.n,.i .i64 x.r.k,.i .i64 x.r.p,.i .i64 x.r.to',.i .i64 x.r.m,.i .i64 x.r.t,.i .i64 x.r.at',.i .i64 x.r.n,.i .i64 x.r.how,.f x.r.x,.sl 1 (bJ x.r.d),.s x.r.s,.sl 1 (bJ x.m)]
def zS(l:List RW):List (List PV):=l.map RW.cs
theorem zDQ(l:List RW):(zS l).length=l.length:=by simp[zS]
attribute [go_sem] zDQ
theorem zH9{t:List RW}{k:Nat}{x:RW}(h:t[k]?=some x):(zS t).getD k []=[.i .i64 x.k,.i .i64 x.a,.i .i64 x.b,.i .i64 x.c,.i .i64 x.n,.i .i64 x.r.k,.i .i64 x.r.p,.i .i64 x.r.to',.i .i64 x.r.m,.i .i64 x.r.t,.i .i64 x.r.at',.i .i64 x.r.n,.i .i64 x.r.how,.f x.r.x,.sl 1 (bJ x.r.d),.s x.r.s,.sl 1 (bJ x.m)]:=by
 simp only[zS,List.getD_eq_getElem?_getD,List.getElem?_map,h];rfl
def zM5(x:RW):Prop:=(x.r.d.length<=9223372036854775807/\x.r.s.length<=9223372036854775807/\x.r.x<18446744073709551616)/\x.m.length<=9223372036854775807
end Go.Dm
end
section
namespace Go.Proofs.YtlbfnbldeefgmaaGreatDoor
open Go Go.ChangeShapes Go.Dm Go.RowKit Go.WideShapes
section
theorem zPF{g:Nat}{xs:List PV}(h:qU tab (g+1+1+1+1) 63 xs):∃r:RW,xs=r.cs/\zM5 r:=by
 obtain⟨parts,rfl,hp⟩:=BK (by rw[tab63]) h;obtain⟨a1,_,rfl,h1,hp⟩:=dP hp;obtain⟨a2,_,rfl,h2,hp⟩:=dP hp;obtain⟨a3,_,rfl,h3,hp⟩:=dP hp;obtain⟨a4,_,rfl,h4,hp⟩:=dP hp;obtain⟨a5,_,rfl,h5,hp⟩:=dP hp;obtain⟨a6,_,rfl,h6,hp⟩:=dP hp;obtain⟨a7,_,rfl,h7,hp⟩:=dP hp;obtain rfl:=zFF hp;obtain⟨n1,rfl⟩:=mS h1;obtain⟨n2,rfl⟩:=mS h2;obtain⟨n3,rfl⟩:=mS h3;obtain⟨n4,rfl⟩:=mS h4;obtain⟨n5,rfl⟩:=mS h5;obtain⟨r,rfl,hr⟩:=zPE h6;obtain⟨m,rfl,hm⟩:=ZB h7;exact⟨⟨n1,n2,n3,n4,n5,r,m⟩,rfl,hr,hm⟩
theorem zMg{g:Nat}{xs:List PV}(h:qU tab (g+1+1+1+1+1) 47 xs):∃l:List RW,xs=[.sl 17 (zS l)]/\l.length<=9223372036854775807/\∀r∈l,zM5 r:=by
 unfold qU at h;rw[tab47] at h;simp only[tab63] at h;obtain⟨es,h,h2,h3⟩:=h;obtain⟨l,rfl,hl⟩:=zEN (f:=RW.cs) (B:=zM5) λx hx=>zPF (h2 x hx);exact⟨l,h,by simp at h3;omega,hl⟩
section
variable {H:Type}{enc:TypeId × Value->H}{W:World}{base:Nat}{v:Value}{d:DataW H}{p:List MemPlace}
theorem zG2(hv:Value.okWide Tryz.prog W .any base 47 v)(h:DataW.Trod enc Tryz.prog W 0 (λ_=>true) true 47 v d p):
  ∃l:List RW,(l.length<=9223372036854775807/\∀r∈l,zM5 r)/\bA (fS W) (.c (.p (.sl 17 (zS l)))) v:=by
 obtain⟨xs,hx,hr⟩:=zG1 aD 5 (by kernel_rfl) hv h;obtain⟨l,rfl,hl⟩:=zMg hx;exact⟨l,hl,hr⟩
end
end
theorem zJp {W:World} {l:List (String × DataW Unit)} (h:laidMetH Tryz.prog l W.memory) (hn:(l.all λx=>x.2.handleName?.isNone)=true) (hm:("pentimento/pentimentohand.kinds",(Rows.laid_pentimento_pentimentohand_kinds:DataW Unit))∈l) (hm2:("pentimento/pentimentoplay.names",(Rows.laid_pentimento_pentimentoplay_names:DataW Unit))∈l):zKT W:=by
 rw[Go.MakeChecks.laidMetH_plain _ _ _ hn] at h;intro g j v hj
 match g,hj with
 | 0,hj =>
  simp only[said,List.getElem?_map,Option.map_eq_some_iff] at hj;obtain⟨n,hn,rfl⟩:=hj;exact zEB h hm (vs:=zFZ) rfl (by kernel_rfl) (by kernel_rfl) Tryz.underlying113 Tryz.underlying3 (by kernel_rfl) j n hn
 | 1,hj =>
  simp only[said,List.getElem?_map,Option.map_eq_some_iff] at hj;obtain⟨n,hn,rfl⟩:=hj;exact zEC h hm2 (vs:=ZI) rfl (by kernel_rfl) (by kernel_rfl) Tryz.underlying200 Tryz.underlying9 (by kernel_rfl) j n hn
 | g+2,hj=>simp[said] at hj
end Go.Proofs.YtlbfnbldeefgmaaGreatDoor
end
section
namespace Go.Proofs.YtlbfnbldeefgmaaGreatDoor
open Go Go.Dm Go.Proofs.Tryz
theorem AV(a b:Nat):((a:Int)==(b:Int))=(a==b):=by
 rw[Bool.eq_iff_iff];simp only[beq_iff_eq];omega
theorem zEr(x:Nat):aA prog 291 [.c (.p (.f x))] [] λd h=>d=.c (.p (.b (isNaN x)))/\h=[]:=by
 refine eT func291 λX0 hX=>?_;simp only[f291,go_sem]
 repeat' (first|exact⟨⟩|refine sp ?_)
 all_goals ((simp_all[isNaN];done))
theorem DU(x:Nat):aA prog 194 [.c (.p (.f x))] [] λd h=>d=.c (.p (.i .u64 x))/\h=[]:=by
 intro X vals hh hi _ hr
 match vals,hr with
 | [v],⟨h1,_⟩ =>
  simp only[bA,bV,dF] at h1;subst h1;refine .inr ⟨.int .u64 x,X.w,?_,_,X,rfl,hi,Step.refl hi,qZ (x:=.p (.i .u64 x)) rfl,rfl,hh⟩;kernel_rfl
theorem kE(z:Int)(hz:0<=z):aA prog 113 [.c (.p (.i .u64 z))] [] λd h=>d=.c (.p (.f z.toNat))/\h=[]:=by
 intro X vals hh hi _ hr
 match vals,hr with
 | [v],⟨h1,_⟩ =>
  simp only[bA,bV,dF] at h1;obtain⟨n,rfl⟩:=Int.eq_ofNat_of_zero_le hz;subst h1;refine .inr ⟨.float .f64 n,X.w,?_,_,X,rfl,hi,Step.refl hi,qZ (x:=.p (.f n)) rfl,rfl,hh⟩;kernel_rfl
theorem zF9(x:Nat):aA prog 356 [.c (.p (.f x))] [] λd h=>d=.c (.p (.b (zA6 x)))/\h=[]:=by
 refine eT func356 λX0 hX=>?_;simp only[f356,go_sem]
 repeat' (first|exact⟨⟩|refine sp ?_|refine uF (DU _) ?_)
 all_goals ((simp_all[zA6];done))
theorem zMp(x:Nat):aA prog 300 [.c (.p (.f x))] [] λd h=>d=.tup [.c (.p (.i .i64 (lT x).1)),.c (.p (.i .i64 (lT x).2))]/\h=[]:=by
 refine eT func300 λX0 hX=>?_;simp only[f300,go_sem]
 repeat' (first|exact⟨⟩|refine sp ?_|refine uF (zEr _) ?_|refine uF (zF9 _) ?_|with_reducible refine aK (λ_=>?_) (λ_=>?_)|with_reducible refine bM (λ_=>?_) (λ_=>?_))
 all_goals ((simp_all[lT];done))
theorem zJ6(x:Nat):aA prog 200 [.c (.p (.f x))] [] λd h=>d=.c (.p (.i .u64 (dC x)))/\h=[]:=by
 refine eT func200 λX0 hX=>?_;simp only[f200,go_sem]
 repeat' (first|exact⟨⟩|refine sp ?_|refine uF (DU _) ?_|with_reducible refine aK (λ_=>?_) (λ_=>?_))
 all_goals ((simp_all[dC,isNaN,GK];done))
theorem zKS(x:Nat):aA prog 195 [.c (.p (.f x))] [] λd h=>d=.c (.p (.f (dC x)))/\h=[]:=by
 refine eT func195 λX0 hX=>?_;simp only[Tryz.f195,go_sem]
 repeat' (first|exact⟨⟩|refine sp ?_|refine uF (zJ6 _) ?_|refine uF (kE _ (by omega)) ?_)
 all_goals (first|(with_reducible rfl)|(simp_all[];done)|(simp_all[];omega)|(simp_all[];(repeat' split)<;>omega))
theorem SI(x:Nat):aA prog 114 [.c (.p (.f x))] [] λd h=>d=.c (.p (.f (dC x)))/\h=[]:=by
 refine eT func114 λX0 hX=>?_;simp only[f114,go_sem]
 repeat' (first|exact⟨⟩|refine sp ?_|refine uF (zKS _) ?_)
 all_goals (first|(with_reducible rfl)|(simp_all[];done)|(simp_all[];omega)|(simp_all[];(repeat' split)<;>omega))
theorem zBu(x y:Nat):aA prog 121 [.c (.p (.f x)),.c (.p (.f y))] [] λd h=>d=.c (.p (.b (dC x==dC y)))/\h=[]:=by
 refine eT func121 λX0 hX=>?_;simp only[f121,go_sem]
 repeat' (first|exact⟨⟩|refine sp ?_|refine uF (zJ6 _) ?_)
 all_goals ((simp_all[AV];done))
theorem zAU(x:Int):aA prog 357 [.c (.p (.i .i64 x))] [] λd h=>d=.c (.p (.b false))/\h=[]:=by
 refine eT Tryz.func357 λX0 hX=>?_;simp only[f357,go_sem]
 repeat' (first|exact⟨⟩|refine sp ?_)
 all_goals (first|(with_reducible rfl)|(simp_all[];done)|(simp_all[];omega)|(simp_all[];(repeat' split)<;>omega))
theorem zAT(x:Nat):aA prog 358 [.c (.p (.f x))] [] λd h=>d=.c (.p (.b (isNaN x)))/\h=[]:=by
 refine eT func358 λX0 hX=>?_;simp only[f358,go_sem]
 repeat' (first|exact⟨⟩|refine sp ?_)
 all_goals ((simp_all[isNaN];done))
theorem XP(a b:Int):aA prog 301 [.c (.p (.i .i64 a)),.c (.p (.i .i64 b))] [] λd h=>d=.c (.p (.i .i64 (LI a b)))/\h=[]:=by
 refine eT func301 λX0 hX=>?_;simp only[f301,go_sem]
 repeat' (first|exact⟨⟩|refine sp ?_|refine uF (zAU _) ?_|with_reducible refine aK (λ_=>?_) (λ_=>?_))
 all_goals (first|(simp_all[LI];done)|(simp_all[LI];omega))
theorem zHa(a b:Nat):aA prog 303 [.c (.p (.f a)),.c (.p (.f b))] [] λd h=>d=.c (.p (.i .i64 (zM7 a b)))/\h=[]:=by
 refine eT func303 λX0 hX=>?_;simp only[f303,go_sem]
 repeat' (first|exact⟨⟩|refine sp ?_|refine uF (zAT _) ?_|with_reducible refine aK (λ_=>?_) (λ_=>?_))
 all_goals ((simp_all[zM7];done))
theorem zAm:aA prog 110 [.c (.p (.f 0)),.c (.p (.f 13830554455654793216))] [] λd h=>d=.c (.p (.f 9223372036854775808))/\h=[]:=by
 have e:Dm.bits .or .u64 (Dm.bits .andNot .u64 0 9223372036854775808) (Dm.bits .and .u64 13830554455654793216 9223372036854775808)=9223372036854775808:=by kernel_rfl
 refine eT func110 λX0 hX=>?_;simp only[f110,go_sem]
 repeat' (first|exact⟨⟩|refine sp ?_|refine uF (DU _) ?_|refine uF (kE _ (by omega)) ?_)
 all_goals (first|(with_reducible rfl)|(simp_all[];done)|(simp_all[];omega)|(simp_all[];(repeat' split)<;>omega))
theorem zPt(n:Int):aA prog 111 [.c (.p (.i .i64 n))] [] λd h=>d=.c (.p (.f (if 0<=n then 9218868437227405312 else 18442240474082181120)))/\h=[]:=by
 refine eT func111 λX0 hX=>?_;simp only[f111,go_sem]
 repeat' (first|exact⟨⟩|refine sp ?_|refine uF (kE _ (by omega)) ?_|with_reducible refine aK (λ_=>?_) (λ_=>?_))
 all_goals ((simp_all[];done))
theorem zPg:aA prog 112 [] [] λd h=>d=.c (.p (.f GK))/\h=[]:=by
 refine eT func112 λX0 hX=>?_;simp only[f112,go_sem]
 repeat' (first|exact⟨⟩|refine sp ?_|refine uF (kE _ (by omega)) ?_)
 all_goals ((simp_all[GK];done))
theorem dD(x:Nat):aA prog 239 [.c (.p (.f x))] [] λd h=>d=.c (.p (.f (dC x)))/\h=[]:=by
 refine eT func239 λX0 hX=>?_;simp only[f239,go_sem]
 repeat' (first|exact⟨⟩|refine sp ?_|refine uF (zEr _) ?_|refine uF (kE _ (by omega)) ?_|with_reducible refine aK (λ_=>?_) (λ_=>?_))
 all_goals ((simp_all[dC,GK];done))
theorem zP6(a b:Int):aA prog 302 [.c (.p (.sl 1 [[.i .i64 a],[.i .i64 b]]))] [] λd h=>d=.c (.p (.i .i64 (if a==0 then b else a)))/\h=[]:=by
 refine eT func302 λX0 hX=>?_;simp only[f302,go_sem]
 repeat' (first|exact⟨⟩|refine sp ?_)
 refine dY aD aL 3 ?_
 repeat' (first|exact⟨⟩|refine sp ?_|with_reducible refine aK (λ_=>?_) (λ_=>?_))
 all_goals ((simp_all[];done))
theorem wP(a b:Nat):aA prog 249 [.c (.p (.f a)),.c (.p (.f b))] [] λd h=>d=.c (.p (.i .i64 (oE a b)))/\h=[]:=by
 refine eT func249 λX0 hX=>?_;simp only[f249,go_sem]
 repeat' (first|exact⟨⟩|refine sp ?_|refine uF (zMp _) ?_|refine uF (XP _ _) ?_|refine uF (zHa _ _) ?_|refine uF (zP6 _ _) ?_|with_reducible refine aK (λ_=>?_) (λ_=>?_)|((with_reducible apply aA.frz);exact rfl;exact rfl)|((with_reducible refine And.intro ?_ ?_);decide))
 all_goals (first|(simp_all[oE];done)|(simp_all[oE];omega))
theorem PC(a b:Nat):aA prog 188 [.c (.p (.f a)),.c (.p (.f b))] [] λd h=>d=.c (.p (.b (oE a b==0)))/\h=[]:=by
 refine eT func188 λX0 hX=>?_;simp only[f188,go_sem]
 repeat' (first|exact⟨⟩|refine sp ?_|refine uF (wP _ _) ?_)
 all_goals (first|(with_reducible rfl)|(simp_all[];done)|(simp_all[];omega)|(simp_all[];(repeat' split)<;>omega))
theorem zBb(a b:Nat):aA prog 379 [.c (.p (.f a)),.c (.p (.f b))] [] λd h=>d=.c (.p (.f (wN a b)))/\h=[]:=by
 refine eT func379 λX0 hX=>?_;simp only[f379,go_sem]
 repeat' (first|exact⟨⟩|refine sp ?_|refine uF (wP _ _) ?_|refine uF (dD _) ?_|with_reducible refine aK (λ_=>?_) (λ_=>?_))
 all_goals (first|(simp_all[wN];done)|(simp_all[wN];omega))
theorem jA{a b:List UInt8}:aA prog 189 [.c (.p (.sl 1 (bJ a))),.c (.p (.sl 1 (bJ b)))] [] λd h=>d=.c (.p (.b (a==b)))/\h=[]:=by
 refine eT func189 λX0 hX=>?_;simp only[f189,go_sem]
 repeat' (first|exact⟨⟩|refine sp ?_)
 all_goals (first|(with_reducible rfl)|(simp_all[];done)|(simp_all[];omega)|(simp_all[];(repeat' split)<;>omega))
theorem yY{a:List UInt8}(ha:a.length<=140737488355328):aA prog 177 [.c (.p (.sl 1 (bJ a)))] [] λd h=>d=.c (.p (.sl 1 (bJ a)))/\h=[]:=by
 refine aI ?_;refine eT func177 λX0 hX=>?_;simp only[f177,go_sem];cases a with
 | nil =>
  repeat' (first|exact⟨⟩|refine sp ?_)
  simp[List.range_succ]
 | cons x l =>
  repeat' (first|exact⟨⟩|refine sp ?_|((with_reducible refine And.intro ?_ ?_);decide))
  simp only[List.length_cons] at ha;exact⟨by omega,by omega⟩
theorem qI{k m k' m':Int}{t t':Nat}{d d':List UInt8}:aA prog 107 [.agg (ndc k m t d),.agg (ndc k' m' t' d')] [] λr h=>r=.c (.p (.b (pF ⟨k,m,t,d⟩ ⟨k',m',t',d'⟩)))/\h=[]:=by
 refine eT func107 λX0 hX=>?_;simp only[f107,go_sem]
 repeat' (first|exact⟨⟩|refine sp ?_|refine uF (PC _ _) ?_|refine uF (jA) ?_|with_reducible refine bM (λ_=>?_) (λ_=>?_))
 all_goals ((simp_all[pF];done))
theorem zBQ{k m k' m':Int}{t t':Nat}{d d':List UInt8}:aA prog 63 [.agg (ndc k m t d),.agg (ndc k' m' t' d')] [] λr h=>r=.c (.p (.b (lC ⟨k,m,t,d⟩ ⟨k',m',t',d'⟩)))/\h=[]:=by
 refine eT func63 λX0 hX=>?_;simp only[f63,go_sem]
 repeat' (first|exact⟨⟩|refine sp ?_|refine uF (zBu _ _) ?_|with_reducible refine bM (λ_=>?_) (λ_=>?_))
 all_goals ((simp_all[lC];done))
theorem qW{k m:Int}{t:Nat}{d:List UInt8}(hd:d.length<=140737488355328):aA prog 143 [.agg (ndc k m t d)] [] λr h=>r=.agg (ndc k m t d)/\h=[]:=by
 refine eT func143 λX0 hX=>?_;simp only[Tryz.f143,go_sem]
 repeat' (first|exact⟨⟩|refine sp ?_|refine uN (yY hd) ?_)
 all_goals (first|(with_reducible rfl)|(simp_all[];done)|(simp_all[];omega)|(simp_all[];(repeat' split)<;>omega))
theorem zOV{k m k' m':Int}{t t':Nat}{d d':List UInt8}:aA prog 378 [.agg (ndc k m t d),.agg (ndc k' m' t' d')] [] λr h=>r=.c (.p (.b (zGG ⟨k,m,t,d⟩ ⟨k',m',t',d'⟩)))/\h=[]:=by
 refine eT func378 λX0 hX=>?_;simp only[f378,go_sem]
 repeat' (first|exact⟨⟩|refine sp ?_|refine uF (jA) ?_|with_reducible refine bM (λ_=>?_) (λ_=>?_))
 all_goals ((simp_all[zGG];done))
end Go.Proofs.YtlbfnbldeefgmaaGreatDoor
end
