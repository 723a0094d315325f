/- Part 21 of the proof of roomStays_card, set without needless blanks. No condition. -/
import Derived.Test.YtlbfnbldeefgmaaGreatDoorT19
set_option linter.all false
set_option maxRecDepth 100000
set_option maxHeartbeats 16000000
section
namespace Go.Dm
open Go
section
variable {r:Rm}{d:Dr}{id p q:Int}{y:Ly × List It}{s:List UInt8}{t:List It}
theorem mW(h:SimW r d){N:List Nm}(hs:wZ N)(hn:∀n∈N,aZ n.n=true/\∃y∈d.L,y.1.i=n.l)
 (h1:∀n∈N,∀m∈N,n.l=m.l->(∀y∈d.L,y.1.i=n.l->y.1.f=false)->n=m)(hl:N.length<=20):SimW ⟨N,r.L,r.E,r.x⟩ ⟨d.L,N,d.x⟩ :=
 { g:=h.g,t:=h.t,srt:=hs,nm:=hn,one:=h1,nx:=h.nx,ln:=hl,N:=rfl,L:=h.L,x:=h.x,e:=h.e }
theorem qD: ∀{l:List (Ly × List It)},pV (l.map (·.1))->vM id l=l.map λy=>(zX id y.1,y.2)
 | [],_=>rfl
 | y::l,h=>by
  have h2:=List.pairwise_cons.1 h;simp only[vM,List.map_cons];split
  .rename_i hy;have hy:=eq_of_beq hy;have e1:zX id y.1=⟨y.1.i,y.1.p,y.1.s,true⟩:=by unfold zX;rw[show (y.1.i==id)=true by simpa using hy,Bool.or_true]
   rw[e1]
   congr 1
   have key:∀z∈l,(zX id z.1,z.2)=z:=λz hz=>by
    have:y.1.i<z.1.i:=h2.1 z.1 (List.mem_map.2 ⟨z,hz,rfl⟩);unfold zX;rw[show (z.1.i==id)=false by simp;omega,Bool.or_false]
   exact((List.map_congr_left key).trans (List.map_id' l)).symm
  .rename_i hy;have e1:zX id y.1=y.1:=by unfold zX;rw[show (y.1.i==id)=false by simpa using hy,Bool.or_false]
   rw[e1,qD h2.2]
def zKj(d:Dr)(id:Int):Dr:=⟨vM id d.L,d.N,d.x⟩
theorem zAL(hi:pV d.G)(id:Int):(zKj d id).G=oC d.G id:=by
 show (vM id d.L).map (·.1)=_
 rw[qD hi];unfold oC Dr.G;rw[List.map_map,List.map_map];rfl
theorem xV(hi:pV d.G)(h:y∈(zKj d id).L):∃z∈d.L,y=(zX id z.1,z.2):=by
 have h:y∈vM id d.L:=h;rw[qD hi] at h;obtain⟨z,h1,h2⟩:=List.mem_map.1 h;exact⟨z,h1,h2.symm⟩
theorem eU(hi:pV d.G){z:Ly × List It}(h:z∈d.L):(zX id z.1,z.2)∈(zKj d id).L:=by
 show _∈vM id d.L;rw[qD hi];exact List.mem_map.2 ⟨z,h,rfl⟩
theorem xW(h:OkW d)(id a:Int):bU (zKj d id) a=bU d a:=by
 have hi:pV (zKj d id).G:=by rw[zAL h.g.inc];exact(zKl h.g id).inc
 cases hl:qY d a with
 | none =>
  have hno:=JE hl;rw[lV hno,lV λy hy=>?_];obtain⟨z,h1,rfl⟩:=xV h.g.inc hy;exact hno z h1
 | some y =>
  obtain⟨h1,rfl⟩:=nO hl;rw[iX h.g.inc h1];exact iX hi (y:=(zX id y.1,y.2)) (eU h.g.inc (id:=id) h1)
theorem sF(h:SimW r d)(id:Int):SimW ⟨r.N,oC r.L id,r.E,r.x⟩ (zKj d id):=by
 refine { g:=by rw[zAL h.g.inc];exact zKl h.g id,t:=λy hy=>?_,srt:=h.srt,nm:=λn hn=>?_,one:=λn hn m hm e hf=>?_,nx:=⟨λy hy=>?_,h.nx.2⟩,ln:=h.ln,N:=h.N,L:=by rw[zAL h.g.inc,<- h.L],x:=h.x,e:=λy hy=>?_ }
 .obtain⟨z,h1,rfl⟩:=xV h.g.inc hy;exact h.t z h1
 .obtain⟨h1,y,h2,h3⟩:=h.nm n hn;exact⟨h1,_,eU h.g.inc (id:=id) h2,h3⟩
 .refine h.one n hn m hm e λy h2 h3=>?_;have:=hf _ (eU h.g.inc (id:=id) h2) h3;simp only[zX,Bool.or_eq_false_iff] at this;exact this.1
 .obtain⟨z,h1,rfl⟩:=xV h.g.inc hy;exact h.nx.1 z h1
 .obtain⟨z,h1,rfl⟩:=xV h.g.inc hy;show lH r.E z.1.i=eG (bU (zKj d id) z.1.p) z.2;rw[xW h.toOkW];exact h.e z h1
def gN(d:Dr)(s:List UInt8)(p q:Int)(t:List It):Dr:=⟨d.L++[(⟨d.x,p,q,false⟩,t)],bL d.N s d.x,d.x+1⟩
theorem tJ(d:Dr)(s:List UInt8)(p q:Int)(t:List It):DG d s p q t=oY (gN d s p q t):=rfl
theorem YR(d:Dr)(s:List UInt8)(p q:Int)(t:List It):(gN d s p q t).G=d.G++[⟨d.x,p,q,false⟩]:=by
 unfold gN Dr.G;rw[List.map_append];rfl
def uU(d:Dr)(p:Int):Prop:=∃y∈d.L,y.1.i=p/\y.1.f=true
theorem wC(h:uU d p):fD d.G d.G.length p:=by
 obtain⟨y,h1,h2,h3⟩:=h;obtain⟨k,hk⟩:=List.mem_iff_getElem?.1 (oK h1);exact .inr ⟨k,y.1,(List.getElem?_eq_some_iff.1 hk).1,hk,h2,h3⟩
theorem AO(h:OkW d)(hi:pV (gN d s p q t).G)(a:Int)(ha:a≠d.x):bU (gN d s p q t) a=bU d a:=by
 cases hl:qY d a with
 | none =>
  have hno:=JE hl;rw[lV hno,lV λy hy=>?_];rcases List.mem_append.1 (show y∈d.L++[_] from hy) with h1|h1
  .exact hno y h1
  .rw[List.mem_singleton] at h1;subst h1;exactλe=>ha e.symm
 | some y =>
  obtain⟨h1,rfl⟩:=nO hl;rw[iX h.g.inc h1];exact iX hi (show y∈d.L++[_] from List.mem_append_left _ h1)
theorem CC(h:SimW r d)(hs:aZ s=true)(hp:uU d p)(hq:q=0∨(p≠q/\uU d q))(hc:(bN d.G p).length<=11)(ht:OkT t)
 (hx:d.x<2147483647)(hn:(bL d.N s d.x).length<=20):SimW ⟨bL r.N s r.x,r.L++[⟨r.x,p,q,false⟩],oI r.E r.x (eG (bU d p) t),r.x+1⟩ (gN d s p q t):=by
 have hz:∀x∈d.G,x.i<d.x:=λx hx=>by
  obtain⟨y,hy,rfl⟩:=JJ.1 hx;exact h.nx.1 y hy
 have hp1:1<=p/\p<d.x:=by
  obtain⟨y,h1,rfl,_⟩:=hp;exact⟨h.g.lo1 _ (oK h1),h.nx.1 y h1⟩
 have hg:OkG (gN d s p q t).G:=by
  rw[YR];refine zEh h.g hz ⟨h.nx.2.1,by have:=h.nx.2.2;simp only;omega⟩ (wC hp) ?_ (λh0=>?_) hc
  .rcases hq with rfl|⟨_,hq⟩
   .exact .inl rfl
   .exact wC hq
  .rcases hq with rfl|⟨hq,_⟩
   .exact absurd rfl h0
   .exact⟨by show p≠0;omega,hq⟩
 have hmem:∀y,y∈(gN d s p q t).L↔y∈d.L∨y=(⟨d.x,p,q,false⟩,t):=λy=>by
  show y∈d.L++[_]↔_;rw[List.mem_append,List.mem_singleton]
 have hN:∀n,n∈(gN d s p q t).N↔n=⟨s,d.x⟩∨(n∈d.N/\n.n≠s):=λn=>jB h.srt;have old:∀n∈d.N,n.l≠d.x:=λn hn e=>by
  obtain⟨y,_,h1,h2⟩:=h.toOkW.named hn;have:=h.nx.1 y h1;omega
 refine { g:=hg,t:=λy hy=>?_,srt:=jC h.srt s d.x,nm:=λn hnn=>?_,one:=λn hnn m hmm e hf=>?_,nx:=⟨λy hy=>?_,by show 1<=d.x+1;have:=h.nx.2.1;omega,by show d.x+1<=2147483647;omega⟩,ln:=hn,N:=by show bL r.N s r.x=bL d.N s d.x;rw[h.N,h.x],L:=by rw[YR,<- h.L,<- h.x],x:=by show r.x+1=d.x+1;rw[h.x],e:=λy hy=>?_ }
 .rcases (hmem y).1 hy with h1|rfl
  .exact h.t y h1
  .exact ht
 .rcases (hN n).1 hnn with rfl|⟨h1,_⟩
  .exact⟨hs,_,(hmem _).2 (.inr rfl),rfl⟩
  .obtain⟨h2,y,h3,h4⟩:=h.nm n h1;exact⟨h2,y,(hmem y).2 (.inl h3),h4⟩
 .rcases (hN n).1 hnn with rfl|⟨h1,h2⟩<;>rcases (hN m).1 hmm with rfl|⟨h3,h4⟩
  .rfl
  .exact absurd e.symm (old m h3)
  .exact absurd e (old n h1)
  .exact h.one n h1 m h3 e λy h5 h6=>hf y ((hmem y).2 (.inl h5)) h6
 .show y.1.i<d.x+1;rcases (hmem y).1 hy with h1|rfl
  .have:=h.nx.1 y h1;omega
  .simp only;omega
 .show lH (oI r.E r.x _) y.1.i=_;rcases (hmem y).1 hy with h1|rfl
  .have hlt:=h.nx.1 y h1;rw[qJ _ _ (by rw[h.x];omega),h.e y h1,AO h.toOkW hg.inc];rcases h.toOkW.below h1 with h2|⟨z,h2,h3,_⟩
   .rw[h2];have:=h.nx.2.1;omega
   .rw[<- h3];have:=h.nx.1 z h2;omega
  .rw[h.x];simp only;rw[tY,AO h.toOkW hg.inc p (by omega)]
def bR(r:Rm)(s:List UInt8):Ly × Int:=match fV r.N s with
 | some n=>((dR r.L n.l).getD ly0,0)
 | none=>(ly0,6)
def wsP(r:Rm)(s:List UInt8):Ly × Int:=if (bR r s).2==0 && (bR r s).1.f then (ly0,14) else bR r s
def snP(r:Rm)(s:List UInt8):Ly × Int:=if (bR r s).2==0 && !(bR r s).1.f then (ly0,13) else bR r s
def gR(r:Rm)(s:List UInt8):Int:=if !aZ s then 1 else if SC r.N s then 7 else if decide (20<=(r.N.length:Int)) || (decide (40<=(r.L.length:Int)) || decide (2147483647<=r.x)) then 16 else 0
def gX(r:Rm)(on:Int):Int:=if decide (12<=((bN r.L on).length:Int)) then 15 else 0
def DZ(r:Rm):Rm:=⟨r.N,kL r.L (mF r.N),DY (kL r.L (mF r.N)) r.E,r.x⟩
def zCd(r:Rm)(s:List UInt8)(p q:Int)(es:List En):Rm:=DZ ⟨bL r.N s r.x,r.L++[⟨r.x,p,q,false⟩],oI r.E r.x es,r.x+1⟩
def gK(r:Rm)(s sn:List UInt8):Rm × Int :=
 if !((wsP r s).2==0) then (r,(wsP r s).2) else if !(gR r sn==0) then (r,gR r sn) else if !(gX r (wsP r s).1.i==0) then (r,gX r (wsP r s).1.i)
 else (zCd ⟨bL r.N sn (wsP r s).1.i,oC r.L (wsP r s).1.i,r.E,r.x⟩ s (wsP r s).1.i 0 [],0)
def vL(r:Rm)(sn s:List UInt8):Rm × Int :=
 if !((snP r sn).2==0) then (r,(snP r sn).2) else if !(gR r s==0) then (r,gR r s) else if !(gX r (snP r sn).1.i==0) then (r,gX r (snP r sn).1.i)
 else (zCd r s (snP r sn).1.i 0 [],0)
def vE(r:Rm)(s:List UInt8):Rm × Int:=if !SC r.N s then (r,6) else (DZ ⟨lI r.N s,r.L,r.E,r.x⟩,0)
theorem bY(h:SimW r d){n:Nm}(hn:fV d.N s=some n):∃y∈d.L,bR r s=(y.1,0)/\bQ d.N s=y.1.i/\qY d y.1.i=some y/\y.1.i=n.l/\(y.1.i==0)=false:=by
 obtain⟨h1,h2⟩:=cN hn;obtain⟨y,h3,h4,h5⟩:=h.toOkW.named h1;refine⟨y,h4,?_,by unfold bQ;rw[hn,h5],by rw[h5];exact h3,h5,?_⟩
 .unfold bR;rw[h.N,hn];show ((dR r.L n.l).getD ly0,(0:Int))=_;rw[h.L,zD6,h3];rfl
 .have:=h.g.lo1 _ (oK h4);simp only[beq_eq_false_iff_ne,ne_eq];omega
theorem bP(h:SimW r d)(hn:fV d.N s=none):bR r s=(ly0,6)/\(bQ d.N s==0)=true:=by
 refine⟨by unfold bR;rw[h.N,hn],?_⟩
 rw[h.toOkW.name0,hn];rfl
theorem dN(h:qY d y.1.i=some y):eM d y.1.i=y.1.f:=by unfold eM;rw[h]
theorem dB(h:qY d y.1.i=some y):bU d y.1.i=y.2:=by unfold bU;rw[h]
theorem qC(h:SimW r d)(s:List UInt8):gR r s=jS d s:=by
 unfold gR jS;rw[h.toOkW.name0,JP,h.N,h.L,h.x,show d.G.length=d.L.length by simp[Dr.G],Bool.not_not]
theorem jW(h:(jS d s==0)=true):aZ s=true/\bQ d.N s=0/\d.N.length<20/\d.L.length<40/\d.x<2147483647:=by
 unfold jS at h;split at h
 .cases h
 .rename_i h1;split at h
  .cases h
  .rename_i h2;split at h
   .cases h
   .rename_i h3;simp only[Bool.or_eq_true,decide_eq_true_eq,not_or,Bool.not_eq_true,Bool.not_eq_false',beq_iff_eq] at h1 h2 h3;exact⟨h1,h2,by omega,by omega,by omega⟩
theorem nG(h:SimW r d)(on:Int):(gX r on==0) = !qT d on:=by
 unfold gX qT;rw[h.L];by_cases hc:12<=(bN d.G on).length
 .rw[if_pos (by simp;omega),show decide (12<(((bN d.G on).length:Int)+1))=true by simp;omega];rfl
 .rw[if_neg (by simp;omega),show decide (12<(((bN d.G on).length:Int)+1))=false by simp;omega];rfl
theorem HH(r:Rm)(on:Int)(h:(gX r on==0)=false):gX r on=15:=by
 unfold gX at h ⊢;split at h
 .rename_i h1;rw[if_pos h1]
 .cases h
theorem iT{on:Int}(h:qT d on=false):(bN d.G on).length<=11:=by
 unfold qT at h;simp only[decide_eq_false_iff_not] at h;omega
theorem KL(h:SimW r d){es:List En}(hs:aZ s=true)(hp:uU d p)(hq:q=0∨(p≠q/\uU d q))(hc:(bN d.G p).length<=11)(ht:OkT t)
 (hx:d.x<2147483647)(hn:(bL d.N s d.x).length<=20)(he:es=eG (bU d p) t)(hl:(DG d s p q t).L.length<=40):Sim (zCd r s p q es) (DG d s p q t):=by
 subst he;exact ZN (CC h hs hp hq hc ht hx hn) hl
theorem xZ(d:Dr)(hi:pV d.G):(oY d).L.length<=d.L.length:=by
 show (zAW d).length<=_;rw[yB hi];exact List.length_filter_le _ _
theorem yE(h:OkW d)(s:List UInt8)(p q:Int)(t:List It):pV (gN d s p q t).G:=by
 rw [YR];exact HW h.g.inc λx hx=>by
  obtain⟨y,hy,rfl⟩:=JJ.1 hx;exact h.nx.1 y hy
theorem zIq(h:Sim r d)(sn s:List UInt8):(vL r sn s).2=(TY d sn s).2/\Sim (vL r sn s).1 (TY d sn s).1:=by
 unfold vL TY snP;cases hn:fV d.N sn with
 | none =>
  obtain⟨h1,h2⟩:=bP h.toSimW hn;rw[h1,h2];exact⟨rfl,h⟩
 | some n =>
  obtain⟨y,hy,h1,h2,h3,h4,h5⟩:=bY h.toSimW hn;rw[h1,h2,h5,dN h3,dB h3];cases hf:y.1.f
  .exact⟨rfl,h⟩
  .rw [show ((0:Int)==0 && !true)=false from rfl]
   simp only[Bool.false_eq_true,if_false,Bool.not_true];rw[show (!((0:Int)==0))=false from rfl]
   simp only[Bool.false_eq_true,if_false];rw[qC h.toSimW];cases hfr:(jS d s==0)
   .exact⟨rfl,h⟩
   .simp only[Bool.not_true,Bool.false_eq_true,if_false];rw[nG h.toSimW,Bool.not_not];cases hd:qT d y.1.i
    .simp only[Bool.false_eq_true,if_false,true_and];obtain⟨f1,f2,f3,f4,f5⟩:=jW hfr;refine KL h.toSimW f1 ⟨y,hy,rfl,hf⟩ (.inl rfl) (iT hd) (h.t y hy) f5 (by have:=fE d.N s d.x;omega) ?_ ?_
     .rw[dB h3,tO (h.t y hy)]
     .have:=xZ (gN d s y.1.i 0 y.2) (yE h.toOkW _ _ _ _);have e:(gN d s y.1.i 0 y.2).L.length=d.L.length+1:=by show (d.L++[_]).length=_;rw[List.length_append];rfl
      rw[tJ];omega
    .simp only[if_true];have:=HH r y.1.i (by rw[nG h.toSimW,hd];rfl);exact⟨this,h⟩
theorem zHx(h:Sim r d)(s:List UInt8):(vE r s).2=(TN d s).2/\Sim (vE r s).1 (TN d s).1:=by
 unfold vE TN;rw[h.toOkW.name0,JP,<- h.N];cases hn:SC r.N s
 .exact⟨rfl,h⟩
 .simp only[Bool.not_true,Bool.false_eq_true,if_false,true_and];have hw:=mW h.toSimW (N:=lI d.N s) (tC h.srt s) (λn hn=>h.nm n (iA.1 hn).1) (λn hn m hm=>h.one n (iA.1 hn).1 m (iA.1 hm).1) (Nat.le_trans (zP _ _) h.ln);have e:r.N=d.N:=h.N;rw[e];exact ZN hw (Nat.le_trans (xZ _ hw.g.inc) h.len)
theorem EL(h:Sim r d)(s sn:List UInt8):(gK r s sn).2=(iM d s sn).2/\Sim (gK r s sn).1 (iM d s sn).1:=by
 unfold gK iM wsP;cases hn:fV d.N s with
 | none =>
  obtain⟨h1,h2⟩:=bP h.toSimW hn;rw[h1,h2];exact⟨rfl,h⟩
 | some n =>
  obtain⟨y,hy,h1,h2,h3,h4,h5⟩:=bY h.toSimW hn;rw[h1,h2,h5,dN h3,dB h3];cases hf:y.1.f;rotate_left 1
  .exact⟨rfl,h⟩
  .rw [show ((0:Int)==0 && false)=false from rfl]
   simp only[Bool.false_eq_true,if_false];rw[show (!((0:Int)==0))=false from rfl]
   simp only[Bool.false_eq_true,if_false];rw[qC h.toSimW];cases hfr:(jS d sn==0)
   .exact⟨rfl,h⟩
   .simp only[Bool.not_true,Bool.false_eq_true,if_false];rw[nG h.toSimW,Bool.not_not];cases hd:qT d y.1.i
    .simp only[Bool.false_eq_true,if_false,true_and];obtain⟨f1,f2,f3,f4,f5⟩:=jW hfr;have hwf:=sF h.toSimW y.1.i;have hmem:∀n,n∈bL d.N sn y.1.i↔n=⟨sn,y.1.i⟩∨(n∈d.N/\n.n≠sn):=λn=>jB h.srt;have hwn:=mW hwf (N:=bL d.N sn y.1.i) (jC h.srt sn y.1.i) (λm hm=>?_) (λa ha b hb e hfz=>?_) (by have:=fE d.N sn y.1.i;omega)
     .have hcl:=fE d.N sn y.1.i;have hwn:SimW ⟨bL d.N sn y.1.i,oC r.L y.1.i,r.E,r.x⟩ ⟨vM y.1.i d.L,bL d.N sn y.1.i,d.x⟩:=hwn;have hsn:aZ s=true:=by
       obtain⟨g1,g2⟩:=cN hn;rw[<- g2];exact(h.nm n g1).1
      have hfa:uU ⟨vM y.1.i d.L,bL d.N sn y.1.i,d.x⟩ y.1.i:=⟨_,eU h.g.inc (id:=y.1.i) hy,rfl,by show (y.1.f || y.1.i==y.1.i)=true;simp⟩
      have hGeq:(⟨vM y.1.i d.L,bL d.N sn y.1.i,d.x⟩:Dr).G=oC d.G y.1.i:=zAL h.g.inc y.1.i;have hne:sn≠s:=λe=>by
       subst e;have:=h.toOkW.name0 sn;rw[f2,hn] at this;cases this
      have hin:(⟨n.n,n.l⟩:Nm)∈bL d.N sn y.1.i:=by
       obtain⟨g1,g2⟩:=cN hn;exact(hmem _).2 (.inr ⟨g1,by rw[g2];exactλe=>hne e.symm⟩)
      have hlen2:(bL (bL d.N sn y.1.i) s d.x).length<=20:=by
       obtain⟨g1,g2⟩:=cN hn;rw[<- g2,kG (jC h.srt sn y.1.i) hin];rw[List.length_set];omega
      have e0:bU ⟨vM y.1.i d.L,bL d.N sn y.1.i,d.x⟩ y.1.i=y.2:=(xW h.toOkW y.1.i y.1.i).trans (dB h3);rw[h.N];refine KL hwn hsn hfa (.inl rfl) (by rw[hGeq,tH];exact iT hd) (h.t y hy) f5 hlen2 ?_ ?_
      .show []=eG (bU ⟨vM y.1.i d.L,bL d.N sn y.1.i,d.x⟩ y.1.i) y.2;rw[e0,tO (h.t y hy)]
      .have h7:=xZ (gN ⟨vM y.1.i d.L,bL d.N sn y.1.i,d.x⟩ s y.1.i 0 y.2) (yE hwn.toOkW _ _ _ _);have e:(gN ⟨vM y.1.i d.L,bL d.N sn y.1.i,d.x⟩ s y.1.i 0 y.2).L.length=d.L.length+1:=by
        show (vM y.1.i d.L++[_]).length=_;rw[List.length_append,qD h.g.inc,List.length_map];rfl
       rw[tJ];omega
     .rcases (hmem m).1 hm with rfl|⟨g1,_⟩
      .exact⟨f1,_,eU h.g.inc (id:=y.1.i) hy,rfl⟩
      .exact hwf.nm m g1
     .have hfz2:∀z∈d.L,z.1.i=a.l->z.1.i≠y.1.i/\z.1.f=false:=λz hz hza=>by
       have:=hfz _ (eU h.g.inc (id:=y.1.i) hz) hza;simp only[zX,Bool.or_eq_false_iff] at this;exact⟨by simpa using this.2,this.1⟩
      rcases (hmem a).1 ha with rfl|⟨g1,_⟩<;>rcases (hmem b).1 hb with rfl|⟨g2,_⟩
      .rfl
      .exact absurd rfl (hfz2 y hy rfl).1
      .exact absurd rfl (hfz2 y hy e.symm).1
      .exact h.one a g1 b g2 e λz hz hza=>(hfz2 z hz hza).2
    .simp only[if_true];have:=HH r y.1.i (by rw[nG h.toSimW,hd];rfl);exact⟨this,h⟩
end
theorem zLb{t:List It}{c:Cl}(h:(doP t c).2.e≠0):(doP t c).1=t:=by
 unfold doP at h ⊢;split
 .rfl
 .rename_i h1;rw[if_neg h1] at h;split
  .rfl
  .rename_i h2;rw[if_neg h2] at h;split
   .rfl
   .rename_i h3;rw[if_neg h3] at h;split
    .rename_i h4;rw[if_pos h4] at h;exact absurd rfl h
    .rfl
section
def SH(x:List It × Int):Prop:=x.2=0->OkT x.1
theorem YK{c:Prop}[Decidable c]{a b:List It × Int}(ha:c->SH a)(hb:¬ c->SH b):SH (if c then a else b):=by
 split
 .exact ha (by assumption)
 .exact hb (by assumption)
theorem VE{l:List It}{e:Int}(h:e≠0):SH (l,e):=λhe=>absurd he h
theorem zIx{l:List It}{e:Int}(h:(!(e==0))=true):SH (l,e):=VE (by simpa using h)
section
variable {t:List It}{p:List UInt8}{is:Bool}{c:Cl}
attribute [local irreducible] wR pE xI
theorem zIP(h:OkT t){kind:Int}(hc:c.t<18446744073709551616):SH (xI t p is kind c):=by
 unfold xI
 repeat' refine YK (λ_=>?_) λ_=>?_
 all_goals first
  | (exact VE (by decide))
  | exactλhe=>h.put (show dC c.t<_ from sQ hc) he
theorem zGr(h:OkT t){n:Nd}(hn:n.t<18446744073709551616)(hc:c.t<18446744073709551616):SH (cE t p is n c):=by
 have hb:dC c.t<18446744073709551616:=sQ hc;unfold cE BR zKD sC CS CN
 repeat' refine YK (λ_=>?_) λ_=>?_
 all_goals first
  | exact zIP h hc
  | (exact VE (by decide))
  | (exact zIx (by assumption))
  | exactλ_=>h
  | exactλ_=>h.remove _
  | exactλhe=>h.put hb he
  | exactλhe=>h.put (show n.t<_ from hn) he
  | exactλhe=>(h.remove _).move he
end
variable {t:List It}{c:Cl}
theorem zNC(h:OkT t)(hc:c.t<18446744073709551616):OkT (doP t c).1:=by
 unfold doP;split
 .exact h
 .split
  .exact h
  .split
   .exact h
   .split
    .rename_i h4;refine zGr h ?_ hc (eq_of_beq h4);unfold nodeAt;split
     .exact Nat.zero_lt_succ _
     .exact h.gett _
    .exact h
theorem zDa(h:mZ c.k=false):(doP t c).1=t:=by
 unfold doP;rw[h];simp only[Bool.not_false,if_true];split
 .rfl
 .split<;>rfl
theorem BX(h:OkT t):gU t t=true:=BW λx hx=>h.tlen x hx
end
end Go.Dm
end
section
namespace Go.Dm
open Go Go.Proofs Go.Sort
structure Cf where
 p:List UInt8
 k:Int
deriving DecidableEq
structure Pr where
 a:List UInt8
 b:List UInt8
deriving DecidableEq
def Cf.cs(x:Cf):List PV:=[.s x.p,.i .i64 x.k]
def Pr.cs(x:Pr):List PV:=[.s x.a,.s x.b]
def fO(l:List Cf):List (List PV):=l.map Cf.cs
theorem xT(t:List Cf):(fO t).length=t.length:=by simp[fO]
theorem zHN:fO []=[]:=rfl
theorem zHM(a b:List Cf):fO a++fO b=fO (a++b):=by simp[fO]
theorem zDx(a:List Cf)(n:Nat):(fO a).take n=fO (a.take n):=by simp[fO]
theorem zDu(a:List Cf)(n:Nat):(fO a).drop n=fO (a.drop n):=by simp[fO]
theorem zLt{t:List Cf}{k:Nat}{x:Cf}(h:t[k]?=some x):(fO t).getD k []=[.s x.p,.i .i64 x.k]:=by
 simp only[fO,List.getD_eq_getElem?_getD,List.getElem?_map,h];rfl
theorem zHO(t:List Cf):(∀x∈fO t,x.length=2)=True:=eq_true λx hx=>by
 simp only[fO,List.mem_map] at hx;obtain⟨y,_,rfl⟩:=hx;rfl
theorem zDv(t:List Cf)(p:List UInt8)(k:Int):fO t++[[.s p,.i .i64 k]]=fO (t++[⟨p,k⟩]):=by simp[fO,Cf.cs]
attribute [go_sem] xT zHN zHM zDx zDu zHO zDv
def rJ(l:List Pr):List (List PV):=l.map Pr.cs
theorem zH3(t:List Pr):(rJ t).length=t.length:=by simp[rJ]
theorem zH4:rJ []=[]:=rfl
theorem zH2(a b:List Pr):rJ a++rJ b=rJ (a++b):=by simp[rJ]
theorem zDO(a:List Pr)(n:Nat):(rJ a).take n=rJ (a.take n):=by simp[rJ]
theorem zDM(a:List Pr)(n:Nat):(rJ a).drop n=rJ (a.drop n):=by simp[rJ]
theorem TU{t:List Pr}{k:Nat}{x:Pr}(h:t[k]?=some x):(rJ t).getD k []=[.s x.a,.s x.b]:=by
 simp only[rJ,List.getD_eq_getElem?_getD,List.getElem?_map,h];rfl
theorem zH5(t:List Pr):(∀x∈rJ t,x.length=2)=True:=eq_true λx hx=>by
 simp only[rJ,List.mem_map] at hx;obtain⟨y,_,rfl⟩:=hx;rfl
theorem zDN(t:List Pr)(a b:List UInt8):rJ t++[[.s a,.s b]]=rJ (t++[⟨a,b⟩]):=by simp[rJ,Pr.cs]
attribute [go_sem] zH3 zH4 zH2 zDO zDM zH5 zDN
def ltC(x y:Cf):Bool:=bT x.p y.p || (x.p==y.p && decide (x.k<y.k))
def leC(x y:Cf):Bool:=!ltC y x
def CE(l:List Cf):List Cf:=l.mergeSort leC
def zO3:List PV->Cf
 | [.s p,.i _ k]=>⟨p,k⟩
 | _=>⟨[],0⟩
def ltV(x y:List PV):Bool:=ltC (zO3 x) (zO3 y)
theorem zA1(x:Cf):ltC x x=false:=by simp[ltC,bX]
theorem NT{x y z:Cf}(h:ltC x y=true)(k:ltC y z=true):ltC x z=true:=by
 simp only[ltC,Bool.or_eq_true,Bool.and_eq_true,beq_iff_eq,decide_eq_true_eq] at *;rcases h with h|⟨h1,h2⟩<;>rcases k with k|⟨k1,k2⟩
 .exact .inl (cH h k)
 .rw[<- k1];exact .inl h
 .rw[h1];exact .inl k
 .exact .inr ⟨h1.trans k1,by omega⟩
theorem zEP{x y:Cf}(h:ltC x y=false)(k:ltC y x=false):x=y:=by
 simp only[ltC,Bool.or_eq_false_iff,Bool.and_eq_false_iff,beq_eq_false_iff_ne,decide_eq_false_iff_not] at *;have e:=eL h.1 k.1;have h2:¬ x.k<y.k:=h.2.resolve_left (λn=>n e);have k2:¬ y.k<x.k:=k.2.resolve_left (λn=>n e.symm);cases x;cases y;simp only at *;subst e
 congr 1
 omega
theorem XD:SWO ltC where
 irrefl:=zA1
 trans _ _ _:=NT
 ntrans x y z h k:=by
  cases e:ltC x z with
  | false=>rfl
  | true =>
   cases f:ltC y x with
   | true=>have:=NT f e;rw[k] at this;cases this
   | false=>have:=zEP h f;subst this;rw[k] at e;cases e
theorem zMF:SWO ltV:=⟨λx=>XD.irrefl _,λx y z=>XD.trans _ _ _,λx y z=>XD.ntrans _ _ _⟩
def cfC(x y:Cf):Int:=if CT x.p y.p==0 then LI x.k y.k else CT x.p y.p
def cfV(x y:List PV):Int:=cfC (zO3 x) (zO3 y)
theorem zN5(x y:Cf):decide (cfC x y<0)=ltC x y:=by
 unfold cfC ltC;rw[HE];by_cases h:(x.p==y.p)=true
 .rw[if_pos h,h,eq_of_beq h,bX];unfold LI;by_cases h1:x.k<y.k
  .simp[h1]
  .by_cases h2:y.k<x.k<;>simp[h1,h2]
 .rw[if_neg h,oM];simp[h]
theorem zEQ:ltOf cfV=ltV:=by
 funext x y
 exact zN5 _ _
theorem zME:SWO (ltOf cfV):=by rw[zEQ];exact zMF
theorem zCA(l:List Cf):∀x∈fO l,∀y∈fO l,ltOf cfV x y=false->ltOf cfV y x=false->x=y:=by
 rw[zEQ];intro x hx y hy h k;obtain⟨a,_,rfl⟩:=List.mem_map.1 hx;obtain⟨b,_,rfl⟩:=List.mem_map.1 hy;rw[zEP (x:=a) (y:=b) h k]
theorem RE(l:List Cf):(CE l).length=l.length:=List.length_mergeSort ..
theorem zDw(l:List Cf):(fO l).mergeSort (SE (ltOf cfV))=fO (CE l):=by
 rw[zEQ];unfold fO CE;exact(List.map_mergeSort (r:=leC) (s:=SE ltV) (f:=Cf.cs) (l:=l) λa _ b _=>rfl).symm
def pP(l:List Pr)(p:List UInt8):Bool:=l.any λx=>x.b==p
def tV(d:List UInt8)(out:List Pr):List Ch->Option (List UInt8)
 | []=>none
 | x::r=>if x.k==1 && x.n.k==1 && d==x.n.d && !pP out x.p then some x.p else tV d out r
def gH(l:List Ch)(out:List Pr)(x:Ch):List Pr :=
 if x.k != 2 || x.o.k != 1 then out else match tV x.o.d out l with
 | some p=>out++[⟨x.p,p⟩]
 | none=>out
def tR(l:List Ch):List Pr:=l.foldl (gH l) []
def fW(l:List Ch):List Pr:=if jM l then tR l else []
theorem PI(l:List Ch):fW l=tR l∨fW l=[]:=by
 unfold fW;split
 .exact .inl rfl
 .exact .inr rfl
def toF(l:List Pr)(p:List UInt8):Option (List UInt8):=match l with
 | []=>none
 | x::r=>if x.a==p then some x.b else toF r p
def zKy(b:List Pr)(x:Pr):List Cf:=match toF b x.a with
 | some tq=>if tq != x.b then [⟨x.a,6⟩] else []
 | none=>[]
def iV(a b:List Pr):List Cf:=a.flatMap (zKy b)
def PD(t:List It)(bad:List Cf)(x:It):List Cf:=if !aX t (aM x.p) && !(bad.any λc=>c.p==aM x.p) then [⟨x.p,7⟩] else []
def iU(t:List It)(bad:List Cf):List Cf:=t.flatMap (PD t bad)
def jE(a b c:List It):List (List UInt8):=Lib.compact (((a++(b++c)).map It.p).mergeSort λx y=>decide (x<=y))
def mgN(b o t:List It)(p:List UInt8):Nd × Bool × Int:=BB ((aN b p).getD nd0) ((aN o p).getD nd0) ((aN t p).getD nd0) (aN b p).isSome (aN o p).isSome (aN t p).isSome
def mgI(b o t:List It)(p:List UInt8):List It:=if (mgN b o t p).2.2 != 0 then [] else if (mgN b o t p).2.1 then [⟨p,(mgN b o t p).1⟩] else []
def mgC(b o t:List It)(p:List UInt8):List Cf:=if (mgN b o t p).2.2 != 0 then [⟨p,(mgN b o t p).2.2⟩] else []
def KW(b o t:List It)(l:List (List UInt8)):List It:=l.flatMap (mgI b o t)
def rV(b o t:List It)(l:List (List UInt8)):List Cf:=l.flatMap (mgC b o t)
def WJ(b o t:List It):List It:=KW b o t (jE b o t)
def zGR(b o t:List It):List Cf :=
 CE (rV b o t (jE b o t)++(iU (WJ b o t) (rV b o t (jE b o t))++iV (fW (eS b o)) (fW (eS b t))))
def fA(b o t:List It):List It × List Cf:=if (zGR b o t).length==0 then (WJ b o t,[]) else ([],zGR b o t)
end Go.Dm
end
section
namespace Go.Dm
open Go Go.Sort
theorem VW{b o t:List It}{p:List UInt8}{x:It}(h:x∈mgI b o t p):x=⟨p,(mgN b o t p).1⟩/\(mgN b o t p).2.2=0/\(mgN b o t p).2.1=true:=by
 unfold mgI at h;split at h
 .simp at h
 .rename_i h1;split at h
  .rename_i h2;exact⟨by simpa using h,by simpa using h1,h2⟩
  .simp at h
theorem YQ{b o t:List It}{l:List (List UInt8)}{x:It}(h:x∈KW b o t l):x.p∈l/\x=⟨x.p,(mgN b o t x.p).1⟩/\(mgN b o t x.p).2.2=0/\(mgN b o t x.p).2.1=true:=by
 obtain⟨p,hp,hx⟩:=List.mem_flatMap.1 h;have:=VW hx;have e:x.p=p:=by rw[this.1]
 subst e;exact⟨hp,this⟩
theorem zV{α β:Type}{f:α->List β}{r:α->α->Prop}{s:β->β->Prop}(h1:∀a,(f a).length<=1)(h2:∀{a c x y},r a c->x∈f a->y∈f c->s x y):∀{l:List α},l.Pairwise r->(l.flatMap f).Pairwise s
 | [],_=>by simp
 | a::l,h=>by
  obtain⟨k1,k2⟩:=List.pairwise_cons.1 h;rw[List.flatMap_cons];refine List.pairwise_append.2 ⟨?_,zV h1 h2 k2,λx hx y hy=>?_⟩
  .have:=h1 a
   match f a,this with
   | [],_=>exact .nil
   | [x],_=>exact List.pairwise_singleton ..
  .obtain⟨c,hc,hyc⟩:=List.mem_flatMap.1 hy;exact h2 (k1 c hc) hx hyc
theorem zEX(b o t:List It)(p:List UInt8):(mgI b o t p).length<=1:=by unfold mgI;split<;>(try split)<;>simp
theorem zL3(b o t:List It)(p:List UInt8):(mgC b o t p).length<=1:=by unfold mgC;split<;>simp
theorem zFf(t:List It)(bad:List Cf)(x:It):(PD t bad x).length<=1:=by unfold PD;split<;>simp
theorem zJl(b:List Pr)(x:Pr):(zKy b x).length<=1:=by unfold zKy;split<;>(try split)<;>simp
theorem YY(b o t:List It):Srt (WJ b o t):=zV (zEX b o t) (λ{a c x y} hr hx hy=>by rw[(VW hx).1,(VW hy).1];exact hr) (PO _)
theorem PH(l:List Ch)(out:List Pr)(x:Ch):gH l out x=out∨∃p,gH l out x=out++[⟨x.p,p⟩]/\x.k=2/\x.o.k=1/\tV x.o.d out l=some p:=by
 unfold gH;split
 .exact .inl rfl
 .rename_i h1;simp only[Bool.or_eq_true,bne_iff_ne,ne_eq,not_or,Decidable.not_not] at h1;split
  .rename_i p hp;exact .inr ⟨p,rfl,h1.1,h1.2,hp⟩
  .exact .inl rfl
def zP8(b o t:List It):List Cf:=rV b o t (jE b o t)++(iU (WJ b o t) (rV b o t (jE b o t))++iV (fW (eS b o)) (fW (eS b t)))
theorem zK1(b o t:List It):zGR b o t=CE (zP8 b o t):=rfl
theorem AL{α β:Type}{f:α->List β}(h1:∀a,(f a).length<=1):∀l:List α,(l.flatMap f).length<=l.length
 | []=>by simp
 | a::l=>by
  have:=AL h1 l;have:=h1 a;rw[List.flatMap_cons,List.length_append,List.length_cons];omega
theorem PJ(l:List Ch):∀(m:List Ch) (out:List Pr),(m.foldl (gH l) out).length<=out.length+m.length
 | [],out=>by simp
 | c::m,out=>by
  rw[List.foldl_cons,List.length_cons];have:=PJ l m (gH l out c);rcases PH l out c with e|⟨p,e,_⟩
  .rw[e] at this ⊢;omega
  .rw[e] at this ⊢;simp at this;omega
theorem zBe(l:List Ch):(tR l).length<=l.length:=by have:=PJ l l [];simpa[tR] using this
theorem vQ(l:List Ch):(fW l).length<=l.length:=by
 rcases PI l with e|e<;>rw[e]
 .exact zBe l
 .simp
theorem zBg(a b c:List It):(jE a b c).length<=a.length+b.length+c.length:=by
 refine Nat.le_trans (EA _) ?_;rw[List.length_mergeSort,List.length_map,List.length_append,List.length_append];omega
theorem FF{a b c:List It}{p:List UInt8}:p∈jE a b c↔(aN a p).isSome=true∨(aN b p).isSome=true∨(aN c p).isSome=true:=by
 have has:∀{t:List It},(∃x∈t,x.p=p)↔(aN t p).isSome=true:=λ{t}=>⟨λ⟨x,hx,e⟩=>e▸xX hx,λh=>by
  cases hg:aN t p with
  | none=>rw[hg] at h;cases h
  | some n=>obtain⟨x,hx,e,_⟩:=cL hg;exact⟨x,hx,e⟩⟩
 unfold jE;rw[yZ,<- has,<- has,<- has];simp only[List.mem_map,List.mem_append];constructor
 .rintro⟨x,h|h|h,e⟩
  .exact .inl ⟨x,h,e⟩
  .exact .inr (.inl ⟨x,h,e⟩)
  .exact .inr (.inr ⟨x,h,e⟩)
 .rintro (⟨x,h,e⟩|⟨x,h,e⟩|⟨x,h,e⟩)
  .exact⟨x,.inl h,e⟩
  .exact⟨x,.inr (.inl h),e⟩
  .exact⟨x,.inr (.inr h),e⟩
end Go.Dm
end
