/- Part 24 of the proof of roomMerges_card, set without needless blanks. No condition. -/
import Derived.Test.YtflcjdohmojepaaGreatDoorM22
set_option linter.all false
set_option maxRecDepth 100000
set_option maxHeartbeats 16000000
section
namespace Go.Dm
open Go
section
variable {r:Rm}{d:Dr}{id p q:Int}{y:Ly × List It}{s:List UInt8}{t:List It}
theorem HV(h:SimW r d){N:List Nm}(hs:NJ N)(hn:∀n∈N,aZ n.n=true/\∃y∈d.L,y.1.i=n.l)
 (h1:∀n∈N,∀m∈N,n.l=m.l->(∀y∈d.L,y.1.i=n.l->y.1.f=false)->n=m)(hl:N.length<=20):SimW ⟨N,r.L,r.E,r.x⟩ ⟨d.L,N,d.x⟩ :=
 { g:=h.g,t:=h.t,srt:=hs,nm:=hn,one:=h1,nx:=h.nx,ln:=hl,N:=rfl,L:=h.L,x:=h.x,e:=h.e }
theorem rC: ∀{l:List (Ly × List It)},qO (l.map (·.1))->BJ id l=l.map λy=>(EE id y.1,y.2)
 | [],_=>rfl
 | y::l,h=>by
  have h2:=List.pairwise_cons.1 h;simp only[BJ,List.map_cons];split
  .rename_i hy;have hy:=eq_of_beq hy;have e1:EE id y.1=⟨y.1.i,y.1.p,y.1.s,true⟩:=by unfold EE;rw[show (y.1.i==id)=true by simpa using hy,Bool.or_true]
   rw[e1]
   congr 1
   have key:∀z∈l,(EE id z.1,z.2)=z:=λz hz=>by
    have:y.1.i<z.1.i:=h2.1 z.1 (List.mem_map.2 ⟨z,hz,rfl⟩);unfold EE;rw[show (z.1.i==id)=false by simp;omega,Bool.or_false]
   exact((List.map_congr_left key).trans (List.map_id' l)).symm
  .rename_i hy;have e1:EE id y.1=y.1:=by unfold EE;rw[show (y.1.i==id)=false by simpa using hy,Bool.or_false]
   rw[e1,rC h2.2]
def zMB(d:Dr)(id:Int):Dr:=⟨BJ id d.L,d.N,d.x⟩
theorem zFg(hi:qO d.G)(id:Int):(zMB d id).G=pM d.G id:=by
 show (BJ id d.L).map (·.1)=_
 rw[rC hi];unfold pM Dr.G;rw[List.map_map,List.map_map];rfl
theorem zG(hi:qO d.G)(h:y∈(zMB d id).L):∃z∈d.L,y=(EE id z.1,z.2):=by
 have h:y∈BJ id d.L:=h;rw[rC hi] at h;obtain⟨z,h1,h2⟩:=List.mem_map.1 h;exact⟨z,h1,h2.symm⟩
theorem gZ(hi:qO d.G){z:Ly × List It}(h:z∈d.L):(EE id z.1,z.2)∈(zMB d id).L:=by
 show _∈BJ id d.L;rw[rC hi];exact List.mem_map.2 ⟨z,h,rfl⟩
theorem KO(h:OkW d)(id a:Int):cY (zMB d id) a=cY d a:=by
 have hi:qO (zMB d id).G:=by rw[zFg h.g.inc];exact(zLn h.g id).inc
 cases hl:sS d a with
 | none =>
  have hno:=LC hl;rw[lW hno,lW λy hy=>?_];obtain⟨z,h1,rfl⟩:=zG h.g.inc hy;exact hno z h1
 | some y =>
  obtain⟨h1,rfl⟩:=rF hl;rw[jV h.g.inc h1];exact jV hi (y:=(EE id y.1,y.2)) (gZ h.g.inc (id:=id) h1)
theorem DN(h:SimW r d)(id:Int):SimW ⟨r.N,pM r.L id,r.E,r.x⟩ (zMB d id):=by
 refine { g:=by rw[zFg h.g.inc];exact zLn h.g id,t:=λy hy=>?_,srt:=h.srt,nm:=λn hn=>?_,one:=λn hn m hm e hf=>?_,nx:=⟨λy hy=>?_,h.nx.2⟩,ln:=h.ln,N:=h.N,L:=by rw[zFg h.g.inc,<- h.L],x:=h.x,e:=λy hy=>?_ }
 .obtain⟨z,h1,rfl⟩:=zG h.g.inc hy;exact h.t z h1
 .obtain⟨h1,y,h2,h3⟩:=h.nm n hn;exact⟨h1,_,gZ h.g.inc (id:=id) h2,h3⟩
 .refine h.one n hn m hm e λy h2 h3=>?_;have:=hf _ (gZ h.g.inc (id:=id) h2) h3;simp only[EE,Bool.or_eq_false_iff] at this;exact this.1
 .obtain⟨z,h1,rfl⟩:=zG h.g.inc hy;exact h.nx.1 z h1
 .obtain⟨z,h1,rfl⟩:=zG h.g.inc hy;show lF r.E z.1.i=eF (cY (zMB d id) z.1.p) z.2;rw[KO h.toOkW];exact h.e z h1
def jP(d:Dr)(s:List UInt8)(p q:Int)(t:List It):Dr:=⟨d.L++[(⟨d.x,p,q,false⟩,t)],cE d.N s d.x,d.x+1⟩
theorem zH(d:Dr)(s:List UInt8)(p q:Int)(t:List It):yI d s p q t=BQ (jP d s p q t):=rfl
theorem zAF(d:Dr)(s:List UInt8)(p q:Int)(t:List It):(jP d s p q t).G=d.G++[⟨d.x,p,q,false⟩]:=by
 unfold jP Dr.G;rw[List.map_append];rfl
def EL(d:Dr)(p:Int):Prop:=∃y∈d.L,y.1.i=p/\y.1.f=true
theorem xB(h:EL d p):fG d.G d.G.length p:=by
 obtain⟨y,h1,h2,h3⟩:=h;obtain⟨k,hk⟩:=List.mem_iff_getElem?.1 (tR h1);exact .inr ⟨k,y.1,(List.getElem?_eq_some_iff.1 hk).1,hk,h2,h3⟩
theorem RP(h:OkW d)(hi:qO (jP d s p q t).G)(a:Int)(ha:a≠d.x):cY (jP d s p q t) a=cY d a:=by
 cases hl:sS d a with
 | none =>
  have hno:=LC hl;rw[lW hno,lW λy hy=>?_];rcases List.mem_append.1 (show y∈d.L++[_] from hy) with h1|h1
  .exact hno y h1
  .rw[List.mem_singleton] at h1;subst h1;exactλe=>ha e.symm
 | some y =>
  obtain⟨h1,rfl⟩:=rF hl;rw[jV h.g.inc h1];exact jV hi (show y∈d.L++[_] from List.mem_append_left _ h1)
theorem TU(h:SimW r d)(hs:aZ s=true)(hp:EL d p)(hq:q=0∨(p≠q/\EL d q))(hc:(bV d.G p).length<=11)(ht:OkT t)
 (hx:d.x<2147483647)(hn:(cE d.N s d.x).length<=20):SimW ⟨cE r.N s r.x,r.L++[⟨r.x,p,q,false⟩],oY r.E r.x (eF (cY d p) t),r.x+1⟩ (jP d s p q t):=by
 have hz:∀x∈d.G,x.i<d.x:=λx hx=>by
  obtain⟨y,hy,rfl⟩:=LH.1 hx;exact h.nx.1 y hy
 have hp1:1<=p/\p<d.x:=by
  obtain⟨y,h1,rfl,_⟩:=hp;exact⟨h.g.lo1 _ (tR h1),h.nx.1 y h1⟩
 have hg:OkG (jP d s p q t).G:=by
  rw[zAF];refine zFk h.g hz ⟨h.nx.2.1,by have:=h.nx.2.2;simp only;omega⟩ (xB hp) ?_ (λh0=>?_) hc
  .rcases hq with rfl|⟨_,hq⟩
   .exact .inl rfl
   .exact xB hq
  .rcases hq with rfl|⟨hq,_⟩
   .exact absurd rfl h0
   .exact⟨by show p≠0;omega,hq⟩
 have hmem:∀y,y∈(jP d s p q t).L↔y∈d.L∨y=(⟨d.x,p,q,false⟩,t):=λy=>by
  show y∈d.L++[_]↔_;rw[List.mem_append,List.mem_singleton]
 have hN:∀n,n∈(jP d s p q t).N↔n=⟨s,d.x⟩∨(n∈d.N/\n.n≠s):=λn=>tX h.srt;have old:∀n∈d.N,n.l≠d.x:=λn hn e=>by
  obtain⟨y,_,h1,h2⟩:=h.toOkW.named hn;have:=h.nx.1 y h1;omega
 refine { g:=hg,t:=λy hy=>?_,srt:=pC h.srt s d.x,nm:=λn hnn=>?_,one:=λn hnn m hmm e hf=>?_,nx:=⟨λy hy=>?_,by show 1<=d.x+1;have:=h.nx.2.1;omega,by show d.x+1<=2147483647;omega⟩,ln:=hn,N:=by show cE r.N s r.x=cE d.N s d.x;rw[h.N,h.x],L:=by rw[zAF,<- h.L,<- h.x],x:=by show r.x+1=d.x+1;rw[h.x],e:=λy hy=>?_ }
 .rcases (hmem y).1 hy with h1|rfl
  .exact h.t y h1
  .exact ht
 .rcases (hN n).1 hnn with rfl|⟨h1,_⟩
  .exact⟨hs,_,(hmem _).2 (.inr rfl),rfl⟩
  .obtain⟨h2,y,h3,h4⟩:=h.nm n h1;exact⟨h2,y,(hmem y).2 (.inl h3),h4⟩
 .rcases (hN n).1 hnn with rfl|⟨h1,h2⟩<;>rcases (hN m).1 hmm with rfl|⟨h3,h4⟩
  .rfl
  .exact absurd e.symm (old m h3)
  .exact absurd e (old n h1)
  .exact h.one n h1 m h3 e λy h5 h6=>hf y ((hmem y).2 (.inl h5)) h6
 .show y.1.i<d.x+1;rcases (hmem y).1 hy with h1|rfl
  .have:=h.nx.1 y h1;omega
  .simp only;omega
 .show lF (oY r.E r.x _) y.1.i=_;rcases (hmem y).1 hy with h1|rfl
  .have hlt:=h.nx.1 y h1;rw[rK _ _ (by rw[h.x];omega),h.e y h1,RP h.toOkW hg.inc];rcases h.toOkW.below h1 with h2|⟨z,h2,h3,_⟩
   .rw[h2];have:=h.nx.2.1;omega
   .rw[<- h3];have:=h.nx.1 z h2;omega
  .rw[h.x];simp only;rw[uW,RP h.toOkW hg.inc p (by omega)]
def bY(r:Rm)(s:List UInt8):Ly × Int:=match vQ r.N s with
 | some n=>((fF r.L n.l).getD ly0,0)
 | none=>(ly0,6)
def wsP(r:Rm)(s:List UInt8):Ly × Int:=if (bY r s).2==0 && (bY r s).1.f then (ly0,14) else bY r s
def snP(r:Rm)(s:List UInt8):Ly × Int:=if (bY r s).2==0 && !(bY r s).1.f then (ly0,13) else bY r s
def gY(r:Rm)(s:List UInt8):Int:=if !aZ s then 1 else if zAy r.N s then 7 else if decide (20<=(r.N.length:Int)) || (decide (40<=(r.L.length:Int)) || decide (2147483647<=r.x)) then 16 else 0
def iC(r:Rm)(on:Int):Int:=if decide (12<=((bV r.L on).length:Int)) then 15 else 0
def zAa(r:Rm):Rm:=⟨r.N,kK r.L (nZ r.N),NT (kK r.L (nZ r.N)) r.E,r.x⟩
def zDa(r:Rm)(s:List UInt8)(p q:Int)(es:List En):Rm:=zAa ⟨cE r.N s r.x,r.L++[⟨r.x,p,q,false⟩],oY r.E r.x es,r.x+1⟩
def jC(r:Rm)(s sn:List UInt8):Rm × Int :=
 if !((wsP r s).2==0) then (r,(wsP r s).2) else if !(gY r sn==0) then (r,gY r sn) else if !(iC r (wsP r s).1.i==0) then (r,iC r (wsP r s).1.i)
 else (zDa ⟨cE r.N sn (wsP r s).1.i,pM r.L (wsP r s).1.i,r.E,r.x⟩ s (wsP r s).1.i 0 [],0)
def EP(r:Rm)(sn s:List UInt8):Rm × Int :=
 if !((snP r sn).2==0) then (r,(snP r sn).2) else if !(gY r s==0) then (r,gY r s) else if !(iC r (snP r sn).1.i==0) then (r,iC r (snP r sn).1.i)
 else (zDa r s (snP r sn).1.i 0 [],0)
theorem dK(h:SimW r d){n:Nm}(hn:vQ d.N s=some n):∃y∈d.L,bY r s=(y.1,0)/\cV d.N s=y.1.i/\sS d y.1.i=some y/\y.1.i=n.l/\(y.1.i==0)=false:=by
 obtain⟨h1,h2⟩:=fU hn;obtain⟨y,h3,h4,h5⟩:=h.toOkW.named h1;refine⟨y,h4,?_,by unfold cV;rw[hn,h5],by rw[h5];exact h3,h5,?_⟩
 .unfold bY;rw[h.N,hn];show ((fF r.L n.l).getD ly0,(0:Int))=_;rw[h.L,zLk,h3];rfl
 .have:=h.g.lo1 _ (tR h4);simp only[beq_eq_false_iff_ne,ne_eq];omega
theorem dJ(h:SimW r d)(hn:vQ d.N s=none):bY r s=(ly0,6)/\(cV d.N s==0)=true:=by
 refine⟨by unfold bY;rw[h.N,hn],?_⟩
 rw[h.toOkW.name0,hn];rfl
theorem iV(h:sS d y.1.i=some y):kH d y.1.i=y.1.f:=by unfold kH;rw[h]
theorem eA(h:sS d y.1.i=some y):cY d y.1.i=y.2:=by unfold cY;rw[h]
theorem rA(h:SimW r d)(s:List UInt8):gY r s=mO d s:=by
 unfold gY mO;rw[h.toOkW.name0,YD,h.N,h.L,h.x,show d.G.length=d.L.length by simp[Dr.G],Bool.not_not]
theorem rB(h:(mO d s==0)=true):aZ s=true/\cV d.N s=0/\d.N.length<20/\d.L.length<40/\d.x<2147483647:=by
 unfold mO at h;split at h
 .cases h
 .rename_i h1;split at h
  .cases h
  .rename_i h2;split at h
   .cases h
   .rename_i h3;simp only[Bool.or_eq_true,decide_eq_true_eq,not_or,Bool.not_eq_true,Bool.not_eq_false',beq_iff_eq] at h1 h2 h3;exact⟨h1,h2,by omega,by omega,by omega⟩
theorem nQ(h:SimW r d)(on:Int):(iC r on==0) = !yF d on:=by
 unfold iC yF;rw[h.L];by_cases hc:12<=(bV d.G on).length
 .rw[if_pos (by simp;omega),show decide (12<(((bV d.G on).length:Int)+1))=true by simp;omega];rfl
 .rw[if_neg (by simp;omega),show decide (12<(((bV d.G on).length:Int)+1))=false by simp;omega];rfl
theorem JY(r:Rm)(on:Int)(h:(iC r on==0)=false):iC r on=15:=by
 unfold iC at h ⊢;split at h
 .rename_i h1;rw[if_pos h1]
 .cases h
theorem rH{on:Int}(h:yF d on=false):(bV d.G on).length<=11:=by
 unfold yF at h;simp only[decide_eq_false_iff_not] at h;omega
theorem MS(h:SimW r d){es:List En}(hs:aZ s=true)(hp:EL d p)(hq:q=0∨(p≠q/\EL d q))(hc:(bV d.G p).length<=11)(ht:OkT t)
 (hx:d.x<2147483647)(hn:(cE d.N s d.x).length<=20)(he:es=eF (cY d p) t)(hl:(yI d s p q t).L.length<=40):Sim (zDa r s p q es) (yI d s p q t):=by
 subst he;exact zKy (TU h hs hp hq hc ht hx hn) hl
theorem KX(d:Dr)(hi:qO d.G):(BQ d).L.length<=d.L.length:=by
 show (zB1 d).length<=_;rw[zK hi];exact List.length_filter_le _ _
theorem zN(h:OkW d)(s:List UInt8)(p q:Int)(t:List It):qO (jP d s p q t).G:=by
 rw [zAF];exact KR h.g.inc λx hx=>by
  obtain⟨y,hy,rfl⟩:=LH.1 hx;exact h.nx.1 y hy
theorem zJh(h:Sim r d)(sn s:List UInt8):(EP r sn s).2=(zBN d sn s).2/\Sim (EP r sn s).1 (zBN d sn s).1:=by
 unfold EP zBN snP;cases hn:vQ d.N sn with
 | none =>
  obtain⟨h1,h2⟩:=dJ h.toSimW hn;rw[h1,h2];exact⟨rfl,h⟩
 | some n =>
  obtain⟨y,hy,h1,h2,h3,h4,h5⟩:=dK h.toSimW hn;rw[h1,h2,h5,iV h3,eA h3];cases hf:y.1.f
  .exact⟨rfl,h⟩
  .rw [show ((0:Int)==0 && !true)=false from rfl]
   simp only[Bool.false_eq_true,if_false,Bool.not_true];rw[show (!((0:Int)==0))=false from rfl]
   simp only[Bool.false_eq_true,if_false];rw[rA h.toSimW];cases hfr:(mO d s==0)
   .exact⟨rfl,h⟩
   .simp only[Bool.not_true,Bool.false_eq_true,if_false];rw[nQ h.toSimW,Bool.not_not];cases hd:yF d y.1.i
    .simp only[Bool.false_eq_true,if_false,true_and];obtain⟨f1,f2,f3,f4,f5⟩:=rB hfr;refine MS h.toSimW f1 ⟨y,hy,rfl,hf⟩ (.inl rfl) (rH hd) (h.t y hy) f5 (by have:=iT d.N s d.x;omega) ?_ ?_
     .rw[eA h3,pT (h.t y hy)]
     .have:=KX (jP d s y.1.i 0 y.2) (zN h.toOkW _ _ _ _);have e:(jP d s y.1.i 0 y.2).L.length=d.L.length+1:=by show (d.L++[_]).length=_;rw[List.length_append];rfl
      rw[zH];omega
    .simp only[if_true];have:=JY r y.1.i (by rw[nQ h.toSimW,hd];rfl);exact⟨this,h⟩
theorem zBP(h:Sim r d)(s sn:List UInt8):(jC r s sn).2=(jB d s sn).2/\Sim (jC r s sn).1 (jB d s sn).1:=by
 unfold jC jB wsP;cases hn:vQ d.N s with
 | none =>
  obtain⟨h1,h2⟩:=dJ h.toSimW hn;rw[h1,h2];exact⟨rfl,h⟩
 | some n =>
  obtain⟨y,hy,h1,h2,h3,h4,h5⟩:=dK h.toSimW hn;rw[h1,h2,h5,iV h3,eA h3];cases hf:y.1.f;rotate_left 1
  .exact⟨rfl,h⟩
  .rw [show ((0:Int)==0 && false)=false from rfl]
   simp only[Bool.false_eq_true,if_false];rw[show (!((0:Int)==0))=false from rfl]
   simp only[Bool.false_eq_true,if_false];rw[rA h.toSimW];cases hfr:(mO d sn==0)
   .exact⟨rfl,h⟩
   .simp only[Bool.not_true,Bool.false_eq_true,if_false];rw[nQ h.toSimW,Bool.not_not];cases hd:yF d y.1.i
    .simp only[Bool.false_eq_true,if_false,true_and];obtain⟨f1,f2,f3,f4,f5⟩:=rB hfr;have hwf:=DN h.toSimW y.1.i;have hmem:∀n,n∈cE d.N sn y.1.i↔n=⟨sn,y.1.i⟩∨(n∈d.N/\n.n≠sn):=λn=>tX h.srt;have hwn:=HV hwf (N:=cE d.N sn y.1.i) (pC h.srt sn y.1.i) (λm hm=>?_) (λa ha b hb e hfz=>?_) (by have:=iT d.N sn y.1.i;omega)
     .have hcl:=iT d.N sn y.1.i;have hwn:SimW ⟨cE d.N sn y.1.i,pM r.L y.1.i,r.E,r.x⟩ ⟨BJ y.1.i d.L,cE d.N sn y.1.i,d.x⟩:=hwn;have hsn:aZ s=true:=by
       obtain⟨g1,g2⟩:=fU hn;rw[<- g2];exact(h.nm n g1).1
      have hfa:EL ⟨BJ y.1.i d.L,cE d.N sn y.1.i,d.x⟩ y.1.i:=⟨_,gZ h.g.inc (id:=y.1.i) hy,rfl,by show (y.1.f || y.1.i==y.1.i)=true;simp⟩
      have hGeq:(⟨BJ y.1.i d.L,cE d.N sn y.1.i,d.x⟩:Dr).G=pM d.G y.1.i:=zFg h.g.inc y.1.i;have hne:sn≠s:=λe=>by
       subst e;have:=h.toOkW.name0 sn;rw[f2,hn] at this;cases this
      have hin:(⟨n.n,n.l⟩:Nm)∈cE d.N sn y.1.i:=by
       obtain⟨g1,g2⟩:=fU hn;exact(hmem _).2 (.inr ⟨g1,by rw[g2];exactλe=>hne e.symm⟩)
      have hlen2:(cE (cE d.N sn y.1.i) s d.x).length<=20:=by
       obtain⟨g1,g2⟩:=fU hn;rw[<- g2,pB (pC h.srt sn y.1.i) hin];rw[List.length_set];omega
      have e0:cY ⟨BJ y.1.i d.L,cE d.N sn y.1.i,d.x⟩ y.1.i=y.2:=(KO h.toOkW y.1.i y.1.i).trans (eA h3);rw[h.N];refine MS hwn hsn hfa (.inl rfl) (by rw[hGeq,BK];exact rH hd) (h.t y hy) f5 hlen2 ?_ ?_
      .show []=eF (cY ⟨BJ y.1.i d.L,cE d.N sn y.1.i,d.x⟩ y.1.i) y.2;rw[e0,pT (h.t y hy)]
      .have h7:=KX (jP ⟨BJ y.1.i d.L,cE d.N sn y.1.i,d.x⟩ s y.1.i 0 y.2) (zN hwn.toOkW _ _ _ _);have e:(jP ⟨BJ y.1.i d.L,cE d.N sn y.1.i,d.x⟩ s y.1.i 0 y.2).L.length=d.L.length+1:=by
        show (BJ y.1.i d.L++[_]).length=_;rw[List.length_append,rC h.g.inc,List.length_map];rfl
       rw[zH];omega
     .rcases (hmem m).1 hm with rfl|⟨g1,_⟩
      .exact⟨f1,_,gZ h.g.inc (id:=y.1.i) hy,rfl⟩
      .exact hwf.nm m g1
     .have hfz2:∀z∈d.L,z.1.i=a.l->z.1.i≠y.1.i/\z.1.f=false:=λz hz hza=>by
       have:=hfz _ (gZ h.g.inc (id:=y.1.i) hz) hza;simp only[EE,Bool.or_eq_false_iff] at this;exact⟨by simpa using this.2,this.1⟩
      rcases (hmem a).1 ha with rfl|⟨g1,_⟩<;>rcases (hmem b).1 hb with rfl|⟨g2,_⟩
      .rfl
      .exact absurd rfl (hfz2 y hy rfl).1
      .exact absurd rfl (hfz2 y hy e.symm).1
      .exact h.one a g1 b g2 e λz hz hza=>(hfz2 z hz hza).2
    .simp only[if_true];have:=JY r y.1.i (by rw[nQ h.toSimW,hd];rfl);exact⟨this,h⟩
end
theorem zL6{t:List It}{c:Cl}(h:(doP t c).2.e≠0):(doP t c).1=t:=by
 unfold doP at h ⊢;split
 .rfl
 .rename_i h1;rw[if_neg h1] at h;split
  .rfl
  .rename_i h2;rw[if_neg h2] at h;split
   .rfl
   .rename_i h3;rw[if_neg h3] at h;split
    .rename_i h4;rw[if_pos h4] at h;exact absurd rfl h
    .rfl
section
def zQe(d:List UInt8)(hops:Nat):Int:=if decide (8<=hops) then 11 else (fY d).2
def zQd(d:List UInt8)(hops:Nat)(c:List UInt8):List UInt8:=if decide (8<=hops) then c else if (fY d).2==0 then (if MT d then [] else c) else c
def zQf(d:List UInt8)(hops:Nat)(ps:List (List UInt8)):List (List UInt8):=if decide (8<=hops) then ps else if (fY d).2==0 then (fY d).1++ps else ps
def wA(t:List It)(fo:Bool)(c s:List UInt8)(ps:List (List UInt8))(hops:Nat):(Bool × Int) × (List UInt8 × List (List UInt8) × Nat) :=
 if !bC t c then ((false,9),(c,ps,hops)) else if decide ((120:Int)<(kI c s).length) then ((false,12),(c,ps,hops))
 else match aM t (kI c s) with
 | none=>if ps == [] then ((false,0),(kI c s,ps,hops)) else ((false,6),(c,ps,hops))
 | some n=>if n.k==3 && (!(ps == []) || fo) then ((true,zQe n.d hops),(zQd n.d hops c,zQf n.d hops ps,hops+1)) else ((true,0),(kI c s,ps,hops))
theorem wY{s:List UInt8}:(fY s).1.length<=121:=by
 unfold fY;split
 .simp
 .split
  .simp
  .split
   .rename_i h _ _;have h:¬ (120:Int)<s.length:=by simpa using h
    refine Nat.le_trans (List.length_filter_le ..) (Nat.le_trans (qV s []) ?_);omega
   .simp
theorem HW{s:List UInt8}:∀p∈(fY s).1,p.length<=120:=by grind [fY]
structure WI (t:List It) (fo:Bool) (W:List UInt8 × Bool × Int) (f:Nat) (c:List UInt8) (ps:List (List UInt8)) (hops:Nat) (there:Bool) (e:Int):Prop where
 cl:c.length<=120
 pl:∀p∈ps,p.length<=120
 fl:f<=1400
 hl:hops<=9
 go:e=0->hops<=8/\(9-hops)*130+ps.length<f/\(ps≠[]->there=true/\oP t fo f c ps hops=W)/\(ps=[]->W=(c,there,0))
 no:e≠0->W=([],false,e)
theorem PL(c:List UInt8):(aU c).length<=c.length:=by grind [uD]
section
variable {t:List It}{fo:Bool}{W:List UInt8 × Bool × Int}{f:Nat}{c p:List UInt8}{ps:List (List UInt8)}{hops:Nat}{there:Bool}
theorem WI.next{c':List UInt8}(h:WI t fo W (f+1) c (p::ps) hops there 0)(hc:c'.length<=120)(hw:oP t fo (f+1) c (p::ps) hops=oP t fo f c' ps hops):WI t fo W f c' ps hops true 0:=by
 obtain⟨h1,h2,h3,_⟩:=h.go rfl;obtain⟨ht,hW⟩:=h3 (by simp);rw[hw] at hW;have hfl:=h.fl;simp only[List.length_cons] at h2;refine⟨hc,λq hq=>h.pl q (List.mem_cons_of_mem _ hq),by omega,by omega,λ_=>⟨h1,by omega,λ_=>⟨rfl,hW⟩,λh0=>?_⟩,λh0=>absurd rfl h0⟩
 subst h0;obtain⟨k,rfl⟩:∃k,f=k+1:=⟨f-1,by omega⟩
 rw[<- hW];rfl
theorem WI.there_true(h:WI t fo W f c (p::ps) hops there 0):there=true:=((h.go rfl).2.2.1 (by simp)).1
theorem WI.dot(h:WI t fo W (f+1) c (p::ps) hops there 0)(hp:(p == [46])=true):WI t fo W f c ps hops there 0:=by
 rw[h.there_true];exact h.next h.cl (by simp only[oP,hp,if_true])
theorem WI.dots(h:WI t fo W (f+1) c (p::ps) hops there 0)(hp:(p == [46])=false)(hq:(p == [46,46])=true):WI t fo W f (aU c) ps hops there 0:=by
 rw[h.there_true];exact h.next (Nat.le_trans (PL c) h.cl) (by simp only[oP,hp,hq,if_true,Bool.false_eq_true,if_false])
theorem WI.down(h:WI t fo W (f+1) c (p::ps) hops there 0)(hp:(p == [46])=false)(hq:(p == [46,46])=false):
  WI t fo W f (wA t fo c p ps hops).2.1 (wA t fo c p ps hops).2.2.1 (wA t fo c p ps hops).2.2.2 (wA t fo c p ps hops).1.1 (wA t fo c p ps hops).1.2:=by
 obtain ⟨h1,h2,h3,_⟩:=h.go rfl;obtain⟨ht,hW⟩:=h3 (by simp);have hfl:=h.fl;simp only[List.length_cons] at h2;have hpl:∀q∈ps,q.length<=120:=λq hq=>h.pl q (List.mem_cons_of_mem _ hq);have fell:∀{e:Int} {c':List UInt8} {ps':List (List UInt8)} {h':Nat} {th:Bool},e≠0->W=([],false,e)->c'.length<=120->(∀q∈ps',q.length<=120)->h'<=9->WI t fo W f c' ps' h' th e :=
  λhe hw a b g=>⟨a,b,by omega,g,λh0=>absurd h0 he,λ_=>hw⟩
 simp only[oP,hp,hq,Bool.false_eq_true,if_false] at hW;unfold wA;split
 .rename_i hd;grind [WI]
 .rename_i hd;rw[if_neg hd] at hW;split
  .rename_i hl;grind [WI]
  .rename_i hl;rw[if_neg hl] at hW;have hjl:(kI c p).length<=120:=by simp only[decide_eq_true_eq] at hl;omega
   cases hg:aM t (kI c p) with
   | none =>
    rw[hg] at hW;simp only at hW ⊢;split
    .rename_i hps;rw[if_pos hps] at hW;have hps:=eq_of_beq hps;subst hps;simp only;exact⟨hjl,hpl,by omega,by omega,λ_=>⟨h1,by simp only[List.length_nil] at h2 ⊢;omega,λh0=>absurd rfl h0,λ_=>hW.symm⟩,λh0=>absurd rfl h0⟩
    .rename_i hps;rw[if_neg hps] at hW;show WI t fo W f c ps hops false 6;exact fell (by decide) hW.symm h.cl hpl (by omega)
   | some n =>
    rw[hg] at hW;simp only at hW ⊢;split
    .rename_i hlk;rw[if_pos hlk] at hW;unfold zQe zQd zQf;simp only at hW ⊢;split
     .rename_i h8;rw[if_pos h8] at hW;exact fell (by decide) hW.symm h.cl hpl (by omega)
     .rename_i h8;rw[if_neg h8] at hW;simp only[decide_eq_true_eq] at h8;have hsl:=wY (s:=n.d);have hsm:=HW (s:=n.d);cases he:((fY n.d).2==0)
      .rw[he] at hW;simp only[Bool.false_eq_true,if_false] at hW ⊢;exact fell (by simpa using he) hW.symm h.cl hpl (by omega)
      .rw [he] at hW;simp only[if_true] at hW ⊢;have he:=eq_of_beq he;rw[he];refine⟨by split;simp;exact h.cl,λq hq=>?_,by omega,by omega,λ_=>⟨by omega,by rw[List.length_append];omega,λ_=>⟨rfl,hW⟩,λh0=>?_⟩,λh0=>absurd rfl h0⟩
       .rcases List.mem_append.1 hq with hq|hq
        .exact hsm q hq
        .exact hpl q hq
       .rw[h0] at hW;obtain⟨k,rfl⟩:∃k,f=k+1:=⟨f-1,by omega⟩
        rw[<- hW];rfl
    .rename_i hlk;rw[if_neg hlk] at hW;simp only;refine⟨hjl,hpl,by omega,by omega,λ_=>⟨h1,by omega,λ_=>⟨rfl,hW⟩,λh0=>?_⟩,λh0=>absurd rfl h0⟩
     subst h0;obtain⟨k,rfl⟩:∃k,f=k+1:=⟨f-1,by omega⟩
     rw[<- hW];rfl
end
theorem qN{t:List It}{fo:Bool}:∀(f:Nat) (c:List UInt8) (ps:List (List UInt8)) (hops:Nat),c.length<=120->(oP t fo f c ps hops).1.length<=120
 | 0,_,_,_,_=>by simp[oP]
 | _+1,_,[],_,h=>h
 | f+1,c,p::ps,hops,h=>by
  simp only[oP];split
  .exact qN f _ _ _ h
  .split
   .exact qN f _ _ _ (Nat.le_trans (PL c) h)
   .split
    .simp
    .split
     .simp
     .rename_i hl;have hjl:(kI c p).length<=120:=by simp only[decide_eq_true_eq] at hl;omega
      split
      .split
       .exact hjl
       .simp
      .split
       .split
        .simp
        .split
         .refine qN f _ _ _ ?_;split
          .simp
          .exact h
         .simp
       .exact qN f _ _ _ hjl
theorem VJ{t:List It}{s:List UInt8}{fo:Bool}:(cR t s fo).1.length<=120:=by
 unfold cR;split
 .exact qN _ _ _ _ (by simp)
 .simp
end
structure RC where
 k:Int
 p:Int
 to':Int
 m:Int
 t:Int
 at':Int
 n:Int
 how:Int
 x:Nat
 d:List UInt8
 s:List UInt8
def RC.cs(x:RC):List PV:=[.i .i64 x.k,.i .i64 x.p,.i .i64 x.to',.i .i64 x.m,.i .i64 x.t,.i .i64 x.at',.i .i64 x.n,.i .i64 x.how,.f x.x,.sl 1 (bU x.d),.s x.s]
def zON(l:List RC):List (List PV):=l.map RC.cs
theorem zER(l:List RC):(zON l).length=l.length:=by simp[zON]
attribute [go_sem] zER
structure OkC (c:Cl):Prop where
 p:c.p.length<=9223372036854775807
 q:c.to'.length<=9223372036854775807
 t:c.t<18446744073709551616
 d:c.d.length<=140737488355328
 a:-9223372036854775808<=c.at'/\c.at'<=9223372036854775807
section
def VX(x:List It × Int):Prop:=x.2=0->OkT x.1
theorem zAt{c:Prop}[Decidable c]{a b:List It × Int}(ha:c->VX a)(hb:¬ c->VX b):VX (if c then a else b):=by
 split
 .exact ha (by assumption)
 .exact hb (by assumption)
theorem XE{l:List It}{e:Int}(h:e≠0):VX (l,e):=λhe=>absurd he h
theorem zJo{l:List It}{e:Int}(h:(!(e==0))=true):VX (l,e):=XE (by simpa using h)
section
variable {t:List It}{p:List UInt8}{is:Bool}{c:Cl}
attribute [local irreducible] mE jQ yK
theorem zJG(h:OkT t){kind:Int}(hc:c.t<18446744073709551616):VX (yK t p is kind c):=by
 unfold yK
 repeat' refine zAt (λ_=>?_) λ_=>?_
 all_goals first
  | (exact XE (by decide))
  | exactλhe=>h.put (show bJ c.t<_ from lN hc) he
theorem zHq(h:OkT t){n:Nd}(hn:n.t<18446744073709551616)(hc:c.t<18446744073709551616):VX (cI t p is n c):=by
 have hb:bJ c.t<18446744073709551616:=lN hc;unfold cI DC zLA tJ EC DX
 repeat' refine zAt (λ_=>?_) λ_=>?_
 all_goals first
  | exact zJG h hc
  | (exact XE (by decide))
  | (exact zJo (by assumption))
  | exactλ_=>h
  | exactλ_=>h.remove _
  | exactλhe=>h.put hb he
  | exactλhe=>h.put (show n.t<_ from hn) he
  | exactλhe=>(h.remove _).move he
end
variable {t:List It}{c:Cl}
theorem zOF(h:OkT t)(hc:c.t<18446744073709551616):OkT (doP t c).1:=by
 unfold doP;split
 .exact h
 .split
  .exact h
  .split
   .exact h
   .split
    .rename_i h4;refine zHq h ?_ hc (eq_of_beq h4);unfold nodeAt;split
     .exact Nat.zero_lt_succ _
     .exact h.gett _
    .exact h
theorem zL7(h:nH c.k=false):(doP t c).1=t:=by
 unfold doP;rw[h];simp only[Bool.not_false,if_true];split
 .rfl
 .split<;>rfl
theorem ZA(h:OkT t):gR t t=true:=DJ λx hx=>h.tlen x hx
end
end Go.Dm
end
section
namespace Go.Dm
open Go Go.Proofs Go.Sort
structure Cf where
 p:List UInt8
 k:Int
deriving DecidableEq
structure Pr where
 a:List UInt8
 b:List UInt8
deriving DecidableEq
def Cf.cs(x:Cf):List PV:=[.s x.p,.i .i64 x.k]
def Pr.cs(x:Pr):List PV:=[.s x.a,.s x.b]
def dY(l:List Cf):List (List PV):=l.map Cf.cs
theorem qX(t:List Cf):(dY t).length=t.length:=by simp[dY]
theorem zIJ:dY []=[]:=rfl
theorem zII(a b:List Cf):dY a++dY b=dY (a++b):=by simp[dY]
theorem zEz(a:List Cf)(n:Nat):(dY a).take n=dY (a.take n):=by simp[dY]
theorem zEw(a:List Cf)(n:Nat):(dY a).drop n=dY (a.drop n):=by simp[dY]
theorem KF{t:List Cf}{k:Nat}{x:Cf}(h:t[k]?=some x):(dY t).getD k []=[.s x.p,.i .i64 x.k]:=by
 simp only[dY,List.getD_eq_getElem?_getD,List.getElem?_map,h];rfl
theorem zIK(t:List Cf):(∀x∈dY t,x.length=2)=True:=eq_true λx hx=>by
 simp only[dY,List.mem_map] at hx;obtain⟨y,_,rfl⟩:=hx;rfl
theorem zEx(t:List Cf)(p:List UInt8)(k:Int):dY t++[[.s p,.i .i64 k]]=dY (t++[⟨p,k⟩]):=by simp[dY,Cf.cs]
attribute [go_sem] qX zIJ zII zEz zEw zIK zEx
def oS(l:List Pr):List (List PV):=l.map Pr.cs
theorem zIZ(t:List Pr):(oS t).length=t.length:=by simp[oS]
theorem zI0:oS []=[]:=rfl
theorem zIY(a b:List Pr):oS a++oS b=oS (a++b):=by simp[oS]
theorem zEQ(a:List Pr)(n:Nat):(oS a).take n=oS (a.take n):=by simp[oS]
theorem zEO(a:List Pr)(n:Nat):(oS a).drop n=oS (a.drop n):=by simp[oS]
theorem BD{t:List Pr}{k:Nat}{x:Pr}(h:t[k]?=some x):(oS t).getD k []=[.s x.a,.s x.b]:=by
 simp only[oS,List.getD_eq_getElem?_getD,List.getElem?_map,h];rfl
theorem zI1(t:List Pr):(∀x∈oS t,x.length=2)=True:=eq_true λx hx=>by
 simp only[oS,List.mem_map] at hx;obtain⟨y,_,rfl⟩:=hx;rfl
theorem zEP(t:List Pr)(a b:List UInt8):oS t++[[.s a,.s b]]=oS (t++[⟨a,b⟩]):=by simp[oS,Pr.cs]
attribute [go_sem] zIZ zI0 zIY zEQ zEO zI1 zEP
def ltC(x y:Cf):Bool:=cD x.p y.p || (x.p==y.p && decide (x.k<y.k))
def leC(x y:Cf):Bool:=!ltC y x
def eB(l:List Cf):List Cf:=l.mergeSort leC
def zP6:List PV->Cf
 | [.s p,.i _ k]=>⟨p,k⟩
 | _=>⟨[],0⟩
def ltV(x y:List PV):Bool:=ltC (zP6 x) (zP6 y)
theorem GK(x:Cf):ltC x x=false:=by simp[ltC,cF]
theorem uP{x y z:Cf}(h:ltC x y=true)(k:ltC y z=true):ltC x z=true:=by
 simp only[ltC,Bool.or_eq_true,Bool.and_eq_true,beq_iff_eq,decide_eq_true_eq] at *;rcases h with h|⟨h1,h2⟩<;>rcases k with k|⟨k1,k2⟩
 .exact .inl (cL h k)
 .rw[<- k1];exact .inl h
 .rw[h1];exact .inl k
 .exact .inr ⟨h1.trans k1,by omega⟩
theorem LG{x y:Cf}(h:ltC x y=false)(k:ltC y x=false):x=y:=by
 simp only[ltC,Bool.or_eq_false_iff,Bool.and_eq_false_iff,beq_eq_false_iff_ne,decide_eq_false_iff_not] at *;have e:=eI h.1 k.1;have h2:¬ x.k<y.k:=h.2.resolve_left (λn=>n e);have k2:¬ y.k<x.k:=k.2.resolve_left (λn=>n e.symm);cases x;cases y;simp only at *;subst e
 congr 1
 omega
theorem RF{x y:Cf}(h:ltC x y=true):ltC y x=false:=by
 cases k:ltC y x with
 | false=>rfl
 | true=>have:=uP h k;rw[GK] at this;cases this
theorem MW:SWO ltC where
 irrefl:=GK
 trans _ _ _:=uP
 ntrans x y z h k:=by
  cases e:ltC x z with
  | false=>rfl
  | true =>
   cases f:ltC y x with
   | true=>have:=uP f e;rw[k] at this;cases this
   | false=>have:=LG h f;subst this;rw[k] at e;cases e
theorem zNE:SWO ltV:=⟨λx=>MW.irrefl _,λx y z=>MW.trans _ _ _,λx y z=>MW.ntrans _ _ _⟩
def cfC(x y:Cf):Int:=if ED x.p y.p==0 then zDb x.k y.k else ED x.p y.p
def cfV(x y:List PV):Int:=cfC (zP6 x) (zP6 y)
theorem zO6(x y:Cf):decide (cfC x y<0)=ltC x y:=by
 unfold cfC ltC;rw[JW];by_cases h:(x.p==y.p)=true
 .rw[if_pos h,h,eq_of_beq h,cF];unfold zDb;by_cases h1:x.k<y.k
  .simp[h1]
  .by_cases h2:y.k<x.k<;>simp[h1,h2]
 .rw[if_neg h,pE];simp[h]
theorem zFR:ltOf cfV=ltV:=by
 funext x y
 exact zO6 _ _
theorem zND:SWO (ltOf cfV):=by rw[zFR];exact zNE
theorem zDE(l:List Cf):∀x∈dY l,∀y∈dY l,ltOf cfV x y=false->ltOf cfV y x=false->x=y:=by
 rw[zFR];intro x hx y hy h k;obtain⟨a,_,rfl⟩:=List.mem_map.1 hx;obtain⟨b,_,rfl⟩:=List.mem_map.1 hy;rw[LG (x:=a) (y:=b) h k]
theorem wW(l:List Cf):(eB l).Perm l:=List.mergeSort_perm _ _
theorem nF(l:List Cf):(eB l).length=l.length:=List.length_mergeSort ..
theorem qI(l:List Cf):(eB l).Pairwise λx y=>ltC y x=false:=by
 have h:(eB l).Pairwise λx y=>leC x y=true:=by
  refine List.pairwise_mergeSort (le:=leC) ?_ ?_ _
  .intro a b c h1 h2;simp only[leC,Bool.not_eq_true'] at h1 h2 ⊢;exact MW.ntrans c b a h2 h1
  .intro a b;simp only[leC];cases h:ltC b a with
   | false=>simp
   | true=>simp[RF h]
 exact h.imp λ{a b} h=>by simpa[leC] using h
theorem xX{l m:List Cf}(hp:m.Perm l)(hs:m.Pairwise λx y=>ltC y x=false):m=eB l :=
 List.Perm.eq_of_pairwise (le:=λx y=>ltC y x=false) (λ_ _ _ _ h k=>LG k h) hs (qI l) (hp.trans (wW l).symm)
theorem zEy(l:List Cf):(dY l).mergeSort (VT (ltOf cfV))=dY (eB l):=by
 rw[zFR];unfold dY eB;exact(List.map_mergeSort (r:=leC) (s:=VT ltV) (f:=Cf.cs) (l:=l) λa _ b _=>rfl).symm
def jM(l:List Pr)(p:List UInt8):Bool:=l.any λx=>x.b==p
def kO(d:List UInt8)(out:List Pr):List Ch->Option (List UInt8)
 | []=>none
 | x::r=>if x.k==1 && x.n.k==1 && d==x.n.d && !jM out x.p then some x.p else kO d out r
def dO(l:List Ch)(out:List Pr)(x:Ch):List Pr :=
 if x.k != 2 || x.o.k != 1 then out else match kO x.o.d out l with
 | some p=>out++[⟨x.p,p⟩]
 | none=>out
def lR(l:List Ch):List Pr:=l.foldl (dO l) []
def dD(l:List Ch):List Pr:=if gA l then lR l else []
theorem SC(l:List Ch):dD l=lR l∨dD l=[]:=by
 unfold dD;split
 .exact .inl rfl
 .exact .inr rfl
def toF(l:List Pr)(p:List UInt8):Option (List UInt8):=match l with
 | []=>none
 | x::r=>if x.a==p then some x.b else toF r p
def zCx(b:List Pr)(x:Pr):List Cf:=match toF b x.a with
 | some tq=>if tq != x.b then [⟨x.a,6⟩] else []
 | none=>[]
def fC(a b:List Pr):List Cf:=a.flatMap (zCx b)
def yN(t:List It)(bad:List Cf)(x:It):List Cf:=if !bC t (aU x.p) && !(bad.any λc=>c.p==aU x.p) then [⟨x.p,7⟩] else []
def fB(t:List It)(bad:List Cf):List Cf:=t.flatMap (yN t bad)
def eH(a b c:List It):List (List UInt8):=Lib.compact (((a++(b++c)).map It.p).mergeSort λx y=>decide (x<=y))
def mgN(b o t:List It)(p:List UInt8):Nd × Bool × Int:=jS ((aM b p).getD nd0) ((aM o p).getD nd0) ((aM t p).getD nd0) (aM b p).isSome (aM o p).isSome (aM t p).isSome
def mgI(b o t:List It)(p:List UInt8):List It:=if (mgN b o t p).2.2 != 0 then [] else if (mgN b o t p).2.1 then [⟨p,(mgN b o t p).1⟩] else []
def mgC(b o t:List It)(p:List UInt8):List Cf:=if (mgN b o t p).2.2 != 0 then [⟨p,(mgN b o t p).2.2⟩] else []
def rU(b o t:List It)(l:List (List UInt8)):List It:=l.flatMap (mgI b o t)
def iY(b o t:List It)(l:List (List UInt8)):List Cf:=l.flatMap (mgC b o t)
def EG(b o t:List It):List It:=rU b o t (eH b o t)
def ZV(b o t:List It):List Cf :=
 eB (iY b o t (eH b o t)++(fB (EG b o t) (iY b o t (eH b o t))++fC (dD (bT b o)) (dD (bT b t))))
def bK(b o t:List It):List It × List Cf:=if (ZV b o t).length==0 then (EG b o t,[]) else ([],ZV b o t)
end Go.Dm
end
