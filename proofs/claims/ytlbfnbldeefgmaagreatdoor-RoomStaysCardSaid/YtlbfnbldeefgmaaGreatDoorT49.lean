/- Part 50 of the proof of roomStays_card, set without needless blanks. No condition. -/
import Derived.Test.YtlbfnbldeefgmaaGreatDoorT48
set_option linter.all false
set_option maxRecDepth 100000
set_option maxHeartbeats 16000000
section
namespace Go.Dm
open Go
section
theorem zLl{t:List It}{c:Cl}(h:(doP t c).2.e≠0):(doP t c).1=t:=by
 unfold doP at h ⊢;split
 .rfl
 .rename_i h1;rw[if_neg h1] at h;split
  .rfl
  .rename_i h2;rw[if_neg h2] at h;split
   .rfl
   .rename_i h3;rw[if_neg h3] at h;split
    .rename_i h4;rw[if_pos h4] at h;exact absurd rfl h
    .rfl
theorem zBU{r:Rm}{d:Dr}(h:Sim r d)(l:Ly):WY r l (treeR r l.i)=r:=if_pos (BX (h.okT l.i))
section
variable {r:Rm}{d:Dr}
variable {s sn o t z:List UInt8}{c:Cl}{l:List Ch}{e:Ev}{n n0:Nm}
theorem zHj(h:Sim r d)(he:(KU r s c).2.e≠0):(KU r s c).1=r:=by
 unfold KU at he ⊢;split
 .rfl
 .rename_i h1;rw[if_neg h1] at he;split
  .rfl
  .rename_i h2;rw[if_neg h2] at he;simp only at he ⊢;rw[zLl he,zBU h]
theorem zIo(h:(vL r s sn).2≠0):(vL r s sn).1=r:=by
 unfold vL at h ⊢
 repeat' split
 all_goals first
  | rfl
  | (exfalso;revert h;simp_all)
theorem zHv(h:(vE r s).2≠0):(vE r s).1=r:=by
 unfold vE at h ⊢
 repeat' split
 all_goals first
  | rfl
  | (exfalso;revert h;simp_all)
theorem zCj(h:(fY r s l).2≠0):(fY r s l).1=r:=by
 unfold fY at h ⊢
 repeat' split
 all_goals first
  | rfl
  | (exfalso;revert h;simp_all)
theorem zEU(h:(gM r o t s).2.2≠0):(gM r o t s).1=r:=by
 unfold gM at h ⊢;generalize eI r o t=y at *;by_cases h1:(!(y.2.2==0))=true
 .rw[if_pos h1]
 rw[if_neg h1] at h ⊢;by_cases h2:(!(gR r s==0))=true
 .rw[if_pos h2]
 rw[if_neg h2] at h ⊢;by_cases h3:(!(gX r y.1.i==0))=true
 .rw[if_pos h3]
 rw[if_neg h3] at h ⊢;dsimp only at h ⊢;generalize eN (treeR r (xD r.L y.1.i y.2.1.i)) (treeR r y.1.i) (treeR r y.2.1.i)=m at *;by_cases h4:(!(m.2.2==0))=true
 .rw[if_pos h4]
 rw[if_neg h4] at h;exact absurd rfl h
theorem zBq(h:(eP r s o).2.2≠0):(eP r s o).1=r:=by
 unfold eP at h ⊢;by_cases h1:(!((wsP r s).2==0))=true
 .rw[if_pos h1]
 rw[if_neg h1] at h ⊢;by_cases h2:(!((snP r o).2==0))=true
 .rw[if_pos h2]
 rw[if_neg h2] at h ⊢;by_cases h3:(!(gX r (snP r o).1.i==0))=true
 .rw[if_pos h3]
 rw[if_neg h3] at h ⊢;dsimp only at h ⊢;generalize eN (treeR r (wsP r s).1.p) (treeR r (snP r o).1.i) (treeR r (wsP r s).1.i)=m at *;by_cases h4:(!(m.2.2==0))=true
 .rw[if_pos h4]
 rw[if_neg h4] at h ⊢;by_cases h5:decide (2147483647<=r.x)=true
 .rw[if_pos h5]
 rw[if_neg h5] at h;exact absurd rfl h
theorem zJd(h:Sim r d)(he:(kR r e).2.e≠0):(kR r e).1=r:=by
 unfold kR at he ⊢
 repeat' split
 all_goals simp_all only[if_true,if_false,Bool.false_eq_true]
 all_goals first
  | rfl
  | exact zHj h he
  | exact zAI he
  | exact zIo he
  | exact zCj he
  | exact zEU he
  | exact zBq he
  | exact zHv he
theorem xU(h:OkW d)(f:bQ d.N s=0)(hz:fV d.N z=some n):z≠s:=λe=>by
 subst e;have:=h.name0 z;rw[f,hz] at this;cases this
theorem qH(h:SimW r d){p q:Int}{t:List It}(hs:aZ s=true)(hp:uU d p)(hq:q=0∨(p≠q/\uU d q))(hc:(bN d.G p).length<=11)(ht:OkT t)
 (hx:d.x<2147483647)(hn:(bL d.N s d.x).length<=20)(z:List UInt8):aW (DG d s p q t) z=if z=s then (t,0) else aW d z:=VG h (CC h hs hp hq hc ht hx hn) z
theorem zAH(h:Sim r d)(hz:fV d.N z=some n):aW (TY d sn s).1 z=aW d z:=by
 unfold TY;cases hn:fV d.N sn with
 | none =>
  obtain⟨_,h2⟩:=bP h.toSimW hn;rw[h2];rfl
 | some m =>
  obtain⟨y,hy,h1,h2,h3,h4,h5⟩:=bY h.toSimW hn;rw[h2,h5,dN h3,dB h3];cases hf:y.1.f
  .rfl
  .simp only[Bool.not_true,Bool.false_eq_true,if_false];cases hfr:(jS d s==0)
   .rfl
   .simp only[Bool.not_true,Bool.false_eq_true,if_false];cases hd:qT d y.1.i
    .simp only[Bool.false_eq_true,if_false];obtain⟨f1,f2,f3,f4,f5⟩:=jW hfr;rw[qH h.toSimW f1 ⟨y,hy,rfl,hf⟩ (.inl rfl) (iT hd) (h.t y hy) f5 (by have:=fE d.N s d.x;omega),if_neg (xU h.toOkW f2 hz)]
    .rfl
theorem VV(h:Sim r d)(hzn:fV d.N z=some n0):aW (wO d o t s).1 z=aW d z:=by
 unfold wO;cases hn:fV d.N o with
 | none =>
  obtain⟨_,h2⟩:=bP h.toSimW hn;rw[h2];rfl
 | some n =>
  obtain⟨y,hy,h1,h2,h3,h4,h5⟩:=bY h.toSimW hn;have hy2:=h.t y hy;rw[h2,h5,dN h3,dB h3];simp only[Bool.false_or];cases hnt:fV d.N t with
  | none =>
   obtain⟨_,k2⟩:=bP h.toSimW hnt;rw[k2];rfl
  | some m =>
   obtain⟨w,hw,k1,k2,k3,k4,k5⟩:=bY h.toSimW hnt;have hw2:=h.t w hw;rw[k2,k5,dN k3,dB k3];simp only[Bool.false_eq_true,if_false];cases hfr2:(!y.1.f || !w.1.f);rotate_left 1
   .rfl
   .simp only[Bool.false_eq_true,if_false];simp only[Bool.or_eq_false_iff,Bool.not_eq_false'] at hfr2;cases hfr:(jS d s==0)
    .rfl
    .simp only[Bool.not_true,Bool.false_eq_true,if_false];cases hd:qT d y.1.i
     .simp only[Bool.false_eq_true,if_false];obtain⟨f1,f2,f3,f4,f5⟩:=jW hfr;have hbk:=h.toOkW.tree (xD d.G y.1.i w.1.i);generalize bU d (xD d.G y.1.i w.1.i)=b at hbk ⊢;cases hc1:decide (0<((fA b y.2 w.2).2.length:Int))
      .simp only[Bool.false_eq_true,if_false];cases hc2:decide (120<((fA b y.2 w.2).1.length:Int))
       .simp only[Bool.false_eq_true,if_false];simp only[decide_eq_false_iff_not] at hc1 hc2;have hok:=pC hbk hy2 hw2 (by omega) (by omega);rw[qH h.toSimW f1 ⟨y,hy,rfl,hfr2.1⟩ ?_ (iT hd) hok f5 (by have:=fE d.N s d.x;omega),if_neg (xU h.toOkW f2 hzn)];by_cases e:w.1.i=y.1.i
        .exact .inl (if_pos (by simpa using e))
        .right;rw[if_neg (by simpa using e)];exact⟨λe'=>e e'.symm,w,hw,rfl,hfr2.2⟩
       .rfl
      .rfl
     .rfl
theorem PY(h:Sim r d)(hzn:fV d.N z=some n0):aW (nV d s o).1 z=aW d z∨(z=s/\eM d n0.l=false/\(aW (nV d s o).1 z).2=0):=by
 unfold nV;cases hn:fV d.N s with
 | none =>
  obtain⟨_,h2⟩:=bP h.toSimW hn;rw[h2];exact .inl rfl
 | some n =>
  obtain⟨y,hy,h1,h2,h3,h4,h5⟩:=bY h.toSimW hn;have hy2:=h.t y hy;rw[h2,h5,dN h3,dB h3];cases hf:y.1.f;rotate_left 1
  .exact .inl rfl
  .simp only [Bool.false_eq_true,if_false];cases hnt:fV d.N o with
   | none =>
    obtain⟨_,k2⟩:=bP h.toSimW hnt;rw[k2];exact .inl rfl
   | some m =>
    obtain⟨w,hw,k1,k2,k3,k4,k5⟩:=bY h.toSimW hnt;have hw2:=h.t w hw;rw[k2,k5,dN k3,dB k3];cases hfz:w.1.f
    .exact .inl rfl
    .simp only[Bool.false_eq_true,if_false,Bool.not_true];cases hd:qT d w.1.i
     .simp only[Bool.false_eq_true,if_false];have hbk:=h.toOkW.tree (zOl d y.1.i);generalize bU d (zOl d y.1.i)=b at hbk ⊢;cases hc1:decide (0<((fA b w.2 y.2).2.length:Int))
      .simp only[Bool.false_eq_true,if_false];cases hc2:decide (120<((fA b w.2 y.2).1.length:Int))
       .simp only[Bool.false_eq_true,if_false,Bool.false_or];cases hc3:decide (2147483647<=d.x)
        .simp only[Bool.false_eq_true,if_false];simp only[decide_eq_false_iff_not] at hc1 hc2 hc3;have hok:=pC hbk hw2 hy2 (by omega) (by omega);obtain⟨g1,g2⟩:=cN hn;have hsn:aZ s=true:=by rw[<- g2];exact(h.nm n g1).1
         have hlen2:(bL d.N s d.x).length<=20:=by
          rw[<- g2,kG h.srt g1,List.length_set];exact h.ln
         rw[qH h.toSimW hsn ⟨w,hw,rfl,hfz⟩ (.inl rfl) (iT hd) hok (by omega) hlen2];split
         .rename_i e;subst e;rw[hn] at hzn;cases hzn;exact .inr ⟨rfl,by rw[<- h4,dN h3,hf],rfl⟩
         .exact .inl rfl
        .exact .inl rfl
       .exact .inl rfl
      .exact .inl rfl
     .exact .inl rfl
theorem VA(h:OkW d){id:Int}{N:List Nm}(z:List UInt8)(hN:fV N z=fV d.N z):aW ⟨vM id d.L,N,d.x⟩ z=aW d z:=by
 have e:bQ N z=bQ d.N z:=by unfold bQ;rw[hN]
 unfold aW;show (if bQ N z==0 then ([],6) else (bU (zKj d id) (bQ N z),0))=_
 rw[e,xW h]
theorem NA(h:Sim r d)(hzn:fV d.N z=some n0):aW (iM d s sn).1 z=aW d z:=by
 unfold iM;cases hn:fV d.N s with
 | none =>
  obtain⟨_,h2⟩:=bP h.toSimW hn;rw[h2];rfl
 | some n =>
  obtain⟨y,hy,h1,h2,h3,h4,h5⟩:=bY h.toSimW hn;rw[h2,h5,dN h3,dB h3];cases hf:y.1.f;rotate_left 1
  .rfl
  .simp only[Bool.false_eq_true,if_false];cases hfr:(jS d sn==0)
   .rfl
   .simp only[Bool.not_true,Bool.false_eq_true,if_false];cases hd:qT d y.1.i
    .simp only[Bool.false_eq_true,if_false];obtain⟨f1,f2,f3,f4,f5⟩:=jW hfr;obtain⟨g1,g2⟩:=cN hn;have hwf:=sF h.toSimW y.1.i;have hmem:∀n,n∈bL d.N sn y.1.i↔n=⟨sn,y.1.i⟩∨(n∈d.N/\n.n≠sn):=λn=>jB h.srt;have hcl:=fE d.N sn y.1.i;have hwn:SimW ⟨bL d.N sn y.1.i,oC r.L y.1.i,r.E,r.x⟩ ⟨vM y.1.i d.L,bL d.N sn y.1.i,d.x⟩:=mW hwf (N:=bL d.N sn y.1.i) (jC h.srt sn y.1.i) (λm hm=>by
      rcases (hmem m).1 hm with rfl|⟨g1,_⟩
      .exact⟨f1,_,eU h.g.inc (id:=y.1.i) hy,rfl⟩
      .exact hwf.nm m g1) (λa ha b hb e hfz=>by
      have hfz2:∀z∈d.L,z.1.i=a.l->z.1.i≠y.1.i/\z.1.f=false:=λz hz hza=>by
       have:=hfz _ (eU h.g.inc (id:=y.1.i) hz) hza;simp only[zX,Bool.or_eq_false_iff] at this;exact⟨by simpa using this.2,this.1⟩
      rcases (hmem a).1 ha with rfl|⟨g1,_⟩<;>rcases (hmem b).1 hb with rfl|⟨g2,_⟩
      .rfl
      .exact absurd rfl (hfz2 y hy rfl).1
      .exact absurd rfl (hfz2 y hy e.symm).1
      .exact h.one a g1 b g2 e λz hz hza=>(hfz2 z hz hza).2) (by omega)
     have hsn:aZ s=true:=by rw[<- g2];exact(h.nm n g1).1
     have hfa:uU ⟨vM y.1.i d.L,bL d.N sn y.1.i,d.x⟩ y.1.i:=⟨_,eU h.g.inc (id:=y.1.i) hy,rfl,by show (y.1.f || y.1.i==y.1.i)=true;simp⟩
     have hGeq:(⟨vM y.1.i d.L,bL d.N sn y.1.i,d.x⟩:Dr).G=oC d.G y.1.i:=zAL h.g.inc y.1.i;have hne:s≠sn:=xU h.toOkW f2 hn;have hin:(⟨n.n,n.l⟩:Nm)∈bL d.N sn y.1.i:=(hmem _).2 (.inr ⟨g1,by rw[g2];exact hne⟩)
     have hlen2:(bL (bL d.N sn y.1.i) s d.x).length<=20:=by
      rw[<- g2,kG (jC h.srt sn y.1.i) hin];rw[List.length_set];omega
     rw[qH hwn hsn hfa (.inl rfl) (by rw[hGeq,tH];exact iT hd) (h.t y hy) f5 hlen2];split
     .rename_i e;subst e;rw[dO h.toOkW hn,<- h4,dB h3]
     .refine VA h.toOkW z ?_;rw[PA h.srt,if_neg (xU h.toOkW f2 hzn)]
    .rfl
theorem GN(h:Sim r d){m:Nm}{t:List It}(hs:fV d.N s=some m)(hz:fV d.N z=some n)(hf:eM d m.l=true->t=bU d m.l):
  aW (mD d m.l t) z=aW d z∨(z=s/\eM d n.l=false/\(aW (mD d m.l t) z).2=0):=by
 obtain⟨a1,a2⟩:=cN hs;obtain⟨b1,b2⟩:=cN hz;obtain⟨y,c1,c2,c3⟩:=h.toOkW.named a1;have hsome:(qY d m.l).isSome=true:=by rw[c1];rfl
 have h0:(bQ d.N z==0)=false:=by rw[h.toOkW.name0,hz];rfl
 have hnz:bQ d.N z=n.l:=by unfold bQ;rw[hz]
 have e1:aW (mD d m.l t) z=(if n.l=m.l then t else bU d n.l,0):=by
  unfold aW;show (if bQ d.N z==0 then _ else (bU (mD d m.l t) (bQ d.N z),(0:Int)))=_
  rw[h0,hnz,RY hsome];rfl
 have e2:aW d z=(bU d n.l,0):=dO h.toOkW hz;rw[e1,e2];by_cases e:n.l=m.l
 .rw [if_pos e];cases hfr:eM d m.l
  .right;have:n=m:=h.one n b1 m a1 e λw hw hwi=>by
    have:=nP h.g.inc hw;rw[hwi,e] at this;unfold eM at hfr;rw[this] at hfr;exact hfr
   subst this;exact⟨by rw[<- b2,a2],hfr,rfl⟩
  .exact .inl (by rw[hf hfr,e])
 .exact .inl (by rw[if_neg e])
theorem zHs(h:Sim r d)(hz:fV d.N z=some n):aW (doD d s c).1 z=aW d z∨(z=s/\eM d n.l=false/\(aW (doD d s c).1 z).2=0):=by
 unfold doD;cases hs:fV d.N s with
 | none =>
  obtain⟨_,h2⟩:=bP h.toSimW hs;rw[h2];exact .inl rfl
 | some m =>
  have hm:bQ d.N s=m.l:=by unfold bQ;rw[hs]
  have h0:(bQ d.N s==0)=false:=by rw[h.toOkW.name0,hs];rfl
  rw[h0,hm];simp only[Bool.false_eq_true,if_false];split
  .exact .inl rfl
  .rename_i hfr;split
   .exact .inl rfl
   .refine GN h hs hz λhf=>?_;rw[hf] at hfr;rw[<- zNy (h.toOkW.tree _),zDa (by simpa using hfr)]
theorem SK(h:Sim r d)(hz:fV d.N z=some n):aW (wF d s l).1 z=aW d z∨(z=s/\eM d n.l=false/\(aW (wF d s l).1 z).2=0):=by
 unfold wF;cases hs:fV d.N s with
 | none =>
  obtain⟨_,h2⟩:=bP h.toSimW hs;rw[h2];exact .inl rfl
 | some m =>
  have hm:bQ d.N s=m.l:=by unfold bQ;rw[hs]
  have h0:(bQ d.N s==0)=false:=by rw[h.toOkW.name0,hs];rfl
  rw[h0,hm];simp only[Bool.false_eq_true,if_false];split
  .exact .inl rfl
  .rename_i hfr;split
   .exact .inl rfl
   .exact GN h hs hz λhf=>absurd hf hfr
theorem zBn(h:Sim r d)(hz:fV d.N z=some n):
  aW (PR d e).1 z=aW d z∨(z=e.n/\eM d n.l=false/\(aW (PR d e).1 z).2=0)∨(e.k=8/\z=e.n/\aW (PR d e).1 z=([],6)):=by
 have hl:∀{P Q:Prop},P∨Q->∀{S:Prop},P∨Q∨S:=λh _=>h.elim .inl λh=>.inr (.inl h);unfold PR;split
 .exact hl (zHs h hz)
 split
 .exact .inl (NA h hz)
 split
 .exact .inl (zAH h hz)
 split
 .exact .inl rfl
 split
 .split
  .exact hl (SK h hz)
  .exact .inl rfl
 split
 .exact .inl (VV h hz)
 split
 .exact hl (PY h hz)
 split
 .rename_i h8;rw[TQ h];split
  .rename_i e1;exact .inr (.inr ⟨by simpa using h8,e1,rfl⟩)
  .exact .inl rfl
 .exact .inl rfl
end
end
section
def RP(d:Dr)(N:List Nm):List (List It):=N.map λn=>bU d n.l
theorem zB5(d:Dr)(N:List Nm):(RP d N).length=N.length:=by simp[RP]
theorem zGq{d:Dr}{N:List Nm}{k:Nat}{n:Nm}(h:N[k]?=some n):(RP d N)[k]?=some (bU d n.l):=by simp[RP,h]
theorem YF{t:List (List It)}{k:Nat}{x:List It}(h:t[k]?=some x):(vH t).getD k []=[.sl 5 (aQ x)]:=by
 simp only[vH,List.getD_eq_getElem?_getD,List.getElem?_map,h];rfl
section
variable {r:Rm}{d:Dr}
variable {k j:Nat}{n x:Nm}{N:List Nm}
theorem zE0(h:Sim r d)(hn:r.N[k]?=some n):fV d.N n.n=some n:=by
 have:=List.mem_of_getElem? hn;rw[h.N] at this;exact JQ h.srt this
theorem zBW(h:Sim r d)(hn:r.N[k]?=some n):cO r n.n=(bU d n.l,0):=by
 rw[mY h.toSimW,dO h.toOkW (zE0 h hn)]
theorem zJx(h:Sim r d){e:Ev}(he:OkEv e)(hn:r.N[k]?=some n):
  ∃y:Ly,dR r.L n.l=some y/\(cO (kR r e).1 n.n=(bU d n.l,0)∨(∃t,cO (kR r e).1 n.n=(t,0)/\n.n=e.n/\y.f=false)∨(cO (kR r e).1 n.n=([],6)/\e.k=8/\n.n=e.n)):=by
 have hz:=zE0 h hn;obtain⟨g1,g2⟩:=cN hz;obtain⟨y,h1,h2,h3⟩:=h.toOkW.named g1;have hG:dR r.L n.l=some y.1:=by rw[h.L,zD6,h1];rfl
 have hs:=(YZ h he).2;rw[mY hs.toSimW];have e2:aW d n.n=(bU d n.l,0):=dO h.toOkW hz;refine⟨y.1,hG,?_⟩;rcases zBn h (e:=e) hz with k1|⟨k1,k2,k3⟩|⟨k1,k2,k3⟩
 .exact .inl (k1.trans e2)
 .refine .inr (.inl ⟨(aW (PR d e).1 n.n).1,Prod.ext rfl k3,k1,?_⟩);unfold eM at k2;rw[h1] at k2;exact k2
 .exact .inr (.inr ⟨k3,k1,k2⟩)
end
end
end Go.Dm
end
section
namespace Go.Proofs.YtlbfnbldeefgmaaGreatDoor
open Go Go.Dm Go.Proofs Go.Proofs.Tryz
def SX(r:Rm):aB:=[.box [.p (.sl 2 (aV r.N)),.p (.sl 4 (cM r.L)),.mp 1,.p (.i .i64 r.x)],.mp (jI r.E)]
theorem zLD{h:aB}{i n:Nat}{l:List Ly}{a:Int}{K:DV->aB->Prop}(hl:l.length<=1000000)(hn:n=l.length)(h0:h[i]?=some (.arr 4 (cM l) false))(hk:K (.tup [.agg ((dR l a).getD ly0).cv,.c (.p (.b (dR l a).isSome))]) h):
  aA prog 79 [.c (.own i 0 n),.c (.p (.i .i64 a))] h K :=
 XF rfl (by rw[hn,<- eY,List.take_length]) (zLC hl) h0 (λd hd=>by subst hd;exact⟨rfl,hk⟩)
theorem LN{r:Rm}(hr:OkR r):aA prog 36 [.c (.ptr 0 0)] (SX r) λd h=>d=.c (.own 2 0 r.L.length)/\h=SX r++[.arr 4 (cM r.L) false]:=by
 have hll:=hr.ll;have hc:=HD (l:=r.L) (by omega);rw[eY] at hc;unfold SX;refine nJ aD aL func36 rfl rfl λX0 hX=>?_;simp only[f36,go_sem]
 repeat' (first|exact⟨⟩|refine sp ?_|refine uS [] (hc) ?_)
theorem VF{r:Rm}{a:Int}{y:Ly}(hr:OkR r)(hy:dR r.L a=some y):aA prog 40 [.c (.ptr 0 0),.c (.p (.i .i64 a))] (SX r) λd h=>d=.tup [.agg y.cv,.c (.p (.b true))]/\h=SX r:=by
 have hll:=hr.ll;have hc:=LN hr;have hf:∀{h:aB} {K:DV->aB->Prop},h[3]?=some (.arr 4 (cM r.L) false)->K (.tup [.agg y.cv,.c (.p (.b true))]) h->aA prog 79 [.c (.own 3 0 r.L.length),.c (.p (.i .i64 a))] h K:=λh0 hk =>
  zLD (by omega) rfl h0 (by rw[hy];exact hk)
 unfold SX at *;obtain⟨yi,yp,ys,yf⟩:=y;simp only[Ly.cv] at hf ⊢;clear hr hy;refine eT func40 λX0 hX=>?_;simp only[f40,go_sem]
 repeat' (first|exact⟨⟩|refine sp ?_|refine uS [0,1] (hc) ?_)
def zFW(r q:Rm):aB:=[.box [.own 1 0 r.N.length,.own 2 0 r.L.length,.mp 3,.p (.i .i64 r.x)],.arr 2 (aV r.N) false,.arr 4 (cM r.L) false,.mp (jI r.E),.box [.p (.sl 2 (aV q.N)),.p (.sl 4 (cM q.L)),.mp 5,.p (.i .i64 q.x)],.mp (jI q.E)]
theorem KG{l:List RW}(hl:l.length<=9223372036854775807)(hx:∀x∈l,zM5 x):
  aA prog 7 [.c (.p (.sl 17 (zS l)))] [] λr h=>r=.c (.p (.b true))/\h=[]:=by
 refine eT func7 λX0 hX=>?_;simp only[Tryz.f7,go_sem]
 repeat' (first|exact⟨⟩|refine sq ?_|refine uS [] (QG) ?_|refine uF (zEy) ?_)
 refine dE aD aL (α:=Nat × Rm) (λx=>⟨140,[(0,.c (.p (.sl 17 (zS l)))),(3,.c (.ptr 0 0)),(4,.c (.p (.i .i64 x.1)))],[.box [.own 1 0 x.2.N.length,.own 2 0 x.2.L.length,.mp 3,.p (.i .i64 x.2.x)],.arr 2 (aV x.2.N) false,.arr 4 (cM x.2.L) false,.mp (jI x.2.E)]⟩)
  (λx=>x.1<=30/\∃d,Sim x.2 d) (λx=>30-x.1) (0,zNa) ⟨Nat.zero_le _,_,VZ⟩ (cJ (aF (by rw[hX];rfl) rfl rfl wkK)) ?_
 rintro⟨i,r⟩ ⟨hi,d,hs⟩;simp only at hi hs ⊢;by_cases hlt:i<30;rotate_left 1
 .have h1:decide ((i:Int)<30)=false:=decide_eq_false (by omega);by_cases hlc:i<l.length
  .have h5:decide ((i:Int)<(l.length:Int))=true:=decide_eq_true (by omega)
   repeat' (first|exact⟨⟩|refine sp ?_)
  .have h5:decide ((i:Int)<(l.length:Int))=false:=decide_eq_false (by omega)
   repeat' (first|exact⟨⟩|refine sp ?_)
 have h1:decide ((i:Int)<30)=true:=decide_eq_true (by omega);have h3:(0:Int)<=i:=by omega
 have w1:IntKind.i64.wrap ((i:Int)+1)=i+1:=wrap_i64 (by omega) (by omega);by_cases hlc:i<l.length;rotate_left 1
 .have h5:decide ((i:Int)<(l.length:Int))=false:=decide_eq_false (by omega)
  repeat' (first|exact⟨⟩|refine sp ?_)
 have hxx:l[i]?=some l[i]:=List.getElem?_eq_getElem hlc;have hg:=zH9 hxx;have h5:decide ((i:Int)<(l.length:Int))=true:=decide_eq_true (by omega);have h6:(i:Int)<(l.length:Int):=by omega
 obtain ⟨e,hok,hmk⟩:=zIO (hx _ (List.getElem_mem hlc));generalize l[i]=x at hxx hg hmk;have hpl:=zJc hs hok;have hsim:=(YZ hs hok).2;have hbad:((kR r e).2.e != 0)=true->(kR r e).1=r:=λh=>zJd hs (by simpa using h);have hat:=λ{k:Nat} {n:Nm} (hn:r.N[k]?=some n)=>zJx hs hok hn;have hct:=λ{k:Nat} {n:Nm} (hn:r.N[k]?=some n)=>zKH hs (zBW hs hn);have hct2:=λ{s:List UInt8} {t:List It} {e':Int} (he:cO (kR r e).1 s=(t,e'))=>zKH hsim he;have hgf:=λ{a:Int} {y:Ly} (hy:dR r.L a=some y)=>VF hs.okR hy;have hsT:=λ(a:Int)=>zMl (a:=bU d a) (Nat.le_trans (hs.toOkW.tree a).len (by decide));have cn:=BS hs.okR;have cc:=zBH hs.okR;have hnl:=hs.okR.nl;have hcs:((kR r e).2.e != 0)=true->aA prog 15 [.c (.ptr 0 0),.c (.ptr 4 0)] (zFW (kR r e).1 r) λd h=>d=.c (.p (.b true))/\h=zFW (kR r e).1 r:=λh=>by
  rw[hbad h];exact zBO hs.okR
 have hfin:PLift (∃d,Sim (kR r e).1 d):=⟨_,hsim⟩;generalize kR r e=pr at *;obtain⟨r2,⟨we,⟨ae,⟨ak,am,at_,ad⟩,ab,al⟩,wc,wf⟩⟩:=pr;obtain⟨ek,en,et,em,ec,eq,eb⟩:=e;simp only at *;have hTl:=zB5 d r.N;have hTa:=λ{k:Nat} {n:Nm} (hn:r.N[k]?=some n)=>zGq (d:=d) hn;generalize hTT:RP d r.N=TT at *;unfold SX at hgf;unfold zFW at hcs;unfold zBG at cc;clear hx hs hok hbad hsim hxx hlc hTT
 repeat' (first|exact⟨⟩|refine sp ?_|refine uN (hmk) ?_|refine uS [0,1,2,3] (cn) ?_)
 refine dE aD aL (α:=Nat) (λk=>⟨140,[(0,.c (.p (.sl 17 (zS l)))),(3,.c (.ptr 0 0)),(4,.c (.p (.i .i64 i))),(5,.c (.ptr 4 0)),(6,.c (.own 5 0 r.N.length)),(7,.c (.own 6 0 k)),(8,.c (.p (.i .i64 k)))],[.box [.own 1 0 r.N.length,.own 2 0 r.L.length,.mp 3,.p (.i .i64 r.x)],.arr 2 (aV r.N) false,.arr 4 (cM r.L) false,.mp (jI r.E),.box [.p (.i .i64 ek),.p (.s en),.p (.s et),.p (.s em),.p (.i .i64 ec.k),.p (.s ec.p),.p (.s ec.to'),.p (.i .i64 ec.m),.p (.f ec.t),.p (.i .i64 ec.at'),.p (.i .i64 ec.n),.p (.sl 1 (bJ ec.d)),.p (.i .i64 eq),.p (.sl 1 (bJ eb))],.arr 2 (aV r.N) false,.arr 1 (vH (TT.take k)) false]⟩)
  (λk=>k<=r.N.length) (λk=>r.N.length-k) 0 (Nat.zero_le _) ((pA 7 1 rfl).trans (cJ (aF (by rw[hX];rfl) rfl rfl wkK))) ?_
 intro k hkl;by_cases hkn:k<r.N.length
 .have hn:r.N[k]?=some r.N[k]:=List.getElem?_eq_getElem hkn;have hgn:=jV hn;have ct:=hct hn;have ht:=hTa hn;generalize r.N[k]=n at hn hgn ct ht;have hsn:TT.take (k+1)=TT.take k++[bU d n.l]:=by rw[List.take_add_one,ht];rfl
  have htl:(TT.take k).length=k:=by rw[List.length_take];omega
  have hLl:(vH (TT.take k)).length=k:=by rw[MQ,htl]
  have u1:decide ((k:Int)<(r.N.length:Int))=true:=decide_eq_true (by omega);have u2:(k:Int)<(r.N.length:Int):=by omega
  have u3:(0:Int)<=k:=by omega
  have u4:IntKind.i64.wrap ((k:Int)+1)=k+1:=wrap_i64 (by omega) (by omega);generalize bU d n.l=t at ct hsn;have hsn:=PLift.up hsn;generalize TT.take k=S at hsn htl hLl ⊢;clear hn hTl hTa hct hct2 hgf hsT hmk hpl hat cn cc hcs hfin ht
  repeat' (first|exact⟨⟩|refine sp ?_|refine uS [0,1,2,3] (ct) ?_|((with_reducible refine And.intro ?_ ?_);((first|omega|decide))))
  exact kT (k+1) (by omega) (by omega) (by rw[hsn.down];exact cF (dQ [0,1,2,3,4,5,8] rfl hpK rfl wpK))
 have hke:k=r.N.length:=by omega
 subst hke;rw[show TT.take r.N.length=TT by rw[<- hTl];exact List.take_length]
 have u1:decide ((r.N.length:Int)<(r.N.length:Int))=false:=decide_eq_false (by omega);cases hw:(we != 0)
 .clear hcs hct cn
  repeat' (first|exact⟨⟩|refine sp ?_|refine uS [0,1,2,3] (cc) ?_|refine uS [0,1,2,3] (hpl) ?_)
  refine dE aD aL (α:=Nat) (λk=>⟨140,[(0,.c (.p (.sl 17 (zS l)))),(3,.c (.ptr 0 0)),(4,.c (.p (.i .i64 i))),(5,.c (.ptr 4 0)),(6,.c (.own 5 0 r.N.length)),(7,.c (.own 6 0 r.N.length)),(11,.c (.ptr 7 0)),(13,.c (.p (.i .i64 k)))],[.box [.own 1 0 r2.N.length,.own 2 0 r2.L.length,.mp 3,.p (.i .i64 r2.x)],.arr 2 (aV r2.N) false,.arr 4 (cM r2.L) false,.mp (jI r2.E),.box [.p (.i .i64 ek),.p (.s en),.p (.s et),.p (.s em),.p (.i .i64 ec.k),.p (.s ec.p),.p (.s ec.to'),.p (.i .i64 ec.m),.p (.f ec.t),.p (.i .i64 ec.at'),.p (.i .i64 ec.n),.p (.sl 1 (bJ ec.d)),.p (.i .i64 eq),.p (.sl 1 (bJ eb))],.arr 2 (aV r.N) false,.arr 1 (vH TT) false,.box [.p (.sl 2 (aV r.N)),.p (.sl 4 (cM r.L)),.mp 8,.p (.i .i64 r.x)],.mp (jI r.E)]⟩)
   (λk=>k<=r.N.length) (λk=>r.N.length-k) 0 (Nat.zero_le _) (by rw[hX];exact cF (dQ [0,9,10,11,4,5,6,7,8] rfl hpK rfl wpK)) ?_
  intro k hkl;by_cases hkn:k<r.N.length
  .have hn:r.N[k]?=some r.N[k]:=List.getElem?_eq_getElem hkn;have hgn:=jV hn;have hgt:=YF (hTa hn);obtain⟨y,hy,hca⟩:=hat hn;generalize r.N[k]=n at hn hgn hgt hy hca;have gf:=hgf hy;have cT:=hsT n.l;have u1:decide ((k:Int)<(r.N.length:Int))=true:=decide_eq_true (by omega);have u2:(k:Int)<(r.N.length:Int):=by omega
   have u5:(k:Int)<(TT.length:Int):=by omega
   have u6:r.N.length<=TT.length:=by omega
   have u3:(0:Int)<=k:=by omega
   have u4:IntKind.i64.wrap ((k:Int)+1)=k+1:=wrap_i64 (by omega) (by omega);generalize bU d n.l=t at hgt hca cT;obtain⟨yi,yp,ys,yf⟩:=y;simp only[Ly.cv] at gf hca;rcases hca with hca|⟨t2,hca,e1,e2⟩|⟨hca,e1,e2⟩
   .have ct2:=hct2 hca;clear hn hTl hTa hct2 hgf hsT hmk hpl hat cc hfin hy hca;cases hne:(n.n==en)<;>cases yf
    all_goals repeat' (first|exact⟨⟩|refine sp ?_|refine uS [0,1,2,3] (ct2) ?_|refine uS [7,8] (gf) ?_|((refine aG (id:=29) aD aL [] [0,1,2,3,4,5,6,7,8,9,10,11,12,13,14,15,16,17,18,19,20] (by decide +kernel) ?_);(repeat' (first|(refine aO ?_)|((refine bK ?_ rfl rfl ?_ ?_);(rotate_left 1);(focus ((repeat' (first|exact⟨⟩|refine sq ?_|refine uF (cT) ?_|refine ai ?_));exact rfl));(simp only[aC]))))))
    all_goals first|exact kT (k+1) (by omega) (by omega) (cF (dQ [0,1,2,3,4,5,6,7,8] rfl hpK rfl wpK))|trace_state
   .have ct2:=hct2 hca;have hne:(n.n==en)=true:=by rw[e1];simp
    subst e2;clear hn hTl hTa hct2 hgf hsT hmk hpl hat cc hfin hy hca e1
    repeat' (first|exact⟨⟩|refine sp ?_|refine uS [0,1,2,3] (ct2) ?_|refine uS [7,8] (gf) ?_|((refine aG (id:=29) aD aL [] [0,1,2,3,4,5,6,7,8,9,10,11,12,13,14,15,16,17,18,19,20] (by decide +kernel) ?_);(repeat' (first|(refine aO ?_)|((refine bK ?_ rfl rfl ?_ ?_);(rotate_left 1);(focus ((repeat' (first|exact⟨⟩|refine sq ?_));exact rfl));(simp only[aC]))))))
    first|exact kT (k+1) (by omega) (by omega) (cF (dQ [0,1,2,3,4,5,6,7,8] rfl hpK rfl wpK))|trace_state
   .have ct2:=hct2 hca;have hne:(en==n.n)=true:=by rw[e2];simp
    have hk8:(ek==8)=true:=by rw[e1];rfl
    have hk9:(ek != 8)=false:=by rw[e1];rfl
    clear hn hTl hTa hct2 hgf hsT hmk hpl hat cc hfin hy hca e1 e2
    repeat' (first|exact⟨⟩|refine sp ?_|refine uS [0,1,2,3] (ct2) ?_|refine uS [7,8] (gf) ?_|((refine aG (id:=27) aD aL [] [0,1,2,3,4,5,6,7,8,9,10,11,12] (by decide +kernel) ?_);(repeat' (first|(refine aO ?_)|((refine bK ?_ rfl rfl ?_ ?_);(rotate_left 1);(focus ((repeat' (first|exact⟨⟩|refine sq ?_));exact rfl));(simp only[aC]))))))
    first|exact kT (k+1) (by omega) (by omega) (cF (dQ [0,1,2,3,4,5,6,7,8] rfl hpK rfl wpK))|trace_state
  have hke:k=r.N.length:=by omega
  subst hke;clear hTa hct2 hgf hsT hmk hpl hat cc
  repeat' (first|exact⟨⟩|refine sp ?_)
  exact kT (i+1,r2) ⟨by simp only;omega,hfin.down⟩ (by simp only;omega) (cF (dQ [0,1,2,3] rfl hpK rfl wpK))
 .have cs:=hcs hw;clear hcs hct cn
  repeat' (first|exact⟨⟩|refine sp ?_|refine uS [0,1,2,3] (cc) ?_|refine uS [0,1,2,3] (hpl) ?_|refine uS [0,9,10,11,7,8] (cs) ?_)
  refine dE aD aL (α:=Nat) (λk=>⟨140,[(0,.c (.p (.sl 17 (zS l)))),(3,.c (.ptr 0 0)),(4,.c (.p (.i .i64 i))),(5,.c (.ptr 4 0)),(6,.c (.own 5 0 r.N.length)),(7,.c (.own 6 0 r.N.length)),(11,.c (.ptr 7 0)),(13,.c (.p (.i .i64 k)))],[.box [.own 1 0 r2.N.length,.own 2 0 r2.L.length,.mp 3,.p (.i .i64 r2.x)],.arr 2 (aV r2.N) false,.arr 4 (cM r2.L) false,.mp (jI r2.E),.box [.p (.i .i64 ek),.p (.s en),.p (.s et),.p (.s em),.p (.i .i64 ec.k),.p (.s ec.p),.p (.s ec.to'),.p (.i .i64 ec.m),.p (.f ec.t),.p (.i .i64 ec.at'),.p (.i .i64 ec.n),.p (.sl 1 (bJ ec.d)),.p (.i .i64 eq),.p (.sl 1 (bJ eb))],.arr 2 (aV r.N) false,.arr 1 (vH TT) false,.box [.p (.sl 2 (aV r.N)),.p (.sl 4 (cM r.L)),.mp 8,.p (.i .i64 r.x)],.mp (jI r.E)]⟩)
   (λk=>k<=r.N.length) (λk=>r.N.length-k) 0 (Nat.zero_le _) (by rw[hX];exact cF (dQ [0,9,10,11,4,5,6,7,8] rfl hpK rfl wpK)) ?_
  intro k hkl;by_cases hkn:k<r.N.length
  .have hn:r.N[k]?=some r.N[k]:=List.getElem?_eq_getElem hkn;have hgn:=jV hn;have hgt:=YF (hTa hn);obtain⟨y,hy,hca⟩:=hat hn;generalize r.N[k]=n at hn hgn hgt hy hca;have gf:=hgf hy;have cT:=hsT n.l;have u1:decide ((k:Int)<(r.N.length:Int))=true:=decide_eq_true (by omega);have u2:(k:Int)<(r.N.length:Int):=by omega
   have u5:(k:Int)<(TT.length:Int):=by omega
   have u6:r.N.length<=TT.length:=by omega
   have u3:(0:Int)<=k:=by omega
   have u4:IntKind.i64.wrap ((k:Int)+1)=k+1:=wrap_i64 (by omega) (by omega);generalize bU d n.l=t at hgt hca cT;obtain⟨yi,yp,ys,yf⟩:=y;simp only[Ly.cv] at gf hca;rcases hca with hca|⟨t2,hca,e1,e2⟩|⟨hca,e1,e2⟩
   .have ct2:=hct2 hca;clear hn hTl hTa hct2 hgf hsT hmk hpl hat cc hfin hy hca;cases hne:(n.n==en)<;>cases yf
    all_goals repeat' (first|exact⟨⟩|refine sp ?_|refine uS [0,1,2,3] (ct2) ?_|refine uS [7,8] (gf) ?_|((refine aG (id:=29) aD aL [] [0,1,2,3,4,5,6,7,8,9,10,11,12,13,14,15,16,17,18,19,20] (by decide +kernel) ?_);(repeat' (first|(refine aO ?_)|((refine bK ?_ rfl rfl ?_ ?_);(rotate_left 1);(focus ((repeat' (first|exact⟨⟩|refine sq ?_|refine uF (cT) ?_|refine ai ?_));exact rfl));(simp only[aC]))))))
    all_goals first|exact kT (k+1) (by omega) (by omega) (cF (dQ [0,1,2,3,4,5,6,7,8] rfl hpK rfl wpK))|trace_state
   .have ct2:=hct2 hca;have hne:(n.n==en)=true:=by rw[e1];simp
    subst e2;clear hn hTl hTa hct2 hgf hsT hmk hpl hat cc hfin hy hca e1
    repeat' (first|exact⟨⟩|refine sp ?_|refine uS [0,1,2,3] (ct2) ?_|refine uS [7,8] (gf) ?_|((refine aG (id:=29) aD aL [] [0,1,2,3,4,5,6,7,8,9,10,11,12,13,14,15,16,17,18,19,20] (by decide +kernel) ?_);(repeat' (first|(refine aO ?_)|((refine bK ?_ rfl rfl ?_ ?_);(rotate_left 1);(focus ((repeat' (first|exact⟨⟩|refine sq ?_));exact rfl));(simp only[aC]))))))
    first|exact kT (k+1) (by omega) (by omega) (cF (dQ [0,1,2,3,4,5,6,7,8] rfl hpK rfl wpK))|trace_state
   .have ct2:=hct2 hca;have hne:(en==n.n)=true:=by rw[e2];simp
    have hk8:(ek==8)=true:=by rw[e1];rfl
    have hk9:(ek != 8)=false:=by rw[e1];rfl
    clear hn hTl hTa hct2 hgf hsT hmk hpl hat cc hfin hy hca e1 e2
    repeat' (first|exact⟨⟩|refine sp ?_|refine uS [0,1,2,3] (ct2) ?_|refine uS [7,8] (gf) ?_|((refine aG (id:=27) aD aL [] [0,1,2,3,4,5,6,7,8,9,10,11,12] (by decide +kernel) ?_);(repeat' (first|(refine aO ?_)|((refine bK ?_ rfl rfl ?_ ?_);(rotate_left 1);(focus ((repeat' (first|exact⟨⟩|refine sq ?_));exact rfl));(simp only[aC]))))))
    first|exact kT (k+1) (by omega) (by omega) (cF (dQ [0,1,2,3,4,5,6,7,8] rfl hpK rfl wpK))|trace_state
  have hke:k=r.N.length:=by omega
  subst hke;clear hTa hct2 hgf hsT hmk hpl hat cc
  repeat' (first|exact⟨⟩|refine sp ?_)
  exact kT (i+1,r2) ⟨by simp only;omega,hfin.down⟩ (by simp only;omega) (cF (dQ [0,1,2,3] rfl hpK rfl wpK))
end Go.Proofs.YtlbfnbldeefgmaaGreatDoor
end
