/- Part 21 of the proof of roomDrops_card, set without needless blanks. No condition. -/
import Derived.Test.YtlbfnbldeefgmaaGreatDoorS19
set_option linter.all false
set_option maxRecDepth 100000
set_option maxHeartbeats 16000000
section
namespace Go.Dm
open Go
section
variable {r:Rm}{d:Dr}{id p q:Int}{y:Ly × List It}{s:List UInt8}{t:List It}
theorem qB(h:SimW r d){N:List Nm}(hs:uL N)(hn:∀n∈N,bD n.n=true/\∃y∈d.L,y.1.i=n.l)
 (h1:∀n∈N,∀m∈N,n.l=m.l->(∀y∈d.L,y.1.i=n.l->y.1.f=false)->n=m)(hl:N.length<=20):SimW ⟨N,r.L,r.E,r.x⟩ ⟨d.L,N,d.x⟩ :=
 { g:=h.g,t:=h.t,srt:=hs,nm:=hn,one:=h1,nx:=h.nx,ln:=hl,N:=rfl,L:=h.L,x:=h.x,e:=h.e }
theorem pT: ∀{l:List (Ly × List It)},pJ (l.map (·.1))->zN id l=l.map λy=>(CF id y.1,y.2)
 | [],_=>rfl
 | y::l,h=>by
  have h2:=List.pairwise_cons.1 h;simp only[zN,List.map_cons];split
  .rename_i hy;have hy:=eq_of_beq hy;have e1:CF id y.1=⟨y.1.i,y.1.p,y.1.s,true⟩:=by unfold CF;rw[show (y.1.i==id)=true by simpa using hy,Bool.or_true]
   rw[e1]
   congr 1
   have key:∀z∈l,(CF id z.1,z.2)=z:=λz hz=>by
    have:y.1.i<z.1.i:=h2.1 z.1 (List.mem_map.2 ⟨z,hz,rfl⟩);unfold CF;rw[show (z.1.i==id)=false by simp;omega,Bool.or_false]
   exact((List.map_congr_left key).trans (List.map_id' l)).symm
  .rename_i hy;have e1:CF id y.1=y.1:=by unfold CF;rw[show (y.1.i==id)=false by simpa using hy,Bool.or_false]
   rw[e1,pT h2.2]
def zKN(d:Dr)(id:Int):Dr:=⟨zN id d.L,d.N,d.x⟩
theorem zDs(hi:pJ d.G)(id:Int):(zKN d id).G=nW d.G id:=by
 show (zN id d.L).map (·.1)=_
 rw[pT hi];unfold nW Dr.G;rw[List.map_map,List.map_map];rfl
theorem xL(hi:pJ d.G)(h:y∈(zKN d id).L):∃z∈d.L,y=(CF id z.1,z.2):=by
 have h:y∈zN id d.L:=h;rw[pT hi] at h;obtain⟨z,h1,h2⟩:=List.mem_map.1 h;exact⟨z,h1,h2.symm⟩
theorem gP(hi:pJ d.G){z:Ly × List It}(h:z∈d.L):(CF id z.1,z.2)∈(zKN d id).L:=by
 show _∈zN id d.L;rw[pT hi];exact List.mem_map.2 ⟨z,h,rfl⟩
theorem HB(h:OkW d)(id a:Int):cF (zKN d id) a=cF d a:=by
 have hi:pJ (zKN d id).G:=by rw[zDs h.g.inc];exact(zJu h.g id).inc
 cases hl:rI d a with
 | none =>
  have hno:=HM hl;rw[lK hno,lK λy hy=>?_];obtain⟨z,h1,rfl⟩:=xL h.g.inc hy;exact hno z h1
 | some y =>
  obtain⟨h1,rfl⟩:=nF hl;rw[jP h.g.inc h1];exact jP hi (y:=(CF id y.1,y.2)) (gP h.g.inc (id:=id) h1)
theorem BN(h:SimW r d)(id:Int):SimW ⟨r.N,nW r.L id,r.E,r.x⟩ (zKN d id):=by
 refine { g:=by rw[zDs h.g.inc];exact zJu h.g id,t:=λy hy=>?_,srt:=h.srt,nm:=λn hn=>?_,one:=λn hn m hm e hf=>?_,nx:=⟨λy hy=>?_,h.nx.2⟩,ln:=h.ln,N:=h.N,L:=by rw[zDs h.g.inc,<- h.L],x:=h.x,e:=λy hy=>?_ }
 .obtain⟨z,h1,rfl⟩:=xL h.g.inc hy;exact h.t z h1
 .obtain⟨h1,y,h2,h3⟩:=h.nm n hn;exact⟨h1,_,gP h.g.inc (id:=id) h2,h3⟩
 .refine h.one n hn m hm e λy h2 h3=>?_;have:=hf _ (gP h.g.inc (id:=id) h2) h3;simp only[CF,Bool.or_eq_false_iff] at this;exact this.1
 .obtain⟨z,h1,rfl⟩:=xL h.g.inc hy;exact h.nx.1 z h1
 .obtain⟨z,h1,rfl⟩:=xL h.g.inc hy;show lP r.E z.1.i=eB (cF (zKN d id) z.1.p) z.2;rw[HB h.toOkW];exact h.e z h1
def jL(d:Dr)(s:List UInt8)(p q:Int)(t:List It):Dr:=⟨d.L++[(⟨d.x,p,q,false⟩,t)],bV d.N s d.x,d.x+1⟩
theorem xN(d:Dr)(s:List UInt8)(p q:Int)(t:List It):MH d s p q t=oN (jL d s p q t):=rfl
theorem XM(d:Dr)(s:List UInt8)(p q:Int)(t:List It):(jL d s p q t).G=d.G++[⟨d.x,p,q,false⟩]:=by
 unfold jL Dr.G;rw[List.map_append];rfl
def CI(d:Dr)(p:Int):Prop:=∃y∈d.L,y.1.i=p/\y.1.f=true
theorem vV(h:CI d p):eW d.G d.G.length p:=by
 obtain⟨y,h1,h2,h3⟩:=h;obtain⟨k,hk⟩:=List.mem_iff_getElem?.1 (nX h1);exact .inr ⟨k,y.1,(List.getElem?_eq_some_iff.1 hk).1,hk,h2,h3⟩
theorem MZ(h:OkW d)(hi:pJ (jL d s p q t).G)(a:Int)(ha:a≠d.x):cF (jL d s p q t) a=cF d a:=by
 cases hl:rI d a with
 | none =>
  have hno:=HM hl;rw[lK hno,lK λy hy=>?_];rcases List.mem_append.1 (show y∈d.L++[_] from hy) with h1|h1
  .exact hno y h1
  .rw[List.mem_singleton] at h1;subst h1;exactλe=>ha e.symm
 | some y =>
  obtain⟨h1,rfl⟩:=nF hl;rw[jP h.g.inc h1];exact jP hi (show y∈d.L++[_] from List.mem_append_left _ h1)
theorem QA(h:SimW r d)(hs:bD s=true)(hp:CI d p)(hq:q=0∨(p≠q/\CI d q))(hc:(bL d.G p).length<=11)(ht:OkT t)
 (hx:d.x<2147483647)(hn:(bV d.N s d.x).length<=20):SimW ⟨bV r.N s r.x,r.L++[⟨r.x,p,q,false⟩],nV r.E r.x (eB (cF d p) t),r.x+1⟩ (jL d s p q t):=by
 have hz:∀x∈d.G,x.i<d.x:=λx hx=>by
  obtain⟨y,hy,rfl⟩:=CT.1 hx;exact h.nx.1 y hy
 have hp1:1<=p/\p<d.x:=by
  obtain⟨y,h1,rfl,_⟩:=hp;exact⟨h.g.lo1 _ (nX h1),h.nx.1 y h1⟩
 have hg:OkG (jL d s p q t).G:=by
  rw[XM];refine zDw h.g hz ⟨h.nx.2.1,by have:=h.nx.2.2;simp only;omega⟩ (vV hp) ?_ (λh0=>?_) hc
  .rcases hq with rfl|⟨_,hq⟩
   .exact .inl rfl
   .exact vV hq
  .rcases hq with rfl|⟨hq,_⟩
   .exact absurd rfl h0
   .exact⟨by show p≠0;omega,hq⟩
 have hmem:∀y,y∈(jL d s p q t).L↔y∈d.L∨y=(⟨d.x,p,q,false⟩,t):=λy=>by
  show y∈d.L++[_]↔_;rw[List.mem_append,List.mem_singleton]
 have hN:∀n,n∈(jL d s p q t).N↔n=⟨s,d.x⟩∨(n∈d.N/\n.n≠s):=λn=>sI h.srt;have old:∀n∈d.N,n.l≠d.x:=λn hn e=>by
  obtain⟨y,_,h1,h2⟩:=h.toOkW.named hn;have:=h.nx.1 y h1;omega
 refine { g:=hg,t:=λy hy=>?_,srt:=nZ h.srt s d.x,nm:=λn hnn=>?_,one:=λn hnn m hmm e hf=>?_,nx:=⟨λy hy=>?_,by show 1<=d.x+1;have:=h.nx.2.1;omega,by show d.x+1<=2147483647;omega⟩,ln:=hn,N:=by show bV r.N s r.x=bV d.N s d.x;rw[h.N,h.x],L:=by rw[XM,<- h.L,<- h.x],x:=by show r.x+1=d.x+1;rw[h.x],e:=λy hy=>?_ }
 .rcases (hmem y).1 hy with h1|rfl
  .exact h.t y h1
  .exact ht
 .rcases (hN n).1 hnn with rfl|⟨h1,_⟩
  .exact⟨hs,_,(hmem _).2 (.inr rfl),rfl⟩
  .obtain⟨h2,y,h3,h4⟩:=h.nm n h1;exact⟨h2,y,(hmem y).2 (.inl h3),h4⟩
 .rcases (hN n).1 hnn with rfl|⟨h1,h2⟩<;>rcases (hN m).1 hmm with rfl|⟨h3,h4⟩
  .rfl
  .exact absurd e.symm (old m h3)
  .exact absurd e (old n h1)
  .exact h.one n h1 m h3 e λy h5 h6=>hf y ((hmem y).2 (.inl h5)) h6
 .show y.1.i<d.x+1;rcases (hmem y).1 hy with h1|rfl
  .have:=h.nx.1 y h1;omega
  .simp only;omega
 .show lP (nV r.E r.x _) y.1.i=_;rcases (hmem y).1 hy with h1|rfl
  .have hlt:=h.nx.1 y h1;rw[pW _ _ (by rw[h.x];omega),h.e y h1,MZ h.toOkW hg.inc];rcases h.toOkW.below h1 with h2|⟨z,h2,h3,_⟩
   .rw[h2];have:=h.nx.2.1;omega
   .rw[<- h3];have:=h.nx.1 z h2;omega
  .rw[h.x];simp only;rw[tP,MZ h.toOkW hg.inc p (by omega)]
def bP(r:Rm)(s:List UInt8):Ly × Int:=match lX r.N s with
 | some n=>((eU r.L n.l).getD ly0,0)
 | none=>(ly0,6)
def wsP(r:Rm)(s:List UInt8):Ly × Int:=if (bP r s).2==0 && (bP r s).1.f then (ly0,14) else bP r s
def snP(r:Rm)(s:List UInt8):Ly × Int:=if (bP r s).2==0 && !(bP r s).1.f then (ly0,13) else bP r s
def gO(r:Rm)(s:List UInt8):Int:=if !bD s then 1 else if JW r.N s then 7 else if decide (20<=(r.N.length:Int)) || (decide (40<=(r.L.length:Int)) || decide (2147483647<=r.x)) then 16 else 0
def gW(r:Rm)(on:Int):Int:=if decide (12<=((bL r.L on).length:Int)) then 15 else 0
def wA(r:Rm):Rm:=⟨r.N,gX r.L (iK r.N),DG (gX r.L (iK r.N)) r.E,r.x⟩
def zBt(r:Rm)(s:List UInt8)(p q:Int)(es:List En):Rm:=wA ⟨bV r.N s r.x,r.L++[⟨r.x,p,q,false⟩],nV r.E r.x es,r.x+1⟩
def iY(r:Rm)(s sn:List UInt8):Rm × Int :=
 if !((wsP r s).2==0) then (r,(wsP r s).2) else if !(gO r sn==0) then (r,gO r sn) else if !(gW r (wsP r s).1.i==0) then (r,gW r (wsP r s).1.i)
 else (zBt ⟨bV r.N sn (wsP r s).1.i,nW r.L (wsP r s).1.i,r.E,r.x⟩ s (wsP r s).1.i 0 [],0)
def CN(r:Rm)(sn s:List UInt8):Rm × Int :=
 if !((snP r sn).2==0) then (r,(snP r sn).2) else if !(gO r s==0) then (r,gO r s) else if !(gW r (snP r sn).1.i==0) then (r,gW r (snP r sn).1.i)
 else (zBt r s (snP r sn).1.i 0 [],0)
def qW(r:Rm)(s:List UInt8):Rm × Int:=if !JW r.N s then (r,6) else (wA ⟨iA r.N s,r.L,r.E,r.x⟩,0)
theorem dI(h:SimW r d){n:Nm}(hn:lX d.N s=some n):∃y∈d.L,bP r s=(y.1,0)/\cQ d.N s=y.1.i/\rI d y.1.i=some y/\y.1.i=n.l/\(y.1.i==0)=false:=by
 obtain⟨h1,h2⟩:=dO hn;obtain⟨y,h3,h4,h5⟩:=h.toOkW.named h1;refine⟨y,h4,?_,by unfold cQ;rw[hn,h5],by rw[h5];exact h3,h5,?_⟩
 .unfold bP;rw[h.N,hn];show ((eU r.L n.l).getD ly0,(0:Int))=_;rw[h.L,zJs,h3];rfl
 .have:=h.g.lo1 _ (nX h4);simp only[beq_eq_false_iff_ne,ne_eq];omega
theorem dH(h:SimW r d)(hn:lX d.N s=none):bP r s=(ly0,6)/\(cQ d.N s==0)=true:=by
 refine⟨by unfold bP;rw[h.N,hn],?_⟩
 rw[h.toOkW.name0,hn];rfl
theorem iU(h:rI d y.1.i=some y):lR d y.1.i=y.1.f:=by unfold lR;rw[h]
theorem dV(h:rI d y.1.i=some y):cF d y.1.i=y.2:=by unfold cF;rw[h]
theorem pR(h:SimW r d)(s:List UInt8):gO r s=mH d s:=by
 unfold gO mH;rw[h.toOkW.name0,vG,h.N,h.L,h.x,show d.G.length=d.L.length by simp[Dr.G],Bool.not_not]
theorem pS(h:(mH d s==0)=true):bD s=true/\cQ d.N s=0/\d.N.length<20/\d.L.length<40/\d.x<2147483647:=by
 unfold mH at h;split at h
 .cases h
 .rename_i h1;split at h
  .cases h
  .rename_i h2;split at h
   .cases h
   .rename_i h3;simp only[Bool.or_eq_true,decide_eq_true_eq,not_or,Bool.not_eq_true,Bool.not_eq_false',beq_iff_eq] at h1 h2 h3;exact⟨h1,h2,by omega,by omega,by omega⟩
theorem mX(h:SimW r d)(on:Int):(gW r on==0) = !wW d on:=by
 unfold gW wW;rw[h.L];by_cases hc:12<=(bL d.G on).length
 .rw[if_pos (by simp;omega),show decide (12<(((bL d.G on).length:Int)+1))=true by simp;omega];rfl
 .rw[if_neg (by simp;omega),show decide (12<(((bL d.G on).length:Int)+1))=false by simp;omega];rfl
theorem GN(r:Rm)(on:Int)(h:(gW r on==0)=false):gW r on=15:=by
 unfold gW at h ⊢;split at h
 .rename_i h1;rw[if_pos h1]
 .cases h
theorem pV{on:Int}(h:wW d on=false):(bL d.G on).length<=11:=by
 unfold wW at h;simp only[decide_eq_false_iff_not] at h;omega
theorem JP(h:SimW r d){es:List En}(hs:bD s=true)(hp:CI d p)(hq:q=0∨(p≠q/\CI d q))(hc:(bL d.G p).length<=11)(ht:OkT t)
 (hx:d.x<2147483647)(hn:(bV d.N s d.x).length<=20)(he:es=eB (cF d p) t)(hl:(MH d s p q t).L.length<=40):Sim (zBt r s p q es) (MH d s p q t):=by
 subst he;exact YG (QA h hs hp hq hc ht hx hn) hl
theorem xP(d:Dr)(hi:pJ d.G):(oN d).L.length<=d.L.length:=by
 show (zAn d).length<=_;rw[xR hi];exact List.length_filter_le _ _
theorem xU(h:OkW d)(s:List UInt8)(p q:Int)(t:List It):pJ (jL d s p q t).G:=by
 rw [XM];exact HE h.g.inc λx hx=>by
  obtain⟨y,hy,rfl⟩:=CT.1 hx;exact h.nx.1 y hy
theorem zHx(h:Sim r d)(sn s:List UInt8):(CN r sn s).2=(zDq d sn s).2/\Sim (CN r sn s).1 (zDq d sn s).1:=by
 unfold CN zDq snP;cases hn:lX d.N sn with
 | none =>
  obtain⟨h1,h2⟩:=dH h.toSimW hn;rw[h1,h2];exact⟨rfl,h⟩
 | some n =>
  obtain⟨y,hy,h1,h2,h3,h4,h5⟩:=dI h.toSimW hn;rw[h1,h2,h5,iU h3,dV h3];cases hf:y.1.f
  .exact⟨rfl,h⟩
  .rw [show ((0:Int)==0 && !true)=false from rfl]
   simp only[Bool.false_eq_true,if_false,Bool.not_true];rw[show (!((0:Int)==0))=false from rfl]
   simp only[Bool.false_eq_true,if_false];rw[pR h.toSimW];cases hfr:(mH d s==0)
   .exact⟨rfl,h⟩
   .simp only[Bool.not_true,Bool.false_eq_true,if_false];rw[mX h.toSimW,Bool.not_not];cases hd:wW d y.1.i
    .simp only[Bool.false_eq_true,if_false,true_and];obtain⟨f1,f2,f3,f4,f5⟩:=pS hfr;refine JP h.toSimW f1 ⟨y,hy,rfl,hf⟩ (.inl rfl) (pV hd) (h.t y hy) f5 (by have:=iS d.N s d.x;omega) ?_ ?_
     .rw[dV h3,tE (h.t y hy)]
     .have:=xP (jL d s y.1.i 0 y.2) (xU h.toOkW _ _ _ _);have e:(jL d s y.1.i 0 y.2).L.length=d.L.length+1:=by show (d.L++[_]).length=_;rw[List.length_append];rfl
      rw[xN];omega
    .simp only[if_true];have:=GN r y.1.i (by rw[mX h.toSimW,hd];rfl);exact⟨this,h⟩
theorem WU(h:Sim r d)(s:List UInt8):(qW r s).2=(SF d s).2/\Sim (qW r s).1 (SF d s).1:=by
 unfold qW SF;rw[h.toOkW.name0,vG,<- h.N];cases hn:JW r.N s
 .exact⟨rfl,h⟩
 .simp only[Bool.not_true,Bool.false_eq_true,if_false,true_and];have hw:=qB h.toSimW (N:=iA d.N s) (sQ h.srt s) (λn hn=>h.nm n (gK.1 hn).1) (λn hn m hm=>h.one n (gK.1 hn).1 m (gK.1 hm).1) (Nat.le_trans (zC _ _) h.ln);have e:r.N=d.N:=h.N;rw[e];exact YG hw (Nat.le_trans (xP _ hw.g.inc) h.len)
theorem DT(h:Sim r d)(s sn:List UInt8):(iY r s sn).2=(jX d s sn).2/\Sim (iY r s sn).1 (jX d s sn).1:=by
 unfold iY jX wsP;cases hn:lX d.N s with
 | none =>
  obtain⟨h1,h2⟩:=dH h.toSimW hn;rw[h1,h2];exact⟨rfl,h⟩
 | some n =>
  obtain⟨y,hy,h1,h2,h3,h4,h5⟩:=dI h.toSimW hn;rw[h1,h2,h5,iU h3,dV h3];cases hf:y.1.f;rotate_left 1
  .exact⟨rfl,h⟩
  .rw [show ((0:Int)==0 && false)=false from rfl]
   simp only[Bool.false_eq_true,if_false];rw[show (!((0:Int)==0))=false from rfl]
   simp only[Bool.false_eq_true,if_false];rw[pR h.toSimW];cases hfr:(mH d sn==0)
   .exact⟨rfl,h⟩
   .simp only[Bool.not_true,Bool.false_eq_true,if_false];rw[mX h.toSimW,Bool.not_not];cases hd:wW d y.1.i
    .simp only[Bool.false_eq_true,if_false,true_and];obtain⟨f1,f2,f3,f4,f5⟩:=pS hfr;have hwf:=BN h.toSimW y.1.i;have hmem:∀n,n∈bV d.N sn y.1.i↔n=⟨sn,y.1.i⟩∨(n∈d.N/\n.n≠sn):=λn=>sI h.srt;have hwn:=qB hwf (N:=bV d.N sn y.1.i) (nZ h.srt sn y.1.i) (λm hm=>?_) (λa ha b hb e hfz=>?_) (by have:=iS d.N sn y.1.i;omega)
     .have hcl:=iS d.N sn y.1.i;have hwn:SimW ⟨bV d.N sn y.1.i,nW r.L y.1.i,r.E,r.x⟩ ⟨zN y.1.i d.L,bV d.N sn y.1.i,d.x⟩:=hwn;have hsn:bD s=true:=by
       obtain⟨g1,g2⟩:=dO hn;rw[<- g2];exact(h.nm n g1).1
      have hfa:CI ⟨zN y.1.i d.L,bV d.N sn y.1.i,d.x⟩ y.1.i:=⟨_,gP h.g.inc (id:=y.1.i) hy,rfl,by show (y.1.f || y.1.i==y.1.i)=true;simp⟩
      have hGeq:(⟨zN y.1.i d.L,bV d.N sn y.1.i,d.x⟩:Dr).G=nW d.G y.1.i:=zDs h.g.inc y.1.i;have hne:sn≠s:=λe=>by
       subst e;have:=h.toOkW.name0 sn;rw[f2,hn] at this;cases this
      have hin:(⟨n.n,n.l⟩:Nm)∈bV d.N sn y.1.i:=by
       obtain⟨g1,g2⟩:=dO hn;exact(hmem _).2 (.inr ⟨g1,by rw[g2];exactλe=>hne e.symm⟩)
      have hlen2:(bV (bV d.N sn y.1.i) s d.x).length<=20:=by
       obtain⟨g1,g2⟩:=dO hn;rw[<- g2,nY (nZ h.srt sn y.1.i) hin];rw[List.length_set];omega
      have e0:cF ⟨zN y.1.i d.L,bV d.N sn y.1.i,d.x⟩ y.1.i=y.2:=(HB h.toOkW y.1.i y.1.i).trans (dV h3);rw[h.N];refine JP hwn hsn hfa (.inl rfl) (by rw[hGeq,zO];exact pV hd) (h.t y hy) f5 hlen2 ?_ ?_
      .show []=eB (cF ⟨zN y.1.i d.L,bV d.N sn y.1.i,d.x⟩ y.1.i) y.2;rw[e0,tE (h.t y hy)]
      .have h7:=xP (jL ⟨zN y.1.i d.L,bV d.N sn y.1.i,d.x⟩ s y.1.i 0 y.2) (xU hwn.toOkW _ _ _ _);have e:(jL ⟨zN y.1.i d.L,bV d.N sn y.1.i,d.x⟩ s y.1.i 0 y.2).L.length=d.L.length+1:=by
        show (zN y.1.i d.L++[_]).length=_;rw[List.length_append,pT h.g.inc,List.length_map];rfl
       rw[xN];omega
     .rcases (hmem m).1 hm with rfl|⟨g1,_⟩
      .exact⟨f1,_,gP h.g.inc (id:=y.1.i) hy,rfl⟩
      .exact hwf.nm m g1
     .have hfz2:∀z∈d.L,z.1.i=a.l->z.1.i≠y.1.i/\z.1.f=false:=λz hz hza=>by
       have:=hfz _ (gP h.g.inc (id:=y.1.i) hz) hza;simp only[CF,Bool.or_eq_false_iff] at this;exact⟨by simpa using this.2,this.1⟩
      rcases (hmem a).1 ha with rfl|⟨g1,_⟩<;>rcases (hmem b).1 hb with rfl|⟨g2,_⟩
      .rfl
      .exact absurd rfl (hfz2 y hy rfl).1
      .exact absurd rfl (hfz2 y hy e.symm).1
      .exact h.one a g1 b g2 e λz hz hza=>(hfz2 z hz hza).2
    .simp only[if_true];have:=GN r y.1.i (by rw[mX h.toSimW,hd];rfl);exact⟨this,h⟩
end
theorem zKl{t:List It}{c:Cl}(h:(doP t c).2.e≠0):(doP t c).1=t:=by
 unfold doP at h ⊢;split
 .rfl
 .rename_i h1;rw[if_neg h1] at h;split
  .rfl
  .rename_i h2;rw[if_neg h2] at h;split
   .rfl
   .rename_i h3;rw[if_neg h3] at h;split
    .rename_i h4;rw[if_pos h4] at h;exact absurd rfl h
    .rfl
section
def QZ(x:List It × Int):Prop:=x.2=0->OkT x.1
theorem XG{c:Prop}[Decidable c]{a b:List It × Int}(ha:c->QZ a)(hb:¬ c->QZ b):QZ (if c then a else b):=by
 split
 .exact ha (by assumption)
 .exact hb (by assumption)
theorem SQ{l:List It}{e:Int}(h:e≠0):QZ (l,e):=λhe=>absurd he h
theorem zHF{l:List It}{e:Int}(h:(!(e==0))=true):QZ (l,e):=SQ (by simpa using h)
section
variable {t:List It}{p:List UInt8}{is:Bool}{c:Cl}
attribute [local irreducible] wJ oS wZ
theorem zHY(h:OkT t){kind:Int}(hc:c.t<18446744073709551616):QZ (wZ t p is kind c):=by
 unfold wZ
 repeat' refine XG (λ_=>?_) λ_=>?_
 all_goals first
  | (exact SQ (by decide))
  | exactλhe=>h.put (show cZ c.t<_ from sG hc) he
theorem zFA(h:OkT t){n:Nd}(hn:n.t<18446744073709551616)(hc:c.t<18446744073709551616):QZ (cA t p is n c):=by
 have hb:cZ c.t<18446744073709551616:=sG hc;unfold cA BG zJN rR CD BX
 repeat' refine XG (λ_=>?_) λ_=>?_
 all_goals first
  | exact zHY h hc
  | (exact SQ (by decide))
  | (exact zHF (by assumption))
  | exactλ_=>h
  | exactλ_=>h.remove _
  | exactλhe=>h.put hb he
  | exactλhe=>h.put (show n.t<_ from hn) he
  | exactλhe=>(h.remove _).move he
end
variable {t:List It}{c:Cl}
theorem zMJ(h:OkT t)(hc:c.t<18446744073709551616):OkT (doP t c).1:=by
 unfold doP;split
 .exact h
 .split
  .exact h
  .split
   .exact h
   .split
    .rename_i h4;refine zFA h ?_ hc (eq_of_beq h4);unfold nodeAt;split
     .exact Nat.zero_lt_succ _
     .exact h.gett _
    .exact h
theorem zKm(h:mQ c.k=false):(doP t c).1=t:=by
 unfold doP;rw[h];simp only[Bool.not_false,if_true];split
 .rfl
 .split<;>rfl
theorem VN(h:OkT t):gC t t=true:=BJ λx hx=>h.tlen x hx
end
end Go.Dm
end
section
namespace Go.Dm
open Go Go.Proofs Go.Sort
structure Cf where
 p:List UInt8
 k:Int
deriving DecidableEq
structure Pr where
 a:List UInt8
 b:List UInt8
deriving DecidableEq
def Cf.cs(x:Cf):List PV:=[.s x.p,.i .i64 x.k]
def Pr.cs(x:Pr):List PV:=[.s x.a,.s x.b]
def fF(l:List Cf):List (List PV):=l.map Cf.cs
theorem xK(t:List Cf):(fF t).length=t.length:=by simp[fF]
theorem zGT:fF []=[]:=rfl
theorem zGS(a b:List Cf):fF a++fF b=fF (a++b):=by simp[fF]
theorem zCL(a:List Cf)(n:Nat):(fF a).take n=fF (a.take n):=by simp[fF]
theorem zCI(a:List Cf)(n:Nat):(fF a).drop n=fF (a.drop n):=by simp[fF]
theorem zKD{t:List Cf}{k:Nat}{x:Cf}(h:t[k]?=some x):(fF t).getD k []=[.s x.p,.i .i64 x.k]:=by
 simp only[fF,List.getD_eq_getElem?_getD,List.getElem?_map,h];rfl
theorem zGU(t:List Cf):(∀x∈fF t,x.length=2)=True:=eq_true λx hx=>by
 simp only[fF,List.mem_map] at hx;obtain⟨y,_,rfl⟩:=hx;rfl
theorem zCJ(t:List Cf)(p:List UInt8)(k:Int):fF t++[[.s p,.i .i64 k]]=fF (t++[⟨p,k⟩]):=by simp[fF,Cf.cs]
attribute [go_sem] xK zGT zGS zCL zCI zGU zCJ
def qY(l:List Pr):List (List PV):=l.map Pr.cs
theorem zG9(t:List Pr):(qY t).length=t.length:=by simp[qY]
theorem zHa:qY []=[]:=rfl
theorem zG8(a b:List Pr):qY a++qY b=qY (a++b):=by simp[qY]
theorem zC2(a:List Pr)(n:Nat):(qY a).take n=qY (a.take n):=by simp[qY]
theorem zC0(a:List Pr)(n:Nat):(qY a).drop n=qY (a.drop n):=by simp[qY]
theorem SH{t:List Pr}{k:Nat}{x:Pr}(h:t[k]?=some x):(qY t).getD k []=[.s x.a,.s x.b]:=by
 simp only[qY,List.getD_eq_getElem?_getD,List.getElem?_map,h];rfl
theorem zHb(t:List Pr):(∀x∈qY t,x.length=2)=True:=eq_true λx hx=>by
 simp only[qY,List.mem_map] at hx;obtain⟨y,_,rfl⟩:=hx;rfl
theorem zC1(t:List Pr)(a b:List UInt8):qY t++[[.s a,.s b]]=qY (t++[⟨a,b⟩]):=by simp[qY,Pr.cs]
attribute [go_sem] zG9 zHa zG8 zC2 zC0 zHb zC1
def ltC(x y:Cf):Bool:=bS x.p y.p || (x.p==y.p && decide (x.k<y.k))
def leC(x y:Cf):Bool:=!ltC y x
def BP(l:List Cf):List Cf:=l.mergeSort leC
def zN6:List PV->Cf
 | [.s p,.i _ k]=>⟨p,k⟩
 | _=>⟨[],0⟩
def ltV(x y:List PV):Bool:=ltC (zN6 x) (zN6 y)
theorem zAs(x:Cf):ltC x x=false:=by simp[ltC,bM]
theorem MV{x y z:Cf}(h:ltC x y=true)(k:ltC y z=true):ltC x z=true:=by
 simp only[ltC,Bool.or_eq_true,Bool.and_eq_true,beq_iff_eq,decide_eq_true_eq] at *;rcases h with h|⟨h1,h2⟩<;>rcases k with k|⟨k1,k2⟩
 .exact .inl (cB h k)
 .rw[<- k1];exact .inl h
 .rw[h1];exact .inl k
 .exact .inr ⟨h1.trans k1,by omega⟩
theorem zD3{x y:Cf}(h:ltC x y=false)(k:ltC y x=false):x=y:=by
 simp only[ltC,Bool.or_eq_false_iff,Bool.and_eq_false_iff,beq_eq_false_iff_ne,decide_eq_false_iff_not] at *;have e:=eE h.1 k.1;have h2:¬ x.k<y.k:=h.2.resolve_left (λn=>n e);have k2:¬ y.k<x.k:=k.2.resolve_left (λn=>n e.symm);cases x;cases y;simp only at *;subst e
 congr 1
 omega
theorem VT:SWO ltC where
 irrefl:=zAs
 trans _ _ _:=MV
 ntrans x y z h k:=by
  cases e:ltC x z with
  | false=>rfl
  | true =>
   cases f:ltC y x with
   | true=>have:=MV f e;rw[k] at this;cases this
   | false=>have:=zD3 h f;subst this;rw[k] at e;cases e
theorem zLP:SWO ltV:=⟨λx=>VT.irrefl _,λx y z=>VT.trans _ _ _,λx y z=>VT.ntrans _ _ _⟩
def cfC(x y:Cf):Int:=if CE x.p y.p==0 then KK x.k y.k else CE x.p y.p
def cfV(x y:List PV):Int:=cfC (zN6 x) (zN6 y)
theorem zNa(x y:Cf):decide (cfC x y<0)=ltC x y:=by
 unfold cfC ltC;rw[GK];by_cases h:(x.p==y.p)=true
 .rw[if_pos h,h,eq_of_beq h,bM];unfold KK;by_cases h1:x.k<y.k
  .simp[h1]
  .by_cases h2:y.k<x.k<;>simp[h1,h2]
 .rw[if_neg h,oB];simp[h]
theorem zD4:ltOf cfV=ltV:=by
 funext x y
 exact zNa _ _
theorem zLO:SWO (ltOf cfV):=by rw[zD4];exact zLP
theorem zBP(l:List Cf):∀x∈fF l,∀y∈fF l,ltOf cfV x y=false->ltOf cfV y x=false->x=y:=by
 rw[zD4];intro x hx y hy h k;obtain⟨a,_,rfl⟩:=List.mem_map.1 hx;obtain⟨b,_,rfl⟩:=List.mem_map.1 hy;rw[zD3 (x:=a) (y:=b) h k]
theorem QC(l:List Cf):(BP l).length=l.length:=List.length_mergeSort ..
theorem zCK(l:List Cf):(fF l).mergeSort (QW (ltOf cfV))=fF (BP l):=by
 rw[zD4];unfold fF BP;exact(List.map_mergeSort (r:=leC) (s:=QW ltV) (f:=Cf.cs) (l:=l) λa _ b _=>rfl).symm
def pC(l:List Pr)(p:List UInt8):Bool:=l.any λx=>x.b==p
def tM(d:List UInt8)(out:List Pr):List Ch->Option (List UInt8)
 | []=>none
 | x::r=>if x.k==1 && x.n.k==1 && d==x.n.d && !pC out x.p then some x.p else tM d out r
def fU(l:List Ch)(out:List Pr)(x:Ch):List Pr :=
 if x.k != 2 || x.o.k != 1 then out else match tM x.o.d out l with
 | some p=>out++[⟨x.p,p⟩]
 | none=>out
def tI(l:List Ch):List Pr:=l.foldl (fU l) []
def fM(l:List Ch):List Pr:=if jC l then tI l else []
theorem NO(l:List Ch):fM l=tI l∨fM l=[]:=by
 unfold fM;split
 .exact .inl rfl
 .exact .inr rfl
def toF(l:List Pr)(p:List UInt8):Option (List UInt8):=match l with
 | []=>none
 | x::r=>if x.a==p then some x.b else toF r p
def zJH(b:List Pr)(x:Pr):List Cf:=match toF b x.a with
 | some tq=>if tq != x.b then [⟨x.a,6⟩] else []
 | none=>[]
def iN(a b:List Pr):List Cf:=a.flatMap (zJH b)
def NI(t:List It)(bad:List Cf)(x:It):List Cf:=if !aW t (aM x.p) && !(bad.any λc=>c.p==aM x.p) then [⟨x.p,7⟩] else []
def iM(t:List It)(bad:List Cf):List Cf:=t.flatMap (NI t bad)
def iW(a b c:List It):List (List UInt8):=Lib.compact (((a++(b++c)).map It.p).mergeSort λx y=>decide (x<=y))
def mgN(b o t:List It)(p:List UInt8):Nd × Bool × Int:=AM ((aN b p).getD nd0) ((aN o p).getD nd0) ((aN t p).getD nd0) (aN b p).isSome (aN o p).isSome (aN t p).isSome
def mgI(b o t:List It)(p:List UInt8):List It:=if (mgN b o t p).2.2 != 0 then [] else if (mgN b o t p).2.1 then [⟨p,(mgN b o t p).1⟩] else []
def mgC(b o t:List It)(p:List UInt8):List Cf:=if (mgN b o t p).2.2 != 0 then [⟨p,(mgN b o t p).2.2⟩] else []
def JX(b o t:List It)(l:List (List UInt8)):List It:=l.flatMap (mgI b o t)
def rK(b o t:List It)(l:List (List UInt8)):List Cf:=l.flatMap (mgC b o t)
def VA(b o t:List It):List It:=JX b o t (iW b o t)
def zF1(b o t:List It):List Cf :=
 BP (rK b o t (iW b o t)++(iM (VA b o t) (rK b o t (iW b o t))++iN (fM (eL b o)) (fM (eL b t))))
def gA(b o t:List It):List It × List Cf:=if (zF1 b o t).length==0 then (VA b o t,[]) else ([],zF1 b o t)
end Go.Dm
end
section
namespace Go.Dm
open Go Go.Sort
theorem TM{b o t:List It}{p:List UInt8}{x:It}(h:x∈mgI b o t p):x=⟨p,(mgN b o t p).1⟩/\(mgN b o t p).2.2=0/\(mgN b o t p).2.1=true:=by
 unfold mgI at h;split at h
 .simp at h
 .rename_i h1;split at h
  .rename_i h2;exact⟨by simpa using h,by simpa using h1,h2⟩
  .simp at h
theorem XL{b o t:List It}{l:List (List UInt8)}{x:It}(h:x∈JX b o t l):x.p∈l/\x=⟨x.p,(mgN b o t x.p).1⟩/\(mgN b o t x.p).2.2=0/\(mgN b o t x.p).2.1=true:=by
 obtain⟨p,hp,hx⟩:=List.mem_flatMap.1 h;have:=TM hx;have e:x.p=p:=by rw[this.1]
 subst e;exact⟨hp,this⟩
theorem zK{α β:Type}{f:α->List β}{r:α->α->Prop}{s:β->β->Prop}(h1:∀a,(f a).length<=1)(h2:∀{a c x y},r a c->x∈f a->y∈f c->s x y):∀{l:List α},l.Pairwise r->(l.flatMap f).Pairwise s
 | [],_=>by simp
 | a::l,h=>by
  obtain⟨k1,k2⟩:=List.pairwise_cons.1 h;rw[List.flatMap_cons];refine List.pairwise_append.2 ⟨?_,zK h1 h2 k2,λx hx y hy=>?_⟩
  .have:=h1 a
   match f a,this with
   | [],_=>exact .nil
   | [x],_=>exact List.pairwise_singleton ..
  .obtain⟨c,hc,hyc⟩:=List.mem_flatMap.1 hy;exact h2 (k1 c hc) hx hyc
theorem zEa(b o t:List It)(p:List UInt8):(mgI b o t p).length<=1:=by unfold mgI;split<;>(try split)<;>simp
theorem zLc(b o t:List It)(p:List UInt8):(mgC b o t p).length<=1:=by unfold mgC;split<;>simp
theorem zEs(t:List It)(bad:List Cf)(x:It):(NI t bad x).length<=1:=by unfold NI;split<;>simp
theorem zIv(b:List Pr)(x:Pr):(zJH b x).length<=1:=by unfold zJH;split<;>(try split)<;>simp
theorem XS(b o t:List It):Srt (VA b o t):=zK (zEa b o t) (λ{a c x y} hr hx hy=>by rw[(TM hx).1,(TM hy).1];exact hr) (NU _)
theorem NN(l:List Ch)(out:List Pr)(x:Ch):fU l out x=out∨∃p,fU l out x=out++[⟨x.p,p⟩]/\x.k=2/\x.o.k=1/\tM x.o.d out l=some p:=by
 unfold fU;split
 .exact .inl rfl
 .rename_i h1;simp only[Bool.or_eq_true,bne_iff_ne,ne_eq,not_or,Decidable.not_not] at h1;split
  .rename_i p hp;exact .inr ⟨p,rfl,h1.1,h1.2,hp⟩
  .exact .inl rfl
def zO3(b o t:List It):List Cf:=rK b o t (iW b o t)++(iM (VA b o t) (rK b o t (iW b o t))++iN (fM (eL b o)) (fM (eL b t)))
theorem zKb(b o t:List It):zF1 b o t=BP (zO3 b o t):=rfl
theorem zY{α β:Type}{f:α->List β}(h1:∀a,(f a).length<=1):∀l:List α,(l.flatMap f).length<=l.length
 | []=>by simp
 | a::l=>by
  have:=zY h1 l;have:=h1 a;rw[List.flatMap_cons,List.length_append,List.length_cons];omega
theorem NP(l:List Ch):∀(m:List Ch) (out:List Pr),(m.foldl (fU l) out).length<=out.length+m.length
 | [],out=>by simp
 | c::m,out=>by
  rw[List.foldl_cons,List.length_cons];have:=NP l m (fU l out c);rcases NN l out c with e|⟨p,e,_⟩
  .rw[e] at this ⊢;omega
  .rw[e] at this ⊢;simp at this;omega
theorem zAE(l:List Ch):(tI l).length<=l.length:=by have:=NP l l [];simpa[tI] using this
theorem vI(l:List Ch):(fM l).length<=l.length:=by
 rcases NO l with e|e<;>rw[e]
 .exact zAE l
 .simp
theorem zAG(a b c:List It):(iW a b c).length<=a.length+b.length+c.length:=by
 refine Nat.le_trans (DH _) ?_;rw[List.length_mergeSort,List.length_map,List.length_append,List.length_append];omega
theorem EN{a b c:List It}{p:List UInt8}:p∈iW a b c↔(aN a p).isSome=true∨(aN b p).isSome=true∨(aN c p).isSome=true:=by
 have has:∀{t:List It},(∃x∈t,x.p=p)↔(aN t p).isSome=true:=λ{t}=>⟨λ⟨x,hx,e⟩=>e▸xM hx,λh=>by
  cases hg:aN t p with
  | none=>rw[hg] at h;cases h
  | some n=>obtain⟨x,hx,e,_⟩:=cE hg;exact⟨x,hx,e⟩⟩
 unfold iW;rw[yN,<- has,<- has,<- has];simp only[List.mem_map,List.mem_append];constructor
 .rintro⟨x,h|h|h,e⟩
  .exact .inl ⟨x,h,e⟩
  .exact .inr (.inl ⟨x,h,e⟩)
  .exact .inr (.inr ⟨x,h,e⟩)
 .rintro (⟨x,h,e⟩|⟨x,h,e⟩|⟨x,h,e⟩)
  .exact⟨x,.inl h,e⟩
  .exact⟨x,.inr (.inl h),e⟩
  .exact⟨x,.inr (.inr h),e⟩
end Go.Dm
end
