/- Part 22 of the proof of roomDrops_card, set without needless blanks. No condition. -/
import Derived.Test.YtlbfnbldeefgmaaGreatDoorS20
import Derived.Test.YtlbfnbldeefgmaaGreatDoorS17
set_option linter.all false
set_option maxRecDepth 100000
set_option maxHeartbeats 16000000
section
namespace Go.Dm
open Go Go.Sort
theorem XE(p:List UInt8)(b:List It):∀a:List It,aN (a++b) p=match aN a p with
  | some n=>some n
  | none=>aN b p
 | []=>rfl
 | x::a=>by
  rw[List.cons_append,aN,aN];split
  .rfl
  .exact XE p b a
theorem zKc{b o t:List It}(h:(zF1 b o t).length=0):rK b o t (iW b o t)=[]/\iM (VA b o t) []=[]:=by
 rw[zKb,QC] at h;unfold zO3 at h;rw[List.length_append,List.length_append] at h;have h1:rK b o t (iW b o t)=[]:=List.length_eq_zero_iff.1 (by omega);rw[h1] at h;exact⟨h1,List.length_eq_zero_iff.1 (by omega)⟩
theorem zIg{b o t:List It}(h:(zF1 b o t).length=0):Par (VA b o t):=λx hx=>by
 have h2:=List.flatMap_eq_nil_iff.1 (zKc h).2 x hx;unfold NI at h2;split at h2
 .simp at h2
 .rename_i h3;simpa using h3
theorem HL(a b:Nat):wG a b=cZ a∨wG a b=cZ b:=by unfold wG;split<;>simp
theorem xA{x y z:Nd}{u:Bool}(hy:aO y=true)(hz:aO z=true)(hyw:y.wf)(hzw:z.wf)(n:Nd)
  (hk:(n.k=y.k/\n.d=y.d)∨(n.k=z.k/\n.d=z.d))(hm:n.m=y.m∨n.m=z.m)(ht:n.t=y.t∨n.t=z.t∨n.t=wG y.t z.t):aO n=true/\n.t<18446744073709551616:=by
 have hpy:=fX hy hyw;have hpz:=fX hz hzw;have hnt:n.t<18446744073709551616/\cZ n.t=n.t:=by
  rcases ht with e|e|e
  .rw[e];exact hpy
  .rw[e];exact hpz
  .rcases HL y.t z.t with e2|e2
   .rw[e,e2,hpy.2];exact hpy
   .rw[e,e2,hpz.2];exact hpz
 refine⟨?_,hnt.1⟩;have hw:n.wf:=hnt.1;rw[<- jN hw];rw[<- jN hyw] at hy;rw[<- jN hzw] at hz;unfold mK at *;simp only[Bool.and_eq_true,decide_eq_true_eq,beq_iff_eq] at *;obtain⟨⟨⟨y1,y2⟩,y3⟩,_⟩:=hy;obtain⟨⟨⟨z1,z2⟩,z3⟩,_⟩:=hz;refine⟨⟨⟨?_,?_⟩,?_⟩,hnt.2⟩
 .unfold ZH at *;rcases hk with⟨e1,e2⟩|⟨e1,e2⟩
  .rw[e1,e2];exact y1
  .rw[e1,e2];exact z1
 .rcases hm with e|e<;>rw[e]<;>assumption
 .rcases hm with e|e<;>rw[e]<;>assumption
theorem TW{x y z:Nd}{u v w:Bool}(hy:v=true->aO y=true)(hz:w=true->aO z=true)(hyw:y.wf)(hzw:z.wf)(h0:(AM x y z u v w).2.2=0)(h:(AM x y z u v w).2.1=true):
  aO (AM x y z u v w).1=true/\(AM x y z u v w).1.t<18446744073709551616:=by
 revert h0 h;unfold AM;split
 .intro _ h;simp only at h;rw[h,if_pos rfl];exact⟨hy h,hyw⟩
 .split
  .intro _ h;simp only at h;rw[h,if_pos rfl];exact⟨hz h,hzw⟩
  .cases v
   .simp
   .cases w
    .simp
    .simp only[Bool.not_true,Bool.false_eq_true,if_false];split
     .intro _ _;refine xA (x:=x) (u:=u) (hy rfl) (hz rfl) hyw hzw _ ?_ ?_ ?_
      .unfold wI;simp only;split<;>simp
      .unfold wI;simp only;split<;>simp
      .unfold wI;simp only;split
       .simp
       .split<;>simp
     .intro h0;exfalso;revert h0
      repeat' split
      all_goals simp
theorem zLl{b o t:List It}(hb:OkT b)(ho:OkT o)(ht:OkT t)(h:(zF1 b o t).length=0)(hl:(VA b o t).length<=120):OkT (VA b o t):=by
 refine ⟨⟨XS b o t,λx hx=>?_,hl⟩,zIg h⟩;obtain⟨h1,h2,h3,h4⟩:=XL hx;have hp:x.p≠[]/\cC x.p=true:=by
  rcases EN.1 h1 with h|h|h
  .exact⟨(hb.getok h).1,(hb.getok h).2.1⟩
  .exact⟨(ho.getok h).1,(ho.getok h).2.1⟩
  .exact⟨(ht.getok h).1,(ht.getok h).2.1⟩
 have hn:=TW (x:=(aN b x.p).getD nd0) (u:=(aN b x.p).isSome) (λh=>(ho.getok h).2.2) (λh=>(ht.getok h).2.2) (ho.gett x.p) (ht.gett x.p) h3 h4;have e:x.n=(mgN b o t x.p).1:=by rw[h2]
 refine⟨hp.1,hp.2,?_,?_⟩
 .rw[e];exact hn.1
 .rw[e];exact hn.2
structure OkS (t:List It):Prop where
 srt:Srt t
 ne:∀x∈t,x.p≠[]
 plen:∀x∈t,x.p.length<=1000
 dlen:∀x∈t,x.n.d.length<=2000
 tlen:∀x∈t,x.n.t<18446744073709551616
 len:t.length<=120
theorem OkT.s{t:List It}(h:OkT t):OkS t:=⟨h.srt,h.ne,λx hx=>Nat.le_trans (h.plen x hx) (by decide),h.dlen,h.tlen,h.len⟩
theorem OkS.getd{t:List It}(h:OkS t)(p:List UInt8):((aN t p).getD nd0).d.length<=2000:=by
 cases hg:aN t p with
 | none=>simp[nd0]
 | some n=>obtain⟨x,hx,_,e⟩:=cE hg;rw[Option.getD_some,<- e];exact h.dlen x hx
theorem OkS.gett{t:List It}(h:OkS t)(p:List UInt8):((aN t p).getD nd0).t<18446744073709551616:=by
 cases hg:aN t p with
 | none=>simp[nd0]
 | some n=>obtain⟨x,hx,_,e⟩:=cE hg;rw[Option.getD_some,<- e];exact h.tlen x hx
theorem zAj{t:List It}{p:List UInt8}(r:List It)(h:aW t p=true):aW (t++r) p=true:=by
 by_cases hp:p=[]
 .subst hp;rfl
 .obtain⟨m,h1,h2⟩:=cS hp h;exact fH (m:=m) (by rw[XE,h1]) h2
theorem OkT.take{t:List It}(h:OkT t)(k:Nat):OkT (t.take k):=by
 refine⟨⟨h.srt.sublist (List.take_sublist _ _),λx hx=>h.its x (List.mem_of_mem_take hx),Nat.le_trans (by rw[List.length_take];omega) h.len⟩,λx hx=>?_⟩;obtain⟨j,hj,rfl⟩:=List.mem_iff_getElem.1 hx;have hjk:j<k/\j<t.length:=by rw[List.length_take] at hj;omega
 rw [List.getElem_take];have h1:=EA h (List.getElem?_eq_getElem hjk.2);have h2:=zAj ((t.take k).drop j) h1;have e:t.take j++(t.take k).drop j=t.take k:=by
  have:=List.take_append_drop j (t.take k);rw[List.take_take,Nat.min_eq_left (by omega)] at this;exact this
 rw[e] at h2;exact h2
theorem KY{a b:List It}(ha:OkS a)(hb:OkS b):∀x∈eL a b,x.p.length<=1000000000/\x.o.t<18446744073709551616/\x.n.t<18446744073709551616:=λx hx=>by
 obtain⟨h1,h2⟩:=mY hx;obtain⟨h3,_⟩:=xF hx;refine⟨?_,by rw[h1];exact ha.gett _,by rw[h2];exact hb.gett _⟩
 rcases zAH.1 h3 with⟨y,hy,e⟩|⟨y,hy,e⟩
 .rw[<- e];exact Nat.le_trans (ha.plen y hy) (by decide)
 .rw[<- e];exact Nat.le_trans (hb.plen y hy) (by decide)
theorem zEu{b o t:List It}(hb:OkS b)(ho:OkS o)(ht:OkS t):∀x∈VA b o t,x.p.length<=1000:=λx hx=>by
 obtain ⟨h1,_⟩:=XL hx;have key:∀{s:List It},OkS s->(aN s x.p).isSome=true->x.p.length<=1000:=λ{s} hs h=>by
  cases hg:aN s x.p with
  | none=>rw[hg] at h;cases h
  | some n=>obtain⟨y,hy,e,_⟩:=cE hg;rw[<- e];exact hs.plen y hy
 rcases EN.1 h1 with h|h|h
 .exact key hb h
 .exact key ho h
 .exact key ht h
theorem zH4(b o t:List It)(l:List (List UInt8)):(JX b o t l).length<=l.length:=zY (zEa b o t) l
theorem zH3(b o t:List It)(l:List (List UInt8)):(rK b o t l).length<=l.length:=zY (zLc b o t) l
theorem TY(t:List It)(bad:List Cf):(iM t bad).length<=t.length:=zY (zEs t bad) t
theorem VG(a b:List Pr):(iN a b).length<=a.length:=zY (zIv b) a
end Go.Dm
end
section
namespace Go.Dm
open Go
section
variable {r:Rm}{d:Dr}{y:Ly × List It}{t:List It}{l:List Ch}
def cY(r:Rm)(s:List UInt8):List It × Int:=if !((bP r s).2==0) then ([],(bP r s).2) else (treeR r (bP r s).1.i,0)
theorem jS(h:SimW r d)(s:List UInt8):cY r s=eP d s:=by
 unfold cY eP;cases hn:lX d.N s with
 | none =>
  obtain⟨h1,h2⟩:=dH h hn;rw[h1,h2];rfl
 | some n =>
  obtain⟨y,hy,h1,h2,h3,h4,h5⟩:=dI h hn;rw[h1,h2,h5];show (treeR r y.1.i,(0:Int))=(cF d y.1.i,0);rw[h.treeR]
theorem BV(h:OkW d)(s:List UInt8):OkT (eP d s).1:=by
 unfold eP;split
 .exact OkT.nil
 .exact h.tree _
def zBe(r:Rm)(l:Ly)(t:List It):Rm:=if gC (treeR r l.i) t then r else ⟨r.N,r.L,nV r.E l.i (eB (treeR r l.p) t),r.x⟩
theorem BO(h:Sim r d)(hy:y∈d.L)(ht:OkT t)(hf:t=y.2∨y.1.f=false):Sim (zBe r y.1 t) (pI d y.1.i t):=by
 have e:=jP h.g.inc hy;unfold zBe;rw[h.toSimW.treeR,h.toSimW.treeR,e];cases hs:gC y.2 t
 .rw[if_neg (by decide)];rcases hf with rfl|hf
  .rw[VN (h.t y hy)] at hs;cases hs
  .exact zLB h hy hf ht
 .rw[if_pos rfl];have:=PX (λx hx=>fX ((h.t y hy).its x hx).2.2.1 ((h.t y hy).tlen x hx)) (λx hx=>fX (ht.its x hx).2.2.1 (ht.tlen x hx)) hs;rw[<- this,<- e,QQ h.g.inc];exact h
def SD(r:Rm)(s:List UInt8)(c:Cl):Rm × An :=
 if !((bP r s).2==0) then (r,anE (bP r s).2) else if (bP r s).1.f && mQ c.k then (r,anE 14)
 else (zBe r (bP r s).1 (doP (treeR r (bP r s).1.i) c).1,(doP (treeR r (bP r s).1.i) c).2)
theorem zJo(h:Sim r d)(s:List UInt8){c:Cl}(hc:c.t<18446744073709551616):(SD r s c).2=(doD d s c).2/\Sim (SD r s c).1 (doD d s c).1:=by
 unfold SD doD;cases hn:lX d.N s with
 | none =>
  obtain⟨h1,h2⟩:=dH h.toSimW hn;rw[h1,h2];exact⟨rfl,h⟩
 | some n =>
  obtain⟨y,hy,h1,h2,h3,h4,h5⟩:=dI h.toSimW hn;have hy2:=h.t y hy;rw[h1,h2,h5,iU h3,dV h3];rw[show (!((0:Int)==0))=false from rfl]
  simp only[Bool.false_eq_true,if_false];rw[h.toSimW.treeR,dV h3,<- zOi hy2];cases hft:y.1.f && mQ c.k
  .simp only[Bool.false_eq_true,if_false];cases he:((doP y.2 c).2.e==0)
   .simp only[Bool.not_false,if_true,true_and];have e1:=zKl (t:=y.2) (c:=c) (by simpa using he);rw[e1];have:=BO h hy hy2 (.inl rfl);rw[show pI d y.1.i y.2=d by rw[<- dV h3,QQ h.g.inc]] at this
    exact this
   .simp only[Bool.not_true,Bool.false_eq_true,if_false,true_and];refine BO h hy (zMJ hy2 hc) ?_;cases hf:y.1.f
    .exact .inr rfl
    .rw[hf,Bool.true_and] at hft;exact .inl (zKm hft)
  .exact⟨rfl,h⟩
def hU(r:Rm)(s:List UInt8)(l:List Ch):Rm × Int :=
 if !((wsP r s).2==0) then (r,(wsP r s).2) else if !((fP (treeR r (wsP r s).1.i) l).2==0) then (r,(fP (treeR r (wsP r s).1.i) l).2)
 else (zBe r (wsP r s).1 (fP (treeR r (wsP r s).1.i) l).1,0)
def KA(d:Dr)(s:List UInt8)(l:List Ch):Dr × Int :=
 if cQ d.N s==0 then (d,6) else if lR d (cQ d.N s) then (d,14) else if !((fP (cF d (cQ d.N s)) l).2==0) then (d,(fP (cF d (cQ d.N s)) l).2)
 else (pI d (cQ d.N s) (fP (cF d (cQ d.N s)) l).1,0)
theorem KB(ht:OkT t)(hp:∀x∈l,x.n.t<18446744073709551616)(he:(fP t l).2=0):OkT (fP t l).1:=by
 unfold fP at he ⊢;split at he
 .cases he
 .rename_i h1;split at he
  .cases he
  .rename_i h2;split at he
   .cases he
   .rename_i h3;split at he
    .cases he
    .rename_i h4;rw[if_neg h1,if_neg h2,if_neg h3,if_neg h4];refine PE (λy hy=>?_) (by simpa using h4);rcases zD7 hy with⟨c,hc,rfl⟩|hy
     .exact hp c hc
     .exact ht.tlen y hy
theorem zBA(h:Sim r d)(s:List UInt8)(hl:∀x∈l,x.n.t<18446744073709551616):(hU r s l).2=(KA d s l).2/\Sim (hU r s l).1 (KA d s l).1:=by
 unfold hU KA wsP;cases hn:lX d.N s with
 | none =>
  obtain⟨h1,h2⟩:=dH h.toSimW hn;rw[h1,h2];exact⟨rfl,h⟩
 | some n =>
  obtain⟨y,hy,h1,h2,h3,h4,h5⟩:=dI h.toSimW hn;have hy2:=h.t y hy;rw[h1,h2,h5,iU h3,dV h3];cases hf:y.1.f;rotate_left 1
  .exact⟨rfl,h⟩
  .rw[show ((0:Int)==0 && false)=false from rfl]
   simp only[Bool.false_eq_true,if_false];rw[show (!((0:Int)==0))=false from rfl]
   simp only[Bool.false_eq_true,if_false];rw[h.toSimW.treeR,dV h3];cases he:((fP y.2 l).2==0)
   .exact⟨rfl,h⟩
   .simp only[Bool.not_true,Bool.false_eq_true,if_false,true_and];exact BO h hy (KB hy2 hl (by simpa using he)) (.inr hf)
def eY(b o t:List It):List It × List Cf × Int :=
 if decide (0<((gA b o t).2.length:Int)) then ([],(gA b o t).2,17) else if decide (120<((gA b o t).1.length:Int)) then ([],[],16) else ((gA b o t).1,[],0)
def eF(r:Rm)(o t:List UInt8):Ly × Ly × Int :=
 if !((bP r o).2==0) then ((bP r o).1,(bP r o).1,(bP r o).2)
 else ((bP r o).1,(bP r t).1,if (bP r t).2==0 && (!(bP r o).1.f || !(bP r t).1.f) then 13 else (bP r t).2)
def jA(r:Rm)(o t s:List UInt8):Rm × List Cf × Int :=
 if !((eF r o t).2.2==0) then (r,[],(eF r o t).2.2) else if !(gO r s==0) then (r,[],gO r s) else if !(gW r (eF r o t).1.i==0) then (r,[],gW r (eF r o t).1.i)
 else
  let m:=eY (treeR r (GF r.L (eF r o t).1.i (eF r o t).2.1.i)) (treeR r (eF r o t).1.i) (treeR r (eF r o t).2.1.i)
  if !(m.2.2==0) then (r,m.2.1,m.2.2)
  else (zBt r s (eF r o t).1.i (if (eF r o t).1.i==(eF r o t).2.1.i then 0 else (eF r o t).2.1.i) (eB (treeR r (eF r o t).1.i) m.1),[],0)
def ED(d:Dr)(o t s:List UInt8):Dr × List Cf × Int :=
 if cQ d.N o==0 || cQ d.N t==0 then (d,[],6) else if !lR d (cQ d.N o) || !lR d (cQ d.N t) then (d,[],13) else if !(mH d s==0) then (d,[],mH d s) else if wW d (cQ d.N o) then (d,[],15)
 else
  let m:=gA (cF d (GF d.G (cQ d.N o) (cQ d.N t))) (cF d (cQ d.N o)) (cF d (cQ d.N t))
  if decide (0<(m.2.length:Int)) then (d,m.2,17) else if decide (120<(m.1.length:Int)) then (d,[],16)
  else (MH d s (cQ d.N o) (if cQ d.N t==cQ d.N o then 0 else cQ d.N t) m.1,[],0)
theorem AB{b o:List It}(hb:OkT b)(ho:OkT o)(ht:OkT t)(h1:¬ 0<(gA b o t).2.length)(h2:¬ 120<(gA b o t).1.length):OkT (gA b o t).1:=by
 unfold gA at h1 h2 ⊢;split at h1
 .rename_i hz;rw[if_pos hz] at h2 ⊢;exact zLl hb ho ht (eq_of_beq hz) (by simp only at h2;omega)
 .rename_i hz;simp only at h1;exact absurd (show ((zF1 b o t).length==0)=true by simp;exact List.eq_nil_of_length_eq_zero (by omega)) hz
theorem zD9(h:Sim r d)(o t s:List UInt8):(jA r o t s).2=(ED d o t s).2/\Sim (jA r o t s).1 (ED d o t s).1:=by
 unfold jA ED eF;cases hn:lX d.N o with
 | none =>
  obtain⟨h1,h2⟩:=dH h.toSimW hn;rw[h1,h2];exact⟨rfl,h⟩
 | some n =>
  obtain⟨y,hy,h1,h2,h3,h4,h5⟩:=dI h.toSimW hn;have hy2:=h.t y hy;rw[h1,h2,h5,iU h3,dV h3];rw[show (!((0:Int)==0))=false from rfl]
  simp only[Bool.false_eq_true,if_false,Bool.false_or];cases hnt:lX d.N t with
  | none =>
   obtain⟨k1,k2⟩:=dH h.toSimW hnt;rw[k1,k2];exact⟨rfl,h⟩
  | some m =>
   obtain⟨z,hz,k1,k2,k3,k4,k5⟩:=dI h.toSimW hnt;have hz2:=h.t z hz;rw[k1,k2,k5,iU k3,dV k3];rw[show ((0:Int)==0)=true from rfl]
   simp only[Bool.true_and,Bool.false_eq_true,if_false];cases hfr2:(!y.1.f || !z.1.f);rotate_left 1
   .exact⟨rfl,h⟩
   .simp only[Bool.false_eq_true,if_false];rw[show (!((0:Int)==0))=false from rfl]
    simp only[Bool.false_eq_true,if_false];simp only[Bool.or_eq_false_iff,Bool.not_eq_false'] at hfr2;rw[pR h.toSimW];cases hfr:(mH d s==0)
    .exact⟨rfl,h⟩
    .simp only[Bool.not_true,Bool.false_eq_true,if_false];rw[mX h.toSimW,Bool.not_not];cases hd:wW d y.1.i
     .simp only[Bool.false_eq_true,if_false];obtain⟨f1,f2,f3,f4,f5⟩:=pS hfr;rw[h.toSimW.treeR,h.toSimW.treeR,h.toSimW.treeR,dV h3,dV k3,h.L];unfold eY;have hbk:=h.toOkW.tree (GF d.G y.1.i z.1.i);generalize cF d (GF d.G y.1.i z.1.i)=b at hbk ⊢;cases hc1:decide (0<((gA b y.2 z.2).2.length:Int))
      .simp only[Bool.false_eq_true,if_false];cases hc2:decide (120<((gA b y.2 z.2).1.length:Int))
       .simp only[Bool.false_eq_true,if_false];rw[show (!((0:Int)==0))=false from rfl]
        simp only[Bool.false_eq_true,if_false,true_and];simp only[decide_eq_false_iff_not] at hc1 hc2;have hok:=AB hbk hy2 hz2 (by omega) (by omega);have hq:(if y.1.i==z.1.i then (0:Int) else z.1.i)=(if z.1.i==y.1.i then 0 else z.1.i):=by
         by_cases e:y.1.i=z.1.i
         .rw[if_pos (by simpa using e),if_pos (by simpa using e.symm)]
         .rw[if_neg (by simpa using e),if_neg (by simpa using λe'=>e e'.symm)]
        rw[hq];refine JP h.toSimW f1 ⟨y,hy,rfl,hfr2.1⟩ ?_ (pV hd) hok f5 (by have:=iS d.N s d.x;omega) (by rw[dV h3]) ?_
        .by_cases e:z.1.i=y.1.i
         .exact .inl (if_pos (by simpa using e))
         .right;rw[if_neg (by simpa using e)];exact⟨λe'=>e e'.symm,z,hz,rfl,hfr2.2⟩
        .have:=xP (jL d s y.1.i (if z.1.i==y.1.i then 0 else z.1.i) (gA b y.2 z.2).1) (xU h.toOkW _ _ _ _)
         have e:(jL d s y.1.i (if z.1.i==y.1.i then 0 else z.1.i) (gA b y.2 z.2).1).L.length=d.L.length+1:=by show (d.L++[_]).length=_;rw[List.length_append];rfl
         rw[xN];omega
       .exact⟨rfl,h⟩
      .exact⟨rfl,h⟩
     .simp only[if_true];rw[GN r y.1.i (by rw[mX h.toSimW,hd];rfl)];exact⟨rfl,h⟩
def fV(r:Rm)(s onto:List UInt8):Rm × List Cf × Int :=
 if !((wsP r s).2==0) then (r,[],(wsP r s).2) else if !((snP r onto).2==0) then (r,[],(snP r onto).2) else if !(gW r (snP r onto).1.i==0) then (r,[],gW r (snP r onto).1.i)
 else
  let m:=eY (treeR r (wsP r s).1.p) (treeR r (snP r onto).1.i) (treeR r (wsP r s).1.i)
  if !(m.2.2==0) then (r,m.2.1,m.2.2) else if decide (2147483647<=r.x) then (r,[],16)
  else (zBt r s (snP r onto).1.i 0 (eB (treeR r (snP r onto).1.i) m.1),[],0)
def zOA(d:Dr)(id:Int):Int:=match rI d id with
 | some y=>y.1.p
 | none=>0
def vK(d:Dr)(s onto:List UInt8):Dr × List Cf × Int :=
 if cQ d.N s==0 then (d,[],6) else if lR d (cQ d.N s) then (d,[],14) else if cQ d.N onto==0 then (d,[],6) else if !lR d (cQ d.N onto) then (d,[],13) else if wW d (cQ d.N onto) then (d,[],15)
 else
  let m:=gA (cF d (zOA d (cQ d.N s))) (cF d (cQ d.N onto)) (cF d (cQ d.N s))
  if decide (0<(m.2.length:Int)) then (d,m.2,17) else if decide (120<(m.1.length:Int)) || decide (2147483647<=d.x) then (d,[],16)
  else (MH d s (cQ d.N onto) 0 m.1,[],0)
theorem zAO(h:OkW d){s:List UInt8}{n:Nm}(hn:lX d.N s=some n)(hy:y∈d.L)(hyn:y.1.i=n.l)(hf:y.1.f=false){p:Int}(hp:CI d p)(hc:(bL d.G p).length<=11)(hx:d.x<2147483647):(MH d s p 0 t).L.length<=d.L.length:=by
 obtain ⟨g1,g2⟩:=dO hn;have hinc:=xU h s p 0 t;have hz:∀x∈d.G,x.i<d.x:=λx hx=>by
  obtain⟨w,hw,rfl⟩:=CT.1 hx;exact h.nx.1 w hw
 have hg:OkG (jL d s p 0 t).G:=by
  rw[XM];exact zDw h.g hz ⟨h.nx.2.1,by simp only;omega⟩ (vV hp) (.inl rfl) (λh0=>absurd rfl h0) hc
 have hno:rE (jL d s p 0 t).G (iK (jL d s p 0 t).N) y.1.i=false:=by
  rw[Bool.eq_false_iff];intro hk;obtain⟨m,hm,ha⟩:=zEn hk;rcases YU hg ha with e|⟨w,hw,e1,e2⟩
  .rcases (sI h.srt).1 hm with rfl|⟨m1,m2⟩
   .have:=h.nx.1 y hy;simp only at e;omega
   .have:=h.one n g1 m m1 (by omega) λz hz hzn=>by rw[zHN h.g.inc hz hy (by omega)];exact hf
    subst this;exact m2 g2
  .obtain⟨w',hw',rfl⟩:=CT.1 hw;rcases List.mem_append.1 (show w'∈d.L++[_] from hw') with h1|h1
   .rw[zHN h.g.inc h1 hy e1,hf] at e2;cases e2
   .rw[List.mem_singleton] at h1;subst h1;cases e2
 rw[xN];show (zAn (jL d s p 0 t)).length<=_;rw[xR hinc];have hm:y∈(jL d s p 0 t).L:=show y∈d.L++[_] from List.mem_append_left _ hy
 have h1:∀{l:List (Ly × List It)} {f:Ly × List It->Bool},y∈l->f y=false->(l.filter f).length+1<=l.length:=by
  intro l f
  induction l with
  | nil=>intro h;cases h
  | cons z l ih =>
   intro hz hfy;rw[List.filter_cons];have:=List.length_filter_le f l;rcases List.mem_cons.1 hz with rfl|hz
   .rw[if_neg (by rw[hfy];decide)];simp only[List.length_cons];omega
   .have:=ih hz hfy;split<;>simp only[List.length_cons]<;>omega
 have h2:=h1 (f:=λz=>rE (jL d s p 0 t).G (iK (jL d s p 0 t).N) z.1.i) hm hno;have h3:(jL d s p 0 t).L.length=d.L.length+1:=by show (d.L++[_]).length=_;rw[List.length_append];rfl
 omega
theorem zAQ(h:Sim r d)(s onto:List UInt8):(fV r s onto).2=(vK d s onto).2/\Sim (fV r s onto).1 (vK d s onto).1:=by
 unfold fV vK wsP snP;cases hn:lX d.N s with
 | none =>
  obtain⟨h1,h2⟩:=dH h.toSimW hn;rw[h1,h2];exact⟨rfl,h⟩
 | some n =>
  obtain⟨y,hy,h1,h2,h3,h4,h5⟩:=dI h.toSimW hn;have hy2:=h.t y hy;rw[h1,h2,h5,iU h3,dV h3];cases hf:y.1.f;rotate_left 1
  .exact⟨rfl,h⟩
  .rw [show ((0:Int)==0 && false)=false from rfl]
   simp only[Bool.false_eq_true,if_false];rw[show (!((0:Int)==0))=false from rfl]
   simp only[Bool.false_eq_true,if_false];cases hnt:lX d.N onto with
   | none =>
    obtain⟨k1,k2⟩:=dH h.toSimW hnt;rw[k1,k2];exact⟨rfl,h⟩
   | some m =>
    obtain⟨z,hz,k1,k2,k3,k4,k5⟩:=dI h.toSimW hnt;have hz2:=h.t z hz;rw[k1,k2,k5,iU k3,dV k3];cases hfz:z.1.f
    .exact⟨rfl,h⟩
    .rw [show ((0:Int)==0 && !true)=false from rfl]
     simp only[Bool.false_eq_true,if_false,Bool.not_true];rw[show (!((0:Int)==0))=false from rfl]
     simp only[Bool.false_eq_true,if_false];rw[mX h.toSimW,Bool.not_not];cases hd:wW d z.1.i
     .simp only[Bool.false_eq_true,if_false];rw[h.toSimW.treeR,h.toSimW.treeR,h.toSimW.treeR,dV h3,dV k3,show zOA d y.1.i=y.1.p by unfold zOA;rw[h3],h.x]
      unfold eY;have hbk:=h.toOkW.tree y.1.p;generalize cF d y.1.p=b at hbk ⊢;cases hc1:decide (0<((gA b z.2 y.2).2.length:Int))
      .simp only[Bool.false_eq_true,if_false];cases hc2:decide (120<((gA b z.2 y.2).1.length:Int))
       .simp only[Bool.false_eq_true,if_false,Bool.false_or];rw[show (!((0:Int)==0))=false from rfl]
        simp only[Bool.false_eq_true,if_false];cases hc3:decide (2147483647<=d.x)
        .simp only[Bool.false_eq_true,if_false,true_and];simp only[decide_eq_false_iff_not] at hc1 hc2 hc3;have hok:=AB hbk hz2 hy2 (by omega) (by omega);have hsn:bD s=true:=by
          obtain⟨g1,g2⟩:=dO hn;rw[<- g2];exact(h.nm n g1).1
         have hlen2:(bV d.N s d.x).length<=20:=by
          obtain⟨g1,g2⟩:=dO hn;rw[<- g2,nY h.srt g1,List.length_set];exact h.ln
         refine JP h.toSimW hsn ⟨z,hz,rfl,hfz⟩ (.inl rfl) (pV hd) hok (by omega) hlen2 (by rw[dV k3]) ?_;exact Nat.le_trans (zAO h.toOkW hn hy h4 hf ⟨z,hz,rfl,hfz⟩ (pV hd) (by omega)) h.len
        .exact⟨rfl,h⟩
       .exact⟨rfl,h⟩
      .exact⟨rfl,h⟩
     .simp only[if_true];rw[GN r z.1.i (by rw[mX h.toSimW,hd];rfl)];exact⟨rfl,h⟩
end
def iZ:List UInt8:=[109,97,105,110]
def zMi:Rm:=⟨[⟨iZ,2⟩],[⟨1,0,0,true⟩,⟨2,1,0,false⟩],[],3⟩
theorem TS:Sim zMi TQ:=by
 have hg:OkG TQ.G:=(zE6 (by decide +kernel)).1;have hm:∀y∈TQ.L,y=(⟨1,0,0,true⟩,[])∨y=(⟨2,1,0,false⟩,[]):=λy hy=>by
  simpa[TQ] using hy
 refine { g:=hg,t:=λy hy=>?_,srt:=List.pairwise_singleton _ _,nm:=λn hn=>?_,one:=λn hn m hm2 _ _=>?_,nx:=⟨λy hy=>?_,by decide,by decide⟩,ln:=by decide,N:=rfl,L:=rfl,x:=rfl,e:=λy hy=>?_,kept:=λy hy=>?_,len:=by decide }
 .rcases hm y hy with rfl|rfl<;>exact OkT.nil
 .obtain rfl:n=⟨iZ,2⟩:=by simpa[TQ,iZ] using hn
  exact⟨by decide +kernel,(⟨2,1,0,false⟩,[]),by simp[TQ],rfl⟩
 .rw[show n=⟨iZ,2⟩ by simpa[TQ,iZ] using hn,show m=⟨iZ,2⟩ by simpa[TQ,iZ] using hm2]
 .rcases hm y hy with rfl|rfl<;>decide
 .have e:∀a,cF TQ a=[]:=λa=>by
   unfold cF;split
   .rename_i y hy;rcases hm y (nF hy).1 with rfl|rfl<;>rfl
   .rfl
  rw[e];rcases hm y hy with rfl|rfl<;>rfl
 .refine⟨⟨iZ,2⟩,by simp[TQ,iZ],?_⟩
  rcases hm y hy with rfl|rfl<;>decide +kernel
def aT(r:Rm):aC:=[.box [.own 1 0 r.N.length,.own 2 0 r.L.length,.mp 3,.p (.i .i64 r.x)],.arr 2 (bH r.N) false,.arr 4 (cN r.L) false,.mp (pP r.E)]
def AtN(N:List Nm)(s:List UInt8)(i:Nat):Prop:=i<=N.length/\∀(k:Nat) (x:Nm),N[k]?=some x->(k<i->bS x.n s=true)/\(i<=k->bS x.n s=false)
theorem zBD{s:List UInt8}:∀{N:List Nm} {i:Nat},AtN N s i->kY N s=i
 | [],i,h=>by have:=h.1;simp at this;subst this;rfl
 | x::N,0,h=>by
  have:=(h.2 0 x rfl).2 (Nat.le_refl _);unfold kY;rw[List.takeWhile_cons,if_neg (by rw[this];decide)];rfl
 | x::N,i+1,h=>by
  have h0:=(h.2 0 x rfl).1 (by omega);have ih:=zBD (N:=N) (i:=i) (s:=s) ⟨by have:=h.1;simp only[List.length_cons] at this;omega,λk y hy=>⟨λhk=>(h.2 (k+1) y (by simpa using hy)).1 (by omega),λhk=>(h.2 (k+1) y (by simpa using hy)).2 (by omega)⟩⟩
  unfold kY at ih ⊢;rw[List.takeWhile_cons,if_pos h0,List.length_cons,ih]
theorem zK1{N:List Nm}(h:uL N){s:List UInt8}{i:Nat}(ha:AtN N s i):JW N s=(match N[i]? with
  | some x=>x.n==s
  | none=>false):=by
 have e:=zBD ha;cases hi:N[i]? with
 | none =>
  simp only;unfold JW;rw[List.any_eq_false];intro x hx;obtain⟨k,hk⟩:=List.mem_iff_getElem?.1 hx;have hk2:k<i:=by
   have h1:=(List.getElem?_eq_some_iff.1 hk).1;have h2:N.length<=i:=by
    rcases Nat.lt_or_ge i N.length with h|h
    .rw[List.getElem?_eq_getElem h] at hi;cases hi
    .exact h
   omega
  have:=lC ((ha.2 k x hk).1 hk2);rw[this];decide
 | some y =>
  simp only;cases hy:y.n==s
  .rw[Bool.eq_false_iff];intro hn;unfold JW at hn;obtain⟨x,hx,hxs⟩:=List.any_eq_true.1 hn;have hxs:=eq_of_beq hxs;subst hxs;have:=vF h hx;rw[e,hi] at this;cases this;simp at hy
  .exact List.any_eq_true.2 ⟨y,List.mem_of_getElem? hi,hy⟩
theorem TV{N:List Nm}(h:uL N){s:List UInt8}:(JW N s=false/\lX N s=none)∨∃x,JW N s=true/\lX N s=some x/\N[kY N s]?=some x/\x.n=s:=by
 cases hn:lX N s with
 | none =>
  left;rw[<- vG,hn];exact⟨rfl,rfl⟩
 | some x =>
  right;obtain⟨h1,h2⟩:=dO hn;refine⟨x,by rw[<- vG,hn];rfl,rfl,?_,h2⟩
  rw[<- h2];exact vF h h1
structure OkR (r:Rm):Prop where
 srt:uL r.N
 nl:r.N.length<=900
 ll:r.L.length<=900
 ent:∀x∈r.L,OkE (lP r.E x.i)
 x:0<=r.x/\r.x<=2147483647
theorem DF{l:List Ly}:∀{n:Nat} {id a:Int},a∈eI l n id->∃x∈l,x.i=a
 | 0,_,_,h=>by cases h
 | n+1,id,a,h=>by
  simp only[eI] at h;split at h
  .rename_i x hx;rcases List.mem_cons.1 h with rfl|h
   .exact⟨x,(oG hx).1,rfl⟩
   .exact DF h
  .cases h
theorem OkR.layers{r:Rm}(h:OkR r)(id:Int):∀l∈nG r id,OkE l:=λl hl=>by
 obtain⟨a,ha,rfl⟩:=List.mem_map.1 hl;obtain⟨x,hx,rfl⟩:=DF (List.mem_reverse.1 ha);exact h.ent x hx
attribute [go_sem] aT
end Go.Dm
end
