/- Part 22 of the proof of roomStays_card, set without needless blanks. No condition. -/
import Derived.Test.YtlbfnbldeefgmaaGreatDoorT20
import Derived.Test.YtlbfnbldeefgmaaGreatDoorT17
set_option linter.all false
set_option maxRecDepth 100000
set_option maxHeartbeats 16000000
section
namespace Go.Dm
open Go Go.Sort
theorem YI(p:List UInt8)(b:List It):∀a:List It,aN (a++b) p=match aN a p with
  | some n=>some n
  | none=>aN b p
 | []=>rfl
 | x::a=>by
  rw[List.cons_append,aN,aN];split
  .rfl
  .exact YI p b a
theorem zK2{b o t:List It}(h:(zGR b o t).length=0):rV b o t (jE b o t)=[]/\iU (WJ b o t) []=[]:=by
 rw[zK1,RE] at h;unfold zP8 at h;rw[List.length_append,List.length_append] at h;have h1:rV b o t (jE b o t)=[]:=List.length_eq_zero_iff.1 (by omega);rw[h1] at h;exact⟨h1,List.length_eq_zero_iff.1 (by omega)⟩
theorem zI6{b o t:List It}(h:(zGR b o t).length=0):Par (WJ b o t):=λx hx=>by
 have h2:=List.flatMap_eq_nil_iff.1 (zK2 h).2 x hx;unfold PD at h2;split at h2
 .simp at h2
 .rename_i h3;simpa using h3
theorem JD(a b:Nat):wN a b=dC a∨wN a b=dC b:=by unfold wN;split<;>simp
theorem xJ{x y z:Nd}{u:Bool}(hy:aP y=true)(hz:aP z=true)(hyw:y.wf)(hzw:z.wf)(n:Nd)
  (hk:(n.k=y.k/\n.d=y.d)∨(n.k=z.k/\n.d=z.d))(hm:n.m=y.m∨n.m=z.m)(ht:n.t=y.t∨n.t=z.t∨n.t=wN y.t z.t):aP n=true/\n.t<18446744073709551616:=by
 have hpy:=gO hy hyw;have hpz:=gO hz hzw;have hnt:n.t<18446744073709551616/\dC n.t=n.t:=by
  rcases ht with e|e|e
  .rw[e];exact hpy
  .rw[e];exact hpz
  .rcases JD y.t z.t with e2|e2
   .rw[e,e2,hpy.2];exact hpy
   .rw[e,e2,hpz.2];exact hpz
 refine⟨?_,hnt.1⟩;have hw:n.wf:=hnt.1;rw[<- jY hw];rw[<- jY hyw] at hy;rw[<- jY hzw] at hz;unfold mQ at *;simp only[Bool.and_eq_true,decide_eq_true_eq,beq_iff_eq] at *;obtain⟨⟨⟨y1,y2⟩,y3⟩,_⟩:=hy;obtain⟨⟨⟨z1,z2⟩,z3⟩,_⟩:=hz;refine⟨⟨⟨?_,?_⟩,?_⟩,hnt.2⟩
 .unfold zAn at *;rcases hk with⟨e1,e2⟩|⟨e1,e2⟩
  .rw[e1,e2];exact y1
  .rw[e1,e2];exact z1
 .rcases hm with e|e<;>rw[e]<;>assumption
 .rcases hm with e|e<;>rw[e]<;>assumption
theorem WD{x y z:Nd}{u v w:Bool}(hy:v=true->aP y=true)(hz:w=true->aP z=true)(hyw:y.wf)(hzw:z.wf)(h0:(BB x y z u v w).2.2=0)(h:(BB x y z u v w).2.1=true):
  aP (BB x y z u v w).1=true/\(BB x y z u v w).1.t<18446744073709551616:=by
 revert h0 h;unfold BB;split
 .intro _ h;simp only at h;rw[h,if_pos rfl];exact⟨hy h,hyw⟩
 .split
  .intro _ h;simp only at h;rw[h,if_pos rfl];exact⟨hz h,hzw⟩
  .cases v
   .simp
   .cases w
    .simp
    .simp only[Bool.not_true,Bool.false_eq_true,if_false];split
     .intro _ _;refine xJ (x:=x) (u:=u) (hy rfl) (hz rfl) hyw hzw _ ?_ ?_ ?_
      .unfold wQ;simp only;split<;>simp
      .unfold wQ;simp only;split<;>simp
      .unfold wQ;simp only;split
       .simp
       .split<;>simp
     .intro h0;exfalso;revert h0
      repeat' split
      all_goals simp
theorem zMc{b o t:List It}(hb:OkT b)(ho:OkT o)(ht:OkT t)(h:(zGR b o t).length=0)(hl:(WJ b o t).length<=120):OkT (WJ b o t):=by
 refine ⟨⟨YY b o t,λx hx=>?_,hl⟩,zI6 h⟩;obtain⟨h1,h2,h3,h4⟩:=YQ hx;have hp:x.p≠[]/\cI x.p=true:=by
  rcases FF.1 h1 with h|h|h
  .exact⟨(hb.getok h).1,(hb.getok h).2.1⟩
  .exact⟨(ho.getok h).1,(ho.getok h).2.1⟩
  .exact⟨(ht.getok h).1,(ht.getok h).2.1⟩
 have hn:=WD (x:=(aN b x.p).getD nd0) (u:=(aN b x.p).isSome) (λh=>(ho.getok h).2.2) (λh=>(ht.getok h).2.2) (ho.gett x.p) (ht.gett x.p) h3 h4;have e:x.n=(mgN b o t x.p).1:=by rw[h2]
 refine⟨hp.1,hp.2,?_,?_⟩
 .rw[e];exact hn.1
 .rw[e];exact hn.2
structure OkS (t:List It):Prop where
 srt:Srt t
 ne:∀x∈t,x.p≠[]
 plen:∀x∈t,x.p.length<=1000
 dlen:∀x∈t,x.n.d.length<=2000
 tlen:∀x∈t,x.n.t<18446744073709551616
 len:t.length<=120
theorem OkT.s{t:List It}(h:OkT t):OkS t:=⟨h.srt,h.ne,λx hx=>Nat.le_trans (h.plen x hx) (by decide),h.dlen,h.tlen,h.len⟩
theorem OkS.getd{t:List It}(h:OkS t)(p:List UInt8):((aN t p).getD nd0).d.length<=2000:=by
 cases hg:aN t p with
 | none=>simp[nd0]
 | some n=>obtain⟨x,hx,_,e⟩:=cL hg;rw[Option.getD_some,<- e];exact h.dlen x hx
theorem OkS.gett{t:List It}(h:OkS t)(p:List UInt8):((aN t p).getD nd0).t<18446744073709551616:=by
 cases hg:aN t p with
 | none=>simp[nd0]
 | some n=>obtain⟨x,hx,_,e⟩:=cL hg;rw[Option.getD_some,<- e];exact h.tlen x hx
theorem zAS{t:List It}{p:List UInt8}(r:List It)(h:aX t p=true):aX (t++r) p=true:=by
 by_cases hp:p=[]
 .subst hp;rfl
 .obtain⟨m,h1,h2⟩:=cW hp h;exact fQ (m:=m) (by rw[YI,h1]) h2
theorem OkT.take{t:List It}(h:OkT t)(k:Nat):OkT (t.take k):=by
 refine⟨⟨h.srt.sublist (List.take_sublist _ _),λx hx=>h.its x (List.mem_of_mem_take hx),Nat.le_trans (by rw[List.length_take];omega) h.len⟩,λx hx=>?_⟩;obtain⟨j,hj,rfl⟩:=List.mem_iff_getElem.1 hx;have hjk:j<k/\j<t.length:=by rw[List.length_take] at hj;omega
 rw [List.getElem_take];have h1:=ES h (List.getElem?_eq_getElem hjk.2);have h2:=zAS ((t.take k).drop j) h1;have e:t.take j++(t.take k).drop j=t.take k:=by
  have:=List.take_append_drop j (t.take k);rw[List.take_take,Nat.min_eq_left (by omega)] at this;exact this
 rw[e] at h2;exact h2
theorem LY{a b:List It}(ha:OkS a)(hb:OkS b):∀x∈eS a b,x.p.length<=1000000000/\x.o.t<18446744073709551616/\x.n.t<18446744073709551616:=λx hx=>by
 obtain⟨h1,h2⟩:=nH hx;obtain⟨h3,_⟩:=xO hx;refine⟨?_,by rw[h1];exact ha.gett _,by rw[h2];exact hb.gett _⟩
 rcases zBh.1 h3 with⟨y,hy,e⟩|⟨y,hy,e⟩
 .rw[<- e];exact Nat.le_trans (ha.plen y hy) (by decide)
 .rw[<- e];exact Nat.le_trans (hb.plen y hy) (by decide)
theorem zFh{b o t:List It}(hb:OkS b)(ho:OkS o)(ht:OkS t):∀x∈WJ b o t,x.p.length<=1000:=λx hx=>by
 obtain ⟨h1,_⟩:=YQ hx;have key:∀{s:List It},OkS s->(aN s x.p).isSome=true->x.p.length<=1000:=λ{s} hs h=>by
  cases hg:aN s x.p with
  | none=>rw[hg] at h;cases h
  | some n=>obtain⟨y,hy,e,_⟩:=cL hg;rw[<- e];exact hs.plen y hy
 rcases FF.1 h1 with h|h|h
 .exact key hb h
 .exact key ho h
 .exact key ht h
theorem zIV(b o t:List It)(l:List (List UInt8)):(KW b o t l).length<=l.length:=AL (zEX b o t) l
theorem zIU(b o t:List It)(l:List (List UInt8)):(rV b o t l).length<=l.length:=AL (zL3 b o t) l
theorem WG(t:List It)(bad:List Cf):(iU t bad).length<=t.length:=AL (zFf t bad) t
theorem WQ(a b:List Pr):(iV a b).length<=a.length:=AL (zJl b) a
end Go.Dm
end
section
namespace Go.Dm
open Go
section
variable {r:Rm}{d:Dr}{y:Ly × List It}{t:List It}{l:List Ch}
def cO(r:Rm)(s:List UInt8):List It × Int:=if !((bR r s).2==0) then ([],(bR r s).2) else (treeR r (bR r s).1.i,0)
theorem mY(h:SimW r d)(s:List UInt8):cO r s=aW d s:=by
 unfold cO aW;cases hn:fV d.N s with
 | none =>
  obtain⟨h1,h2⟩:=bP h hn;rw[h1,h2];rfl
 | some n =>
  obtain⟨y,hy,h1,h2,h3,h4,h5⟩:=bY h hn;rw[h1,h2,h5];show (treeR r y.1.i,(0:Int))=(bU d y.1.i,0);rw[h.treeR]
theorem CL(h:OkW d)(s:List UInt8):OkT (aW d s).1:=by
 unfold aW;split
 .exact OkT.nil
 .exact h.tree _
def WY(r:Rm)(l:Ly)(t:List It):Rm:=if gU (treeR r l.i) t then r else ⟨r.N,r.L,oI r.E l.i (eG (treeR r l.p) t),r.x⟩
theorem CD(h:Sim r d)(hy:y∈d.L)(ht:OkT t)(hf:t=y.2∨y.1.f=false):Sim (WY r y.1 t) (mD d y.1.i t):=by
 have e:=iX h.g.inc hy;unfold WY;rw[h.toSimW.treeR,h.toSimW.treeR,e];cases hs:gU y.2 t
 .rw[if_neg (by decide)];rcases hf with rfl|hf
  .rw[BX (h.t y hy)] at hs;cases hs
  .exact zMq h hy hf ht
 .rw[if_pos rfl];have:=QY (λx hx=>gO ((h.t y hy).its x hx).2.2.1 ((h.t y hy).tlen x hx)) (λx hx=>gO (ht.its x hx).2.2.1 (ht.tlen x hx)) hs;rw[<- this,<- e,RX h.g.inc];exact h
def KU(r:Rm)(s:List UInt8)(c:Cl):Rm × An :=
 if !((bR r s).2==0) then (r,anE (bR r s).2) else if (bR r s).1.f && mZ c.k then (r,anE 14)
 else (WY r (bR r s).1 (doP (treeR r (bR r s).1.i) c).1,(doP (treeR r (bR r s).1.i) c).2)
theorem zKg(h:Sim r d)(s:List UInt8){c:Cl}(hc:c.t<18446744073709551616):(KU r s c).2=(doD d s c).2/\Sim (KU r s c).1 (doD d s c).1:=by
 unfold KU doD;cases hn:fV d.N s with
 | none =>
  obtain⟨h1,h2⟩:=bP h.toSimW hn;rw[h1,h2];exact⟨rfl,h⟩
 | some n =>
  obtain⟨y,hy,h1,h2,h3,h4,h5⟩:=bY h.toSimW hn;have hy2:=h.t y hy;rw[h1,h2,h5,dN h3,dB h3];rw[show (!((0:Int)==0))=false from rfl]
  simp only[Bool.false_eq_true,if_false];rw[h.toSimW.treeR,dB h3,<- zNy hy2];cases hft:y.1.f && mZ c.k
  .simp only[Bool.false_eq_true,if_false];cases he:((doP y.2 c).2.e==0)
   .simp only[Bool.not_false,if_true,true_and];have e1:=zLb (t:=y.2) (c:=c) (by simpa using he);rw[e1];have:=CD h hy hy2 (.inl rfl);rw[show mD d y.1.i y.2=d by rw[<- dB h3,RX h.g.inc]] at this
    exact this
   .simp only[Bool.not_true,Bool.false_eq_true,if_false,true_and];refine CD h hy (zNC hy2 hc) ?_;cases hf:y.1.f
    .exact .inr rfl
    .rw[hf,Bool.true_and] at hft;exact .inl (zDa hft)
  .exact⟨rfl,h⟩
def fY(r:Rm)(s:List UInt8)(l:List Ch):Rm × Int :=
 if !((wsP r s).2==0) then (r,(wsP r s).2) else if !((gA (treeR r (wsP r s).1.i) l).2==0) then (r,(gA (treeR r (wsP r s).1.i) l).2)
 else (WY r (wsP r s).1 (gA (treeR r (wsP r s).1.i) l).1,0)
def wF(d:Dr)(s:List UInt8)(l:List Ch):Dr × Int :=
 if bQ d.N s==0 then (d,6) else if eM d (bQ d.N s) then (d,14) else if !((gA (bU d (bQ d.N s)) l).2==0) then (d,(gA (bU d (bQ d.N s)) l).2)
 else (mD d (bQ d.N s) (gA (bU d (bQ d.N s)) l).1,0)
theorem KY(ht:OkT t)(hp:∀x∈l,x.n.t<18446744073709551616)(he:(gA t l).2=0):OkT (gA t l).1:=by
 unfold gA at he ⊢;split at he
 .cases he
 .rename_i h1;split at he
  .cases he
  .rename_i h2;split at he
   .cases he
   .rename_i h3;split at he
    .cases he
    .rename_i h4;rw[if_neg h1,if_neg h2,if_neg h3,if_neg h4];refine QD (λy hy=>?_) (by simpa using h4);rcases zET hy with⟨c,hc,rfl⟩|hy
     .exact hp c hc
     .exact ht.tlen y hy
theorem zCl(h:Sim r d)(s:List UInt8)(hl:∀x∈l,x.n.t<18446744073709551616):(fY r s l).2=(wF d s l).2/\Sim (fY r s l).1 (wF d s l).1:=by
 unfold fY wF wsP;cases hn:fV d.N s with
 | none =>
  obtain⟨h1,h2⟩:=bP h.toSimW hn;rw[h1,h2];exact⟨rfl,h⟩
 | some n =>
  obtain⟨y,hy,h1,h2,h3,h4,h5⟩:=bY h.toSimW hn;have hy2:=h.t y hy;rw[h1,h2,h5,dN h3,dB h3];cases hf:y.1.f;rotate_left 1
  .exact⟨rfl,h⟩
  .rw[show ((0:Int)==0 && false)=false from rfl]
   simp only[Bool.false_eq_true,if_false];rw[show (!((0:Int)==0))=false from rfl]
   simp only[Bool.false_eq_true,if_false];rw[h.toSimW.treeR,dB h3];cases he:((gA y.2 l).2==0)
   .exact⟨rfl,h⟩
   .simp only[Bool.not_true,Bool.false_eq_true,if_false,true_and];exact CD h hy (KY hy2 hl (by simpa using he)) (.inr hf)
def eN(b o t:List It):List It × List Cf × Int :=
 if decide (0<((fA b o t).2.length:Int)) then ([],(fA b o t).2,17) else if decide (120<((fA b o t).1.length:Int)) then ([],[],16) else ((fA b o t).1,[],0)
def eI(r:Rm)(o t:List UInt8):Ly × Ly × Int :=
 if !((bR r o).2==0) then ((bR r o).1,(bR r o).1,(bR r o).2)
 else ((bR r o).1,(bR r t).1,if (bR r t).2==0 && (!(bR r o).1.f || !(bR r t).1.f) then 13 else (bR r t).2)
def gM(r:Rm)(o t s:List UInt8):Rm × List Cf × Int :=
 if !((eI r o t).2.2==0) then (r,[],(eI r o t).2.2) else if !(gR r s==0) then (r,[],gR r s) else if !(gX r (eI r o t).1.i==0) then (r,[],gX r (eI r o t).1.i)
 else
  let m:=eN (treeR r (xD r.L (eI r o t).1.i (eI r o t).2.1.i)) (treeR r (eI r o t).1.i) (treeR r (eI r o t).2.1.i)
  if !(m.2.2==0) then (r,m.2.1,m.2.2)
  else (zCd r s (eI r o t).1.i (if (eI r o t).1.i==(eI r o t).2.1.i then 0 else (eI r o t).2.1.i) (eG (treeR r (eI r o t).1.i) m.1),[],0)
def wO(d:Dr)(o t s:List UInt8):Dr × List Cf × Int :=
 if bQ d.N o==0 || bQ d.N t==0 then (d,[],6) else if !eM d (bQ d.N o) || !eM d (bQ d.N t) then (d,[],13) else if !(jS d s==0) then (d,[],jS d s) else if qT d (bQ d.N o) then (d,[],15)
 else
  let m:=fA (bU d (xD d.G (bQ d.N o) (bQ d.N t))) (bU d (bQ d.N o)) (bU d (bQ d.N t))
  if decide (0<(m.2.length:Int)) then (d,m.2,17) else if decide (120<(m.1.length:Int)) then (d,[],16)
  else (DG d s (bQ d.N o) (if bQ d.N t==bQ d.N o then 0 else bQ d.N t) m.1,[],0)
theorem pC{b o:List It}(hb:OkT b)(ho:OkT o)(ht:OkT t)(h1:¬ 0<(fA b o t).2.length)(h2:¬ 120<(fA b o t).1.length):OkT (fA b o t).1:=by
 unfold fA at h1 h2 ⊢;split at h1
 .rename_i hz;rw[if_pos hz] at h2 ⊢;exact zMc hb ho ht (eq_of_beq hz) (by simp only at h2;omega)
 .rename_i hz;simp only at h1;exact absurd (show ((zGR b o t).length==0)=true by simp;exact List.eq_nil_of_length_eq_zero (by omega)) hz
theorem zEW(h:Sim r d)(o t s:List UInt8):(gM r o t s).2=(wO d o t s).2/\Sim (gM r o t s).1 (wO d o t s).1:=by
 unfold gM wO eI;cases hn:fV d.N o with
 | none =>
  obtain⟨h1,h2⟩:=bP h.toSimW hn;rw[h1,h2];exact⟨rfl,h⟩
 | some n =>
  obtain⟨y,hy,h1,h2,h3,h4,h5⟩:=bY h.toSimW hn;have hy2:=h.t y hy;rw[h1,h2,h5,dN h3,dB h3];rw[show (!((0:Int)==0))=false from rfl]
  simp only[Bool.false_eq_true,if_false,Bool.false_or];cases hnt:fV d.N t with
  | none =>
   obtain⟨k1,k2⟩:=bP h.toSimW hnt;rw[k1,k2];exact⟨rfl,h⟩
  | some m =>
   obtain⟨z,hz,k1,k2,k3,k4,k5⟩:=bY h.toSimW hnt;have hz2:=h.t z hz;rw[k1,k2,k5,dN k3,dB k3];rw[show ((0:Int)==0)=true from rfl]
   simp only[Bool.true_and,Bool.false_eq_true,if_false];cases hfr2:(!y.1.f || !z.1.f);rotate_left 1
   .exact⟨rfl,h⟩
   .simp only[Bool.false_eq_true,if_false];rw[show (!((0:Int)==0))=false from rfl]
    simp only[Bool.false_eq_true,if_false];simp only[Bool.or_eq_false_iff,Bool.not_eq_false'] at hfr2;rw[qC h.toSimW];cases hfr:(jS d s==0)
    .exact⟨rfl,h⟩
    .simp only[Bool.not_true,Bool.false_eq_true,if_false];rw[nG h.toSimW,Bool.not_not];cases hd:qT d y.1.i
     .simp only[Bool.false_eq_true,if_false];obtain⟨f1,f2,f3,f4,f5⟩:=jW hfr;rw[h.toSimW.treeR,h.toSimW.treeR,h.toSimW.treeR,dB h3,dB k3,h.L];unfold eN;have hbk:=h.toOkW.tree (xD d.G y.1.i z.1.i);generalize bU d (xD d.G y.1.i z.1.i)=b at hbk ⊢;cases hc1:decide (0<((fA b y.2 z.2).2.length:Int))
      .simp only[Bool.false_eq_true,if_false];cases hc2:decide (120<((fA b y.2 z.2).1.length:Int))
       .simp only[Bool.false_eq_true,if_false];rw[show (!((0:Int)==0))=false from rfl]
        simp only[Bool.false_eq_true,if_false,true_and];simp only[decide_eq_false_iff_not] at hc1 hc2;have hok:=pC hbk hy2 hz2 (by omega) (by omega);have hq:(if y.1.i==z.1.i then (0:Int) else z.1.i)=(if z.1.i==y.1.i then 0 else z.1.i):=by
         by_cases e:y.1.i=z.1.i
         .rw[if_pos (by simpa using e),if_pos (by simpa using e.symm)]
         .rw[if_neg (by simpa using e),if_neg (by simpa using λe'=>e e'.symm)]
        rw[hq];refine KL h.toSimW f1 ⟨y,hy,rfl,hfr2.1⟩ ?_ (iT hd) hok f5 (by have:=fE d.N s d.x;omega) (by rw[dB h3]) ?_
        .by_cases e:z.1.i=y.1.i
         .exact .inl (if_pos (by simpa using e))
         .right;rw[if_neg (by simpa using e)];exact⟨λe'=>e e'.symm,z,hz,rfl,hfr2.2⟩
        .have:=xZ (gN d s y.1.i (if z.1.i==y.1.i then 0 else z.1.i) (fA b y.2 z.2).1) (yE h.toOkW _ _ _ _)
         have e:(gN d s y.1.i (if z.1.i==y.1.i then 0 else z.1.i) (fA b y.2 z.2).1).L.length=d.L.length+1:=by show (d.L++[_]).length=_;rw[List.length_append];rfl
         rw[tJ];omega
       .exact⟨rfl,h⟩
      .exact⟨rfl,h⟩
     .simp only[if_true];rw[HH r y.1.i (by rw[nG h.toSimW,hd];rfl)];exact⟨rfl,h⟩
def eP(r:Rm)(s onto:List UInt8):Rm × List Cf × Int :=
 if !((wsP r s).2==0) then (r,[],(wsP r s).2) else if !((snP r onto).2==0) then (r,[],(snP r onto).2) else if !(gX r (snP r onto).1.i==0) then (r,[],gX r (snP r onto).1.i)
 else
  let m:=eN (treeR r (wsP r s).1.p) (treeR r (snP r onto).1.i) (treeR r (wsP r s).1.i)
  if !(m.2.2==0) then (r,m.2.1,m.2.2) else if decide (2147483647<=r.x) then (r,[],16)
  else (zCd r s (snP r onto).1.i 0 (eG (treeR r (snP r onto).1.i) m.1),[],0)
def zOl(d:Dr)(id:Int):Int:=match qY d id with
 | some y=>y.1.p
 | none=>0
def nV(d:Dr)(s onto:List UInt8):Dr × List Cf × Int :=
 if bQ d.N s==0 then (d,[],6) else if eM d (bQ d.N s) then (d,[],14) else if bQ d.N onto==0 then (d,[],6) else if !eM d (bQ d.N onto) then (d,[],13) else if qT d (bQ d.N onto) then (d,[],15)
 else
  let m:=fA (bU d (zOl d (bQ d.N s))) (bU d (bQ d.N onto)) (bU d (bQ d.N s))
  if decide (0<(m.2.length:Int)) then (d,m.2,17) else if decide (120<(m.1.length:Int)) || decide (2147483647<=d.x) then (d,[],16)
  else (DG d s (bQ d.N onto) 0 m.1,[],0)
theorem zBr(h:OkW d){s:List UInt8}{n:Nm}(hn:fV d.N s=some n)(hy:y∈d.L)(hyn:y.1.i=n.l)(hf:y.1.f=false){p:Int}(hp:uU d p)(hc:(bN d.G p).length<=11)(hx:d.x<2147483647):(DG d s p 0 t).L.length<=d.L.length:=by
 obtain ⟨g1,g2⟩:=cN hn;have hinc:=yE h s p 0 t;have hz:∀x∈d.G,x.i<d.x:=λx hx=>by
  obtain⟨w,hw,rfl⟩:=JJ.1 hx;exact h.nx.1 w hw
 have hg:OkG (gN d s p 0 t).G:=by
  rw[YR];exact zEh h.g hz ⟨h.nx.2.1,by simp only;omega⟩ (wC hp) (.inl rfl) (λh0=>absurd rfl h0) hc
 have hno:rQ (gN d s p 0 t).G (mF (gN d s p 0 t).N) y.1.i=false:=by
  rw[Bool.eq_false_iff];intro hk;obtain⟨m,hm,ha⟩:=zFa hk;rcases ZZ hg ha with e|⟨w,hw,e1,e2⟩
  .rcases (jB h.srt).1 hm with rfl|⟨m1,m2⟩
   .have:=h.nx.1 y hy;simp only at e;omega
   .have:=h.one n g1 m m1 (by omega) λz hz hzn=>by rw[zIF h.g.inc hz hy (by omega)];exact hf
    subst this;exact m2 g2
  .obtain⟨w',hw',rfl⟩:=JJ.1 hw;rcases List.mem_append.1 (show w'∈d.L++[_] from hw') with h1|h1
   .rw[zIF h.g.inc h1 hy e1,hf] at e2;cases e2
   .rw[List.mem_singleton] at h1;subst h1;cases e2
 rw[tJ];show (zAW (gN d s p 0 t)).length<=_;rw[yB hinc];have hm:y∈(gN d s p 0 t).L:=show y∈d.L++[_] from List.mem_append_left _ hy
 have h1:∀{l:List (Ly × List It)} {f:Ly × List It->Bool},y∈l->f y=false->(l.filter f).length+1<=l.length:=by
  intro l f
  induction l with
  | nil=>intro h;cases h
  | cons z l ih =>
   intro hz hfy;rw[List.filter_cons];have:=List.length_filter_le f l;rcases List.mem_cons.1 hz with rfl|hz
   .rw[if_neg (by rw[hfy];decide)];simp only[List.length_cons];omega
   .have:=ih hz hfy;split<;>simp only[List.length_cons]<;>omega
 have h2:=h1 (f:=λz=>rQ (gN d s p 0 t).G (mF (gN d s p 0 t).N) z.1.i) hm hno;have h3:(gN d s p 0 t).L.length=d.L.length+1:=by show (d.L++[_]).length=_;rw[List.length_append];rfl
 omega
theorem zBt(h:Sim r d)(s onto:List UInt8):(eP r s onto).2=(nV d s onto).2/\Sim (eP r s onto).1 (nV d s onto).1:=by
 unfold eP nV wsP snP;cases hn:fV d.N s with
 | none =>
  obtain⟨h1,h2⟩:=bP h.toSimW hn;rw[h1,h2];exact⟨rfl,h⟩
 | some n =>
  obtain⟨y,hy,h1,h2,h3,h4,h5⟩:=bY h.toSimW hn;have hy2:=h.t y hy;rw[h1,h2,h5,dN h3,dB h3];cases hf:y.1.f;rotate_left 1
  .exact⟨rfl,h⟩
  .rw [show ((0:Int)==0 && false)=false from rfl]
   simp only[Bool.false_eq_true,if_false];rw[show (!((0:Int)==0))=false from rfl]
   simp only[Bool.false_eq_true,if_false];cases hnt:fV d.N onto with
   | none =>
    obtain⟨k1,k2⟩:=bP h.toSimW hnt;rw[k1,k2];exact⟨rfl,h⟩
   | some m =>
    obtain⟨z,hz,k1,k2,k3,k4,k5⟩:=bY h.toSimW hnt;have hz2:=h.t z hz;rw[k1,k2,k5,dN k3,dB k3];cases hfz:z.1.f
    .exact⟨rfl,h⟩
    .rw [show ((0:Int)==0 && !true)=false from rfl]
     simp only[Bool.false_eq_true,if_false,Bool.not_true];rw[show (!((0:Int)==0))=false from rfl]
     simp only[Bool.false_eq_true,if_false];rw[nG h.toSimW,Bool.not_not];cases hd:qT d z.1.i
     .simp only[Bool.false_eq_true,if_false];rw[h.toSimW.treeR,h.toSimW.treeR,h.toSimW.treeR,dB h3,dB k3,show zOl d y.1.i=y.1.p by unfold zOl;rw[h3],h.x]
      unfold eN;have hbk:=h.toOkW.tree y.1.p;generalize bU d y.1.p=b at hbk ⊢;cases hc1:decide (0<((fA b z.2 y.2).2.length:Int))
      .simp only[Bool.false_eq_true,if_false];cases hc2:decide (120<((fA b z.2 y.2).1.length:Int))
       .simp only[Bool.false_eq_true,if_false,Bool.false_or];rw[show (!((0:Int)==0))=false from rfl]
        simp only[Bool.false_eq_true,if_false];cases hc3:decide (2147483647<=d.x)
        .simp only[Bool.false_eq_true,if_false,true_and];simp only[decide_eq_false_iff_not] at hc1 hc2 hc3;have hok:=pC hbk hz2 hy2 (by omega) (by omega);have hsn:aZ s=true:=by
          obtain⟨g1,g2⟩:=cN hn;rw[<- g2];exact(h.nm n g1).1
         have hlen2:(bL d.N s d.x).length<=20:=by
          obtain⟨g1,g2⟩:=cN hn;rw[<- g2,kG h.srt g1,List.length_set];exact h.ln
         refine KL h.toSimW hsn ⟨z,hz,rfl,hfz⟩ (.inl rfl) (iT hd) hok (by omega) hlen2 (by rw[dB k3]) ?_;exact Nat.le_trans (zBr h.toOkW hn hy h4 hf ⟨z,hz,rfl,hfz⟩ (iT hd) (by omega)) h.len
        .exact⟨rfl,h⟩
       .exact⟨rfl,h⟩
      .exact⟨rfl,h⟩
     .simp only[if_true];rw[HH r z.1.i (by rw[nG h.toSimW,hd];rfl)];exact⟨rfl,h⟩
end
def jK:List UInt8:=[109,97,105,110]
def zNa:Rm:=⟨[⟨jK,2⟩],[⟨1,0,0,true⟩,⟨2,1,0,false⟩],[],3⟩
theorem VZ:Sim zNa VY:=by
 have hg:OkG VY.G:=(zFT (by decide +kernel)).1;have hm:∀y∈VY.L,y=(⟨1,0,0,true⟩,[])∨y=(⟨2,1,0,false⟩,[]):=λy hy=>by
  simpa[VY] using hy
 refine { g:=hg,t:=λy hy=>?_,srt:=List.pairwise_singleton _ _,nm:=λn hn=>?_,one:=λn hn m hm2 _ _=>?_,nx:=⟨λy hy=>?_,by decide,by decide⟩,ln:=by decide,N:=rfl,L:=rfl,x:=rfl,e:=λy hy=>?_,kept:=λy hy=>?_,len:=by decide }
 .rcases hm y hy with rfl|rfl<;>exact OkT.nil
 .obtain rfl:n=⟨jK,2⟩:=by simpa[VY,jK] using hn
  exact⟨by decide +kernel,(⟨2,1,0,false⟩,[]),by simp[VY],rfl⟩
 .rw[show n=⟨jK,2⟩ by simpa[VY,jK] using hn,show m=⟨jK,2⟩ by simpa[VY,jK] using hm2]
 .rcases hm y hy with rfl|rfl<;>decide
 .have e:∀a,bU VY a=[]:=λa=>by
   unfold bU;split
   .rename_i y hy;rcases hm y (nO hy).1 with rfl|rfl<;>rfl
   .rfl
  rw[e];rcases hm y hy with rfl|rfl<;>rfl
 .refine⟨⟨jK,2⟩,by simp[VY,jK],?_⟩
  rcases hm y hy with rfl|rfl<;>decide +kernel
def aS(r:Rm):aB:=[.box [.own 1 0 r.N.length,.own 2 0 r.L.length,.mp 3,.p (.i .i64 r.x)],.arr 2 (aV r.N) false,.arr 4 (cM r.L) false,.mp (jI r.E)]
def AtN(N:List Nm)(s:List UInt8)(i:Nat):Prop:=i<=N.length/\∀(k:Nat) (x:Nm),N[k]?=some x->(k<i->bT x.n s=true)/\(i<=k->bT x.n s=false)
theorem zCo{s:List UInt8}:∀{N:List Nm} {i:Nat},AtN N s i->lJ N s=i
 | [],i,h=>by have:=h.1;simp at this;subst this;rfl
 | x::N,0,h=>by
  have:=(h.2 0 x rfl).2 (Nat.le_refl _);unfold lJ;rw[List.takeWhile_cons,if_neg (by rw[this];decide)];rfl
 | x::N,i+1,h=>by
  have h0:=(h.2 0 x rfl).1 (by omega);have ih:=zCo (N:=N) (i:=i) (s:=s) ⟨by have:=h.1;simp only[List.length_cons] at this;omega,λk y hy=>⟨λhk=>(h.2 (k+1) y (by simpa using hy)).1 (by omega),λhk=>(h.2 (k+1) y (by simpa using hy)).2 (by omega)⟩⟩
  unfold lJ at ih ⊢;rw[List.takeWhile_cons,if_pos h0,List.length_cons,ih]
theorem zLS{N:List Nm}(h:wZ N){s:List UInt8}{i:Nat}(ha:AtN N s i):SC N s=(match N[i]? with
  | some x=>x.n==s
  | none=>false):=by
 have e:=zCo ha;cases hi:N[i]? with
 | none =>
  simp only;unfold SC;rw[List.any_eq_false];intro x hx;obtain⟨k,hk⟩:=List.mem_iff_getElem?.1 hx;have hk2:k<i:=by
   have h1:=(List.getElem?_eq_some_iff.1 hk).1;have h2:N.length<=i:=by
    rcases Nat.lt_or_ge i N.length with h|h
    .rw[List.getElem?_eq_getElem h] at hi;cases hi
    .exact h
   omega
  have:=lO ((ha.2 k x hk).1 hk2);rw[this];decide
 | some y =>
  simp only;cases hy:y.n==s
  .rw[Bool.eq_false_iff];intro hn;unfold SC at hn;obtain⟨x,hx,hxs⟩:=List.any_eq_true.1 hn;have hxs:=eq_of_beq hxs;subst hxs;have:=JO h hx;rw[e,hi] at this;cases this;simp at hy
  .exact List.any_eq_true.2 ⟨y,List.mem_of_getElem? hi,hy⟩
theorem WB{N:List Nm}(h:wZ N){s:List UInt8}:(SC N s=false/\fV N s=none)∨∃x,SC N s=true/\fV N s=some x/\N[lJ N s]?=some x/\x.n=s:=by
 cases hn:fV N s with
 | none =>
  left;rw[<- JP,hn];exact⟨rfl,rfl⟩
 | some x =>
  right;obtain⟨h1,h2⟩:=cN hn;refine⟨x,by rw[<- JP,hn];rfl,rfl,?_,h2⟩
  rw[<- h2];exact JO h h1
structure OkR (r:Rm):Prop where
 srt:wZ r.N
 nl:r.N.length<=900
 ll:r.L.length<=900
 ent:∀x∈r.L,OkE (lH r.E x.i)
 x:0<=r.x/\r.x<=2147483647
theorem DX{l:List Ly}:∀{n:Nat} {id a:Int},a∈eR l n id->∃x∈l,x.i=a
 | 0,_,_,h=>by cases h
 | n+1,id,a,h=>by
  simp only[eR] at h;split at h
  .rename_i x hx;rcases List.mem_cons.1 h with rfl|h
   .exact⟨x,(oR hx).1,rfl⟩
   .exact DX h
  .cases h
theorem OkR.layers{r:Rm}(h:OkR r)(id:Int):∀l∈nQ r id,OkE l:=λl hl=>by
 obtain⟨a,ha,rfl⟩:=List.mem_map.1 hl;obtain⟨x,hx,rfl⟩:=DX (List.mem_reverse.1 ha);exact h.ent x hx
attribute [go_sem] aS
end Go.Dm
end
