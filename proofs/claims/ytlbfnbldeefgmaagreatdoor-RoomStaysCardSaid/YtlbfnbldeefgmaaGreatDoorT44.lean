/- Part 45 of the proof of roomStays_card, set without needless blanks. No condition. -/
import Derived.Test.YtlbfnbldeefgmaaGreatDoorT43
import Derived.Shelf.SlBodiesN
import Derived.Shelf.RegionOpenPlain
import Derived.Deep.RegionLaw
import Derived.Lib.SliceRun
set_option linter.all false
set_option maxRecDepth 100000
set_option maxHeartbeats 16000000
section
namespace Go.Proofs.YtlbfnbldeefgmaaGreatDoor
open Go Go.Dm Go.Proofs Go.Proofs.Tryz
theorem WT{r:Rm}{s:List UInt8}{l:List Ch}(hr:OkR r)(hl:l.length<=100000)(hp:∀x∈l,x.p.length<=1000000000/\x.o.t<18446744073709551616/\x.n.t<18446744073709551616)(hd:∀x∈l,x.n.d.length<=140737488355328)
  (h3:((wsP r s).2==0)=true->OkT (treeR r (wsP r s).1.i)/\OkT (treeR r (wsP r s).1.p)/\(((gA (treeR r (wsP r s).1.i) l).2==0)=true->OkT (gA (treeR r (wsP r s).1.i) l).1)):
  aA prog 30 [.c (.ptr 0 0),.c (.p (.s s)),.c (.p (.sl 10 (mM l)))] (aS r) λd h=>d=.c (.p (.i .i64 (fY r s l).2))/\h=aS (fY r s l).1:=by
 have hly:=KH (s:=s) hr;have htr:=dK (a:=(wsP r s).1.i) hr;unfold fY;generalize hy:wsP r s=y at *;obtain⟨⟨yi,yp,yq,yf⟩,e⟩:=y;simp only[Ly.cv] at *;cases he:(e==0)
 .have hb:(e != 0)=true:=by rw[bne,he];rfl
  simp only[Bool.not_false,if_true];clear h3 htr hr;refine eT func30 λX0 hX=>?_;simp only[f30,go_sem]
  repeat' (first|exact⟨⟩|refine sp ?_|refine uS [0,1,2,3] (hly) ?_)
 .have hb:(e != 0)=false:=by rw[bne,he];rfl
  simp only[Bool.not_true,Bool.false_eq_true,if_false];obtain⟨k1,k2,k3⟩:=h3 he;have hap:=zG0 k1 hl hp hd;have hst:=λh=>QL (i:=yi) (p:=yp) (q:=yq) (f:=yf) (t:=(gA (treeR r yi) l).1) hr h k2;have hsm:=λh=>GL (a:=treeR r yi) (b:=(gA (treeR r yi) l).1) (by have:=k1.len;omega) h;unfold WY;simp only;generalize eG (treeR r yp) (gA (treeR r yi) l).1=E1 at hst ⊢;generalize gA (treeR r yi) l=T at *;obtain⟨T1,e2⟩:=T;simp only at *;generalize treeR r yi=T0 at *;cases he2:(e2==0)
  .simp only[Bool.not_false,if_true];clear h3 k1 k2 k3 hr hst hsm;refine eT func30 λX0 hX=>?_;simp only[f30,go_sem]
   repeat' (first|exact⟨⟩|refine sp ?_|refine uS [0,1,2,3] (hly) ?_|refine uS [0,1,2,3] (htr) ?_|refine uN (hap) ?_)
  .have k4:=k3 he2;have hst:=hst k4;have hsm:=hsm (by have:=k4.len;omega);obtain rfl:e2=0:=by simpa using he2
   simp only[Bool.not_true,Bool.false_eq_true,if_false];clear h3 k1 k2 k3 k4 hr;cases hs:gU T0 T1
   .simp only[Bool.false_eq_true,if_false];refine eT func30 λX0 hX=>?_;simp only[f30,go_sem]
    repeat' (first|exact⟨⟩|refine sq ?_|refine uS [0,1,2,3] (hly) ?_|refine uS [0,1,2,3] (htr) ?_|refine uN (hap) ?_|refine uN (hsm) ?_|refine uS [0,1,2,3] (hst) ?_)
   .simp only[if_true];refine eT func30 λX0 hX=>?_;simp only[f30,go_sem]
    repeat' (first|exact⟨⟩|refine sq ?_|refine uS [0,1,2,3] (hly) ?_|refine uS [0,1,2,3] (htr) ?_|refine uN (hap) ?_|refine uN (hsm) ?_)
def hZ(r:Rm)(a b:List UInt8):List Ch × Int :=
 if !((cO r a).2==0) then ([],(cO r a).2) else if !((cO r b).2==0) then ([],(cO r b).2) else (eS (cO r a).1 (cO r b).1,0)
theorem zBI{r:Rm}{a b:List UInt8}(hr:OkR r)(h3:((cO r a).2==0)=true->((cO r b).2==0)=true->OkT (cO r a).1/\OkT (cO r b).1):
  aA prog 90 [.c (.ptr 0 0),.c (.p (.s a)),.c (.p (.s b))] (aS r) λd h=>d=.tup [.c (.p (.sl 10 (mM (hZ r a b).1))),.c (.p (.i .i64 (hZ r a b).2))]/\h=aS r:=by
 have h1:=vX (s:=a) hr;have h2:=vX (s:=b) hr;unfold hZ;generalize cO r a=y1 at *;generalize cO r b=y2 at *;obtain⟨ta,e1⟩:=y1;obtain⟨tb,e2⟩:=y2;simp only at *;refine aI ?_;cases he:(e1==0)
 .have hb:(e1 != 0)=true:=by rw[bne,he];rfl
  simp only[Bool.not_false,if_true];clear h2 h3 hr;refine eT func90 λX0 hX=>?_;simp only[f90,go_sem]
  repeat' (first|exact⟨⟩|refine sp ?_|refine uS [0,1,2,3] (h1) ?_)
  all_goals exact .inr ⟨10,rfl⟩
 .have hb:(e1 != 0)=false:=by rw[bne,he];rfl
  simp only[Bool.not_true,Bool.false_eq_true,if_false];cases he2:(e2==0)
  .have hb2:(e2 != 0)=true:=by rw[bne,he2];rfl
   simp only[Bool.not_false,if_true];clear h3 hr;refine eT func90 λX0 hX=>?_;simp only[f90,go_sem]
   repeat' (first|exact⟨⟩|refine sp ?_|refine uS [0,1,2,3] (h1) ?_|refine uS [0,1,2,3] (h2) ?_)
   all_goals exact .inr ⟨10,rfl⟩
  .have hb2:(e2 != 0)=false:=by rw[bne,he2];rfl
   simp only[Bool.not_true,Bool.false_eq_true,if_false];obtain⟨k1,k2⟩:=h3 he he2;have hdf:=zNt k1 k2;clear h3 hr k1 k2;refine eT func90 λX0 hX=>?_;simp only[f90,go_sem]
   repeat' (first|exact⟨⟩|refine sp ?_|refine uS [0,1,2,3] (h1) ?_|refine uS [0,1,2,3] (h2) ?_|refine uN (hdf) ?_)
def zAK(id:Int)(l:List Ly)(k:Nat):List Ly:=(l.take k).map (zX id)++l.drop k
theorem zEd(id:Int)(l:List Ly):zAK id l 0=l:=by simp[zAK]
theorem zIr(id:Int)(l:List Ly):zAK id l l.length=oC l id:=by simp[zAK,oC]
theorem zIs(id:Int)(l:List Ly)(k:Nat):(zAK id l k).length=l.length:=by simp[zAK];omega
theorem zLF{id:Int}{l:List Ly}{k:Nat}{x:Ly}(h:l[k]?=some x):(zAK id l k)[k]?=some x:=by
 have hlt:=(List.getElem?_eq_some_iff.1 h).1;unfold zAK;rw[List.getElem?_append_right (by simp;omega)];simp[Nat.min_eq_left (Nat.le_of_lt hlt),h]
theorem zIt{id:Int}{l:List Ly}{k:Nat}{x:Ly}(h:l[k]?=some x):(zAK id l k).set k (zX id x)=zAK id l (k+1):=by
 have hlt:=(List.getElem?_eq_some_iff.1 h).1;have hd:l.drop k=x::l.drop (k+1):=by
  rw[List.drop_eq_getElem_cons hlt,(List.getElem?_eq_some_iff.1 h).2]
 unfold zAK;rw[hd,List.set_append_right _ _ (by simp;omega),List.take_add_one,h];simp[Nat.min_eq_left (Nat.le_of_lt hlt)]
theorem QF{r:Rm}{s sn:List UInt8}(hr:OkR r)(hs:sn.length<=1000000000)
  (h3:((wsP r s).2==0)=true->(gR r sn==0)=true->(gX r (wsP r s).1.i==0)=true->OkR ⟨bL r.N sn (wsP r s).1.i,oC r.L (wsP r s).1.i,r.E,r.x⟩ /\
   OkR ⟨bL (bL r.N sn (wsP r s).1.i) s r.x,oC r.L (wsP r s).1.i++[⟨r.x,(wsP r s).1.i,0,false⟩],oI r.E r.x [],r.x+1⟩/\OkG (oC r.L (wsP r s).1.i++[⟨r.x,(wsP r s).1.i,0,false⟩])):
  aA prog 14 [.c (.ptr 0 0),.c (.p (.s s)),.c (.p (.s sn))] (aS r) λd h=>d=.c (.p (.i .i64 (gK r s sn).2))/\h=dI (gK r s sn).1:=by
 have hws:=KH (s:=s) hr;have hfr:=sD (s:=sn) hr hs;have hdp:=qN (a:=(wsP r s).1.i) hr;have hpu:=QH (r:=⟨r.N,oC r.L (wsP r s).1.i,r.E,r.x⟩) (s:=sn) (n:=(wsP r s).1.i) (by have:=hr.nl;simp only;omega) hr.srt;have had:=λh0 h1 h2=>uE (r:=⟨bL r.N sn (wsP r s).1.i,oC r.L (wsP r s).1.i,r.E,r.x⟩) (s:=s) (i0:=0) (p:=(wsP r s).1.i) (q:=0) (es:=[]) h0 h1 h2;have hll:=hr.ll;unfold gK;generalize wsP r s=y at *;obtain⟨⟨yi,yp,yq,yf⟩,e⟩:=y;simp only[Ly.cv] at *;generalize gR r sn=e2 at *;generalize gX r yi=e3 at *;have bad:∀{c:List CV} {e:Int},aA prog 14 [.c (.ptr 0 0),.c (.p (.s s)),.c (.p (.s sn))] (aS r) (λd h=>d=.c (.p (.i .i64 e))/\h=aS r++[.box c])->aA prog 14 [.c (.ptr 0 0),.c (.p (.s s)),.c (.p (.s sn))] (aS r) (λd h=>d=.c (.p (.i .i64 e))/\h=dI r):=λ{c e} hc =>
  aA.perm [0,5,6,7,1,2,3] hc rfl rfl (by unfold dI aS;exact hpK)
 cases he:(e==0)
 .have hb:(e != 0)=true:=by rw[bne,he];rfl
  simp only[Bool.not_false,if_true];refine bad (c:=[.p (.i .i64 yi),.p (.i .i64 yp),.p (.i .i64 yq),.p (.b yf)]) ?_;clear had h3 hfr hdp hpu;refine nJ aD aL func14 rfl rfl λX0 hX=>?_;simp only[f14,go_sem]
  repeat' (first|exact⟨⟩|refine sp ?_|refine uS [0,1,2,3] (hws) ?_)
 .have hb:(e != 0)=false:=by rw[bne,he];rfl
  simp only[Bool.not_true,Bool.false_eq_true,if_false];cases he2:(e2==0)
  .have hb2:(e2 != 0)=true:=by rw[bne,he2];rfl
   simp only[Bool.not_false,if_true];refine bad (c:=[.p (.i .i64 yi),.p (.i .i64 yp),.p (.i .i64 yq),.p (.b yf)]) ?_;clear had h3 hdp hpu;refine nJ aD aL func14 rfl rfl λX0 hX=>?_;simp only[f14,go_sem]
   repeat' (first|exact⟨⟩|refine sp ?_|refine uS [0,1,2,3] (hws) ?_|refine uS [0,1,2,3] (hfr) ?_)
  .have hb2:(e2 != 0)=false:=by rw[bne,he2];rfl
   simp only[Bool.not_true,Bool.false_eq_true,if_false];cases he3:(e3==0)
   .have hb3:(e3 != 0)=true:=by rw[bne,he3];rfl
    simp only[Bool.not_false,if_true];refine bad (c:=[.p (.i .i64 yi),.p (.i .i64 yp),.p (.i .i64 yq),.p (.b yf)]) ?_;clear had h3 hpu;refine nJ aD aL func14 rfl rfl λX0 hX=>?_;simp only[f14,go_sem]
    repeat' (first|exact⟨⟩|refine sp ?_|refine uS [0,1,2,3] (hws) ?_|refine uS [0,1,2,3] (hfr) ?_|refine uS [0,1,2,3] (hdp) ?_)
   .have hb3:(e3 != 0)=false:=by rw[bne,he3];rfl
    simp only[Bool.not_true,Bool.false_eq_true,if_false];obtain⟨k0,k1,k2⟩:=h3 he he2 he3;have hadd:=aA.wkA (args:=[.c (.ptr 0 0),.c (.p (.s s)),.agg [.p (.i .i64 0),.p (.i .i64 yi),.p (.i .i64 0),.p (.b false)],.c (.p .nil)]) (args':=[.c (.ptr 0 0),.c (.p (.s s)),.agg [.p (.i .i64 0),.p (.i .i64 yi),.p (.i .i64 0),.p (.b false)],.c (.p (.sl 7 (gD [])))]) ⟨rfl,zGM,⟨wkP.rfl,wkP.rfl,wkP.rfl,wkP.rfl,True.intro⟩,zGL,True.intro⟩ (had k0 k1 k2);clear had h3 k0 k1 k2;have hgl:(oC r.L yi).length=r.L.length:=by simp[oC]
    unfold zBM aS at hpu;unfold aS at hadd;simp only[hgl] at hpu hadd;generalize zCd ⟨bL r.N sn yi,oC r.L yi,r.E,r.x⟩ s yi 0 []=c at hadd ⊢;generalize bL r.N sn yi=M at hpu hadd;refine aA.perm [0,1,2,3,6,7,8] (d1:=.c (.p (.i .i64 0))) (h1:=[.box [.own 6 0 c.N.length,.own 7 0 c.L.length,.mp 8,.p (.i .i64 c.x)],.dead,.dead,.dead,.box [.p (.i .i64 yi),.p (.i .i64 yp),.p (.i .i64 yq),.p (.b yf)],.dead,.arr 2 (aV c.N) false,.arr 4 (cM c.L) false,.mp (jI c.E)]) ?_ rfl rfl (by unfold dI;exact hpK);have hLz:=zEd yi r.L;refine nJ aD aL func14 rfl rfl λX0 hX=>?_;simp only[f14,go_sem]
    repeat' (first|exact⟨⟩|refine sp ?_|refine uS [0,1,2,3] (hws) ?_|refine uS [0,1,2,3] (hfr) ?_|refine uS [0,1,2,3] (hdp) ?_)
    refine dE aD aL (α:=Nat) (λk=>⟨82,[(0,.c (.ptr 0 0)),(1,.c (.p (.s s))),(2,.c (.p (.s sn))),(7,.c (.ptr 4 0)),(38,.c (.p (.i .i64 r.L.length))),(39,.c (.p (.i .i64 k)))],[.box [.own 1 0 r.N.length,.own 2 0 r.L.length,.mp 3,.p (.i .i64 r.x)],.arr 2 (aV r.N) false,.arr 4 (cM (zAK yi r.L k)) false,.mp (jI r.E),.box [.p (.i .i64 yi),.p (.i .i64 yp),.p (.i .i64 yq),.p (.b yf)]]⟩)
     (λk=>k<=r.L.length) (λk=>r.L.length-k) 0 (Nat.zero_le _) (cJ (by rw[hLz];exact aF (by rw[hX];rfl) rfl rfl wkK)) ?_
    intro k hk;have hkl:=zIs yi r.L k;by_cases hlt:k<r.L.length
    .have hx:r.L[k]?=some r.L[k]:=List.getElem?_eq_getElem hlt;have hg:=lZ (zLF (id:=yi) hx);have hst:=zIt (id:=yi) hx;have h1:decide ((k:Int)<(r.L.length:Int))=true:=decide_eq_true (by omega);have h2:(k:Int)<(r.L.length:Int):=by omega
     have h4:(0:Int)<=k:=by omega
     have w1:IntKind.i64.wrap ((k:Int)+1)=k+1:=wrap_i64 (by omega) (by omega);generalize r.L[k]=x at hx hg hst;obtain⟨xi,xp,xs,xf⟩:=x;simp only[zX] at hg hst;clear hx hpu hadd hws hfr hdp hLz;have b1:k<(zAK yi r.L k).length:=by omega
     cases xf
     .cases hq:(xi==yi)
      all_goals rw[hq] at hst
      all_goals simp only[Bool.or_false,Bool.false_or] at hst
      all_goals have hst:=PLift.up hst
      all_goals clear b1
      all_goals repeat' (first|exact⟨⟩|refine sp ?_|((refine aG (id:=13) aD aL [28] [0,1,2,3,4,5,6,7,8,9,10,11,12,13,14,15,16,17,18,19,20,21,22,23,24,25,26,27,28] (by decide +kernel) ?_);(repeat' (first|(refine aO ?_)|((refine cR ?_ ?_ rfl rfl rfl ?_ ?_);(rotate_left 2);(focus ((repeat' (first|exact⟨⟩|refine sp ?_));((refine And.intro ?_ ?_<;>exact rfl))));(simp only[bE]))|((refine cQ ?_ rfl rfl rfl ?_ ?_);(rotate_left 1);(focus ((repeat' (first|exact bB|refine aR ?_ ?_));(all_goals ((repeat' (first|exact⟨⟩|refine sp ?_));(try (exact rfl))))));(simp only[aC]))))))
      all_goals exact kT (k+1) (by omega) (by omega) (by rw[<- hst.down];exact cJ (aF rfl rfl rfl wkK))
     .simp only[Bool.true_or] at hst;have hst:=PLift.up hst;clear b1
      repeat' (first|exact⟨⟩|refine sp ?_|((refine aG (id:=13) aD aL [28] [0,1,2,3,4,5,6,7,8,9,10,11,12,13,14,15,16,17,18,19,20,21,22,23,24,25,26,27,28] (by decide +kernel) ?_);(repeat' (first|(refine aO ?_)|((refine cR ?_ ?_ rfl rfl rfl ?_ ?_);(rotate_left 2);(focus ((repeat' (first|exact⟨⟩|refine sp ?_));((refine And.intro ?_ ?_<;>exact rfl))));(simp only[bE]))|((refine cQ ?_ rfl rfl rfl ?_ ?_);(rotate_left 1);(focus ((repeat' (first|exact bB|refine aR ?_ ?_));(all_goals ((repeat' (first|exact⟨⟩|refine sp ?_));(try (exact rfl))))));(simp only[aC]))))))
      exact kT (k+1) (by omega) (by omega) (by rw[<- hst.down];exact cJ (aF rfl rfl rfl wkK))
    .have hke:k=r.L.length:=by omega
     subst hke;rw[zIr];have h1:decide ((r.L.length:Int)<(r.L.length:Int))=false:=decide_eq_false (by omega);clear hws hfr hdp hkl hLz;generalize oC r.L yi=G at hpu hadd
     repeat' (first|exact⟨⟩|refine sp ?_|refine uS [0,1,2,3] (hpu) ?_|refine uS [0,5,2,3] (hadd) ?_)
section
section
variable {r r':Rm}{d:Dr}{e:Int}
theorem YH{s sn:List UInt8}(h:Sim r d)(hs:sn.length<=1000000000)(he:gK r s sn=(r',e)):aA prog 14 [.c (.ptr 0 0),.c (.p (.s s)),.c (.p (.s sn))] (aS r) λd h=>d=.c (.p (.i .i64 e))/\h=dI r':=by
 have:=QF (s:=s) h.okR hs λa b c=>zAJ h a b c;rw[he] at this;exact this
theorem zNO{sn s:List UInt8}(h:Sim r d)(hs:s.length<=1000000000)(he:vL r sn s=(r',e)):aA prog 89 [.c (.ptr 0 0),.c (.p (.s sn)),.c (.p (.s s))] (aS r) λd h=>d=.c (.p (.i .i64 e))/\h=dI r':=by
 have:=zBL (sn:=sn) h.okR hs λa b c=>zIp h a b c;rw[he] at this;exact this
theorem zKW{s:List UInt8}{l:List Ch}(h:Sim r d)(hl:l.length<=100000)(hp:∀x∈l,x.p.length<=1000000000/\x.o.t<18446744073709551616/\x.n.t<18446744073709551616)(hd:∀x∈l,x.n.d.length<=140737488355328)(he:fY r s l=(r',e)):
  aA prog 30 [.c (.ptr 0 0),.c (.p (.s s)),.c (.p (.sl 10 (mM l)))] (aS r) λd h=>d=.c (.p (.i .i64 e))/\h=aS r':=by
 have:=WT (s:=s) h.okR hl hp hd λ_=>zCk h s λx hx=>(hp x hx).2.2;rw[he] at this;exact this
theorem zQa{s:List UInt8}{ck:Int}{cp cq:List UInt8}{cm:Int}{ct:Nat}{ca cn:Int}{cd:List UInt8}{a:An}(h:Sim r d)(hct:ct<18446744073709551616)(hcp:cp.length<=9223372036854775807)
  (hcd:cd.length<=140737488355328)(hcq:cq.length<=9223372036854775807)(hca:-9223372036854775808<=ca/\ca<=9223372036854775807)(he:KU r s ⟨ck,cp,cq,cm,ct,ca,cn,cd⟩=(r',a)):
  aA prog 10 [.c (.ptr 0 0),.c (.p (.s s)),.agg (clc ck cp cq cm ct ca cn cd)] (aS r) λd h=>d=.agg (anv a)/\h=aS r':=by
 have:=zJo (s:=s) (ck:=ck) (cm:=cm) (cn:=cn) h.okR hct hcp hcd hcq hca λ_=>zND h s (c:=⟨ck,cp,cq,cm,ct,ca,cn,cd⟩) hct;rw[he] at this;exact this
theorem zKH{s:List UInt8}{t:List It}(h:Sim r d)(he:cO r s=(t,e)):aA prog 12 [.c (.ptr 0 0),.c (.p (.s s))] (aS r) λd h=>d=.tup [.c (.p (.sl 5 (aQ t))),.c (.p (.i .i64 e))]/\h=aS r:=by
 have:=vX (s:=s) h.okR;rw[he] at this;exact this
theorem zCW{a b:List UInt8}{l:List Ch}(h:Sim r d)(he:hZ r a b=(l,e)):aA prog 90 [.c (.ptr 0 0),.c (.p (.s a)),.c (.p (.s b))] (aS r) λd h=>d=.tup [.c (.p (.sl 10 (mM l))),.c (.p (.i .i64 e))]/\h=aS r:=by
 have:=zBI (a:=a) (b:=b) h.okR λ_ _=>⟨qR h a,qR h b⟩;rw[he] at this;exact this
theorem zL2{o t s:List UInt8}{F:List Cf}(h:Sim r d)(hs:s.length<=1000000000)(he:gM r o t s=(r',F,e)):aA prog 91 [.c (.ptr 0 0),.c (.p (.s o)),.c (.p (.s t)),.c (.p (.s s))] (aS r) λd h=>d=.tup [.c (.p (.sl 2 (fO F))),.c (.p (.i .i64 e))]/\h=dI r':=by
 have:=WU (o:=o) (t:=t) h.okR h.okG hs h.okT (λa b c w hw q hq=>zEV h a b c hw hq) λa b c=>EW h a b c;rw[he] at this;exact this
theorem zJj{s o:List UInt8}{F:List Cf}(h:Sim r d)(he:eP r s o=(r',F,e)):aA prog 92 [.c (.ptr 0 0),.c (.p (.s s)),.c (.p (.s o))] (aS r) λd h=>d=.tup [.c (.p (.sl 2 (fO F))),.c (.p (.i .i64 e))]/\h=dI r':=by
 have:=QI (s:=s) (o:=o) h.okR h.okT (λa b c w hw hx=>zBs h a b c hw hx) λa b c=>EW h a b c;rw[he] at this;exact this
end
end
end Go.Proofs.YtlbfnbldeefgmaaGreatDoor
end
section
namespace Go.Dm
open Go Go.Lib Go.Proofs Go.RowKit Go.Shelf
section
structure DelL (P:Program) (ρ:Ren):Prop where
 mixed:P.follows .mixedOrders=true
 f45:Bears P (ρ.f 45) (SlBodyN.n45 ρ)
 t0:P.underlying (ρ.t 0)=some (TypeDesc.tuple #[])
 a0:∀w,(isAgg (ρ.t 0)).run P w=.ok false w
 z0:∀w,(Go.sizeOf (ρ.t 0)).run P w=.ok 1 w
 v0:∀w,(zeroValue (ρ.t 0)).run P w=.ok (Value.tuple #[]) w
 t3:P.underlying (ρ.t 3)=some (TypeDesc.int IntKind.i64)
 a3:∀w,(isAgg (ρ.t 3)).run P w=.ok false w
 z3:∀w,(Go.sizeOf (ρ.t 3)).run P w=.ok 1 w
 v3:∀w,(zeroValue (ρ.t 3)).run P w=.ok (Value.int IntKind.i64 0) w
 t4:P.underlying (ρ.t 4)=some (TypeDesc.bool)
 a4:∀w,(isAgg (ρ.t 4)).run P w=.ok false w
 z4:∀w,(Go.sizeOf (ρ.t 4)).run P w=.ok 1 w
 v4:∀w,(zeroValue (ρ.t 4)).run P w=.ok (Value.bool false) w
 t22:P.underlying (ρ.t 22)=some (TypeDesc.slice (ρ.t 23))
 a22:∀w,(isAgg (ρ.t 22)).run P w=.ok false w
 z22:∀w,(Go.sizeOf (ρ.t 22)).run P w=.ok 1 w
 v22:∀w,(zeroValue (ρ.t 22)).run P w=.ok (Value.slice none 0 0) w
variable {P:Program}{ρ:Ren}
theorem zBP(w:World)(t e ty:TypeId)(i0:TypeInfo)(z:Value)(ht:P.underlying t=some (.slice e))(hi0:P.info? e=some i0)(hz0:i0.zero=some z)(k b o n c:Nat)(hzk:z.cells.size=k)(hn:0<n)
  (h1:∀v∈(Builtin.zeroCells z.cells n).toList,v.oneCell'=true)
  (hc:∀j,j<n*k->(w.cell? ⟨b,o+j,none⟩).isSome=true)(hf:∀j,j<n*k->w.frozen? ⟨b,o+j,none⟩=false):
  (Builtin.clear_ #[t] ty #[.slice (some ⟨b,o,none⟩) n c]).run P w=.ok (.tuple #[]) (w.setCells b o (Builtin.zeroCells z.cells n).toList):=by
 have hl:(Builtin.zeroCells z.cells n).toList.length=n*k:=by rw[Array.length_toList,size_zeroCells,hzk]
 have hst:=run_storeCells_cells (P:=P) b o (Builtin.zeroCells z.cells n).toList 0 w (by rw[hl];simpa using hc) (by rw[hl];simpa using hf) h1;simp only[Nat.add_zero] at hst;obtain⟨m,rfl⟩:∃m,n=m+1:=⟨n-1,by omega⟩
 simp[Builtin.clear_,run_underlying ht,zeroValue,typeInfo,hi0,hz0,hst]
set_option maxHeartbeats 4000000 in
theorem zLa(L:DelL P ρ)(i0:TypeInfo)(hi0:P.info? (ρ.t 23)=some i0)(z:Value)(hz0:i0.zero=some z)(k:Nat)(hk:i0.size=k)(hk0:0<k)(hzk:z.cells.size=k)(b off n c i j:Nat)(cs:List Value)(w:World)(hij:i<j)(hj:j<=n)(hnc:n<=c)(hc63:c<=9223372036854775807)
  (hcl:cs.length=n*k)(hcs:∀t v,cs[t]?=some v->w.cell? ⟨b,off+t,none⟩=some v)(hfz:∀t,t<n*k->w.frozen? ⟨b,off+t,none⟩=false)(h1c:∀v∈cs,v.oneCell'=true)(h1z:∀m,∀v∈(Builtin.zeroCells z.cells m).toList,v.oneCell'=true):
  Calls P (ρ.f 45) #[.slice (some ⟨b,off,none⟩) n c,.int .i64 i,.int .i64 j] w λe w' =>
   e=.returned (.slice (some ⟨b,off,none⟩) (i+(n-j)) c)/\w'=(w.drew.setCells b (off+i*k) (cs.drop (j*k))).setCells b (off+(i+(n-j))*k) (Builtin.zeroCells z.cells (n-(i+(n-j)))).toList:=by
 have mixed:=L.mixed;have t0:=L.t0;have a0:=L.a0;have z0:=L.z0;have v0:=L.v0;have t3:=L.t3;have a3:=L.a3;have z3:=L.z3;have v3:=L.v3;have t4:=L.t4;have a4:=L.a4;have z4:=L.z4;have v4:=L.v4;have t22:=L.t22;have a22:=L.a22;have z22:=L.z22;have v22:=L.v22;have z23:∀w,(Go.sizeOf (ρ.t 23)).run P w=.ok k w:=λw=>by simp[Go.sizeOf,typeInfo,hi0,hk]
 have hsome:∀t,t<n*k->(w.cell? ⟨b,off+t,none⟩).isSome=true:=λt ht=>by rw[hcs t _ (List.getElem?_eq_getElem (by omega))];rfl
 obtain⟨news,hnews⟩:∃news,news=cs.drop (j*k):=⟨_,rfl⟩;have hlen:news.length=(n-j)*k:=by rw[hnews,List.length_drop,hcl,Nat.sub_mul]
 have m1:i*k+k<=j*k:=by have:=Nat.mul_le_mul_right k (show i+1<=j by omega);rw[Nat.add_mul,Nat.one_mul] at this;exact this
 have m2:j*k<=n*k:=Nat.mul_le_mul_right _ hj;have m3:(n-j)*k=n*k-j*k:=Nat.sub_mul _ _ _;have m4:(i+(n-j))*k=i*k+(n-j)*k:=Nat.add_mul _ _ _;have m5:(n-(i+(n-j)))*k=n*k-(i+(n-j))*k:=Nat.sub_mul _ _ _;obtain⟨A,hA,hsrc⟩:∃A:Addr,(if c=j then some (⟨b,off,none⟩:Addr) else some ⟨b,off+j*k,none⟩)=some A/\Hid (∀t u,news[t]?=some u->w.drew.cell? (A.add t)=some u):=by
  by_cases h:c=j
  .refine⟨⟨b,off,none⟩,by simp[h],λt u hu=>?_⟩
   have h0:news.length=0:=by rw[hlen,show n-j=0 by omega,Nat.zero_mul]
   rw[List.length_eq_zero_iff.1 h0] at hu;simp at hu
  .refine⟨⟨b,off+j*k,none⟩,by simp[h],λt u hu=>?_⟩
   rw[Addr.add_lit,Nat.add_assoc];rw[hnews,List.getElem?_drop] at hu;exact hcs _ _ hu
 have s1:Hid (news.length=(n-j)*k):=hlen;have s2:Hid (∀u∈news,u.oneCell'=true):=λu hu=>h1c u (List.mem_of_mem_drop (hnews▸hu));have s3:Hid (∀t,t<news.length->(w.drew.cell? ⟨b,off+i*k+t,none⟩).isSome=true/\w.drew.frozen? ⟨b,off+i*k+t,none⟩=false):=λt ht=>by
  rw[hlen] at ht;rw[Nat.add_assoc];exact⟨hsome _ (by omega),hfz _ (by omega)⟩
 obtain ⟨W1,hW1⟩:∃W1,W1=w.drew.setCells b (off+i*k) news:=⟨_,rfl⟩;have hW1c:∀t,t<n*k->(W1.cell? ⟨b,off+t,none⟩).isSome=true:=λt ht=>by
  rw[hW1];exact isSome_setCells b _ _ _ (λs hs=>by rw[hlen] at hs;rw[Nat.add_assoc];exact hsome _ (by omega)) _ (hsome t ht)
 have hcl2:∀ty,(Builtin.clear_ #[ρ.t 22] ty #[.slice (some ⟨b,off+(i+(n-j))*k,none⟩) (n-(i+(n-j))) (c-(i+(n-j)))]).run P W1=.ok (.tuple #[]) (W1.setCells b (off+(i+(n-j))*k) (Builtin.zeroCells z.cells (n-(i+(n-j)))).toList):=λty =>
  zBP W1 _ _ ty i0 z t22 hi0 hz0 k b (off+(i+(n-j))*k) _ _ hzk (by omega) (h1z _) (λt ht=>by rw[Nat.add_assoc];exact hW1c _ (by omega)) (λt ht=>by rw[hW1,World.frozen?_setCells,Nat.add_assoc];exact hfz _ (by omega))
 have hW:Hid (W1=w.drew.setCells b (off+i*k) news):=hW1;have hic:i<=c:=by omega
 have hjc:j<=c:=by omega
 rw[<- hnews];obtain⟨ZC,hZC⟩:∃ZC,ZC=(Builtin.zeroCells z.cells (n-(i+(n-j)))).toList:=⟨_,rfl⟩;rw[<- hZC] at hcl2 ⊢;clear hZC h1z hz0 hzk;clear hW1 hW1c hnews hlen hsome hcs hfz m1 m2 m3 m4 m5;obtain⟨_,_,FG⟩:=L.f45
 go_enter FG,SlBodyN.n45_ntmps ρ
 go_wp2_with fail
 go_region_law_o (refine step_append_room rfl (.tmp 22) (.tmp 25) (ρ.t 22) rfl (ρ.t 23) i0 k t22 hi0 hk b off i c (by simp[Act.eval,Act.put]) A (n-j) (c-j) news (by simp[Act.eval,Act.put]) s1.out hsrc.out s2.out (by omega) s3.out ?_;rw[<- hW.out])
 go_wp2
 go_ret
 exact⟨rfl,by rw[hW.out]⟩
theorem HG{P:Program}{T:Tab}(hT:bF P T){ρ:Ren}(L:DelL P ρ)(hen:∀(vals:List Value) (w:World),(callFunc (ρ.f 45) vals.toArray).run P w=.ok (.enter (ρ.f 45) vals.toArray) w)
  {k:Nat}(hk:(T (ρ.t 23)).size=k)(hk1:1<k){h:aB}{id n i:Nat}{es:List (List PV)}(hid:h[id]?=some (.arr k es false))(hn:es.length=n)(hin:i<n):
  aA P (ρ.f 45) [.c (.own id 0 n),.c (.p (.i .i64 i)),.c (.p (.i .i64 (i+1)))] h λd h'=>d=.c (.own h.length 0 (n-1))/\h'=h.set id .dead++[.arr k (es.take i++es.drop (i+1)) false]:=by
 intro X vals hh hi gd hr;subst hh;obtain⟨v1,rfl,hv1⟩:∃v1,vals=[v1,.int .i64 i,.int .i64 (i+1)]/\bA X (.c (.own id 0 n)) v1:=by
  match vals,hr with
  | [v1,v2,v3],hr =>
   obtain⟨h1,h2,h3,_⟩:=hr;have h2:v2=.int .i64 i:=h2;have h3:v3=.int .i64 (i+1):=h3;exact⟨v1,by rw[h2,h3],h1⟩
  | [],hr=>exact hr.elim
  | [_],hr=>exact hr.2.elim
  | [_,_],hr=>exact hr.2.2.elim
  | _::_::_::_::_,hr=>exact hr.2.2.2.elim
 refine .inl ⟨hen _ _,?_⟩;have hs0:(T (ρ.t 23)).size≠0:=by omega
 obtain ⟨_,i0,z,t1,t2,t3,t4,t5,t6,t7,t8⟩:=bS hT (bD hT hs0);have hz:z.cells.size=k:=by
  have:=congrArg List.length t5;simp only[List.length_map] at this;rw[<- hk,t6,this];simp
 have hzr:bI X.w X.S (T (ρ.t 23)).zero z.cells.toList:=iL t5;have h1z:∀m,∀v∈(Builtin.zeroCells z.cells m).toList,v.oneCell'=true:=λm v hv=>by
  rw[mE] at hv;obtain⟨l,hl,hvl⟩:=List.mem_flatten.1 hv;rw[(List.mem_replicate.1 hl).2] at hvl;exact hzr.oneCell v hvl
 have hlt:=aH hid;cases hg:X.G id with
 | none =>
  rcases hi.blk id _ hid with hq|⟨g',_,_,_,hq,_⟩
  .rw[hq.2] at hn;simp at hn;omega
  .rw[hg] at hq;cases hq
 | some g =>
  obtain⟨cap,arr,el,fz,rfl,hbl,hnc,hcm,hsz,hfr,hL⟩:=ZH hi hid hn hg (by omega) hv1;obtain⟨ca,a1,a2,a3⟩:=(hL.take i).vals;obtain⟨cx,x1,x2,x3⟩:=((hL.drop i).take 1).vals;obtain⟨cb,b1,b2,b3⟩:=(hL.drop (i+1)).vals;have l1:(es.take i).length=i:=by rw[List.length_take];omega
  have l2:((es.drop i).take 1).length=1:=by rw[List.length_take,List.length_drop];omega
  have l3:(es.drop (i+1)).length=n-(i+1):=by rw[List.length_drop,hn]
  rw[l1] at a2;rw[l2,Nat.one_mul] at x2;rw[l3] at b2;have m1:(i+1)*k=i*k+k:=by rw[Nat.add_mul,Nat.one_mul]
  have m2:(n-(i+1))*k+(i+1)*k=n*k:=by rw[<- Nat.add_mul];congr 1;omega
  have m3:n*k<=cap*k:=Nat.mul_le_mul_right _ hnc;have hcs:∀(t:Nat) (v:Value),(ca++cx++cb)[t]?=some v->X.w.cell? ⟨g.1,g.2+t,none⟩=some v:=λt v ht=>by
   rw[List.append_assoc] at ht;rcases Nat.lt_or_ge t ca.length with h|h
   .rw[List.getElem?_append_left h] at ht;exact a3 t v ht
   .rw[List.getElem?_append_right h] at ht;rcases Nat.lt_or_ge (t-ca.length) cx.length with h2|h2
    .rw[List.getElem?_append_left h2] at ht;have:=x3 _ v ht;rw[<- this];congr 2;omega
    .rw[List.getElem?_append_right h2] at ht;have:=b3 _ v ht;rw[<- this];congr 2;omega
  have hfz:fz.1=fz.2:=by rcases hfr.2 with h|h;omega;exact h
  have hcell:∀t,t<n*k->(X.w.cell? ⟨g.1,g.2+t,none⟩).isSome=true:=λt ht=>by
   simp only[World.cell?,hbl,Option.isSome_none,Bool.false_eq_true,if_false];rw[Array.getElem?_eq_getElem (by omega)];rfl
  have hdrop:(ca++cx++cb).drop ((i+1)*k)=cb:=List.drop_left' (by rw[List.length_append,a2,x2,m1]);have e1:i+(n-(i+1))=n-1:=by omega
  have e2:n-(n-1)=1:=by omega
  have hz1:(Builtin.zeroCells z.cells 1).toList=z.cells.toList:=by rw[mE];simp
  refine (zLa L i0 t1 z t4 k (by rw[t2,hk]) (by omega) hz g.1 g.2 n cap i (i+1) (ca++cx++cb) X.w (by omega) (by omega) hnc (by unfold maxLen at hcm;omega) (by rw[List.length_append,List.length_append,a2,x2,b2];omega) hcs
   (fun t _=>by simp only[World.frozen?,hbl];simp;omega) (λv hv=>by
    rcases List.mem_append.1 hv with hv|hv
    .rcases List.mem_append.1 hv with hv|hv
     .exact a1.oneCell v hv
     .exact x1.oneCell v hv
    .exact b1.oneCell v hv) h1z).mono ?_
  rintro e w' ⟨rfl,hw⟩;rw[hdrop,e1,e2,hz1] at hw;have hzl:z.cells.toList.length=k:=by simpa using hz
  have m4:(n-1)*k=i*k+cb.length:=by rw[b2,<- Nat.add_mul,e1]
  have m5:(n-1)*k+k=n*k:=by rw[<- Nat.succ_mul];congr 1;omega
  obtain⟨⟨arr1,c1,c2⟩,c3,c4,c5,c6,c7,c8⟩:=eA cb (g.2+i*k) X.w.drew arr hbl;obtain⟨⟨arr2,d1,d2⟩,d3,d4,d5,d6,d7,d8⟩:=eA z.cells.toList (g.2+(n-1)*k) _ arr1 c1;rw[<- hw] at d1 d3 d4 d5 d6 d7 d8;have hto:Touched X.w w' g.1:=⟨d5.trans c5,d6.trans c6,⟨d7.trans c7,by rw[d8,c8];exact Nat.le_succ _⟩,d4.trans c4,λb hb=>(d3 b hb).trans (c3 b hb),.inl ⟨arr,el,fz,arr2,el,fz,hbl,d1,by rw[d2,c2]⟩⟩
  obtain⟨es2,hes2⟩:∃es2,es2=es.take i++(es.drop (i+1)++[(T (ρ.t 23)).zero]):=⟨_,rfl⟩;have hlen:es2.length=n:=by rw[hes2];simp only[List.length_append,l1,l3,List.length_cons,List.length_nil];omega
  have hsb:cG (.arr k es false) (.arr k es2 false):=⟨rfl,by omega⟩
  have hst:=Step.put hi hid rfl rfl hg hto hsb rfl;have hopen:=pL (w:=X.w.drew) (W:=w') (bl:=g.1) (off:=g.2) (cb:=z.cells.toList) a2 (rfl:cb.length=cb.length) (.inr (by rw[<- m4];exact hw)) a3 (λt ht=>hcell t (by omega));have hik:HInv (X.put w' id (.arr k es2 false)):=HInv.put hi hid rfl rfl hg hto hsb rfl (by
   refine .inr ⟨g,arr2,el,fz,hg,d1,by rw[hlen,d2,c2];omega,by rw[d2,c2];exact hfr,fC.of_vals (vs:=ca++cb++z.cells.toList) (λy hy=>?_) ?_ hopen⟩
   .have hek:∀y∈es,y.length=k:=λy hy=>by
     obtain⟨j,hj⟩:=List.mem_iff_getElem?.1 hy;exact(hL.at_ hj).1
    rw[hes2] at hy;rcases List.mem_append.1 hy with hy|hy
    .exact hek y (List.mem_of_mem_take hy)
    .rcases List.mem_append.1 hy with hy|hy
     .exact hek y (List.mem_of_mem_drop hy)
     .rw[List.mem_singleton.1 hy,<- t6];exact hk
   .have hr3:bI X.w X.S es2.flatten (ca++cb++z.cells.toList):=by
     rw[hes2,List.append_assoc,List.flatten_append,List.flatten_append];exact a1.append (b1.append (by simpa using hzr))
    exact hr3.kept hst.kept)
  have hid2:(X.put w' id (.arr k es2 false)).h[id]?=some (.arr k es2 false):=by
   simp only[Ctx.put];rw[List.getElem?_set];simp[hlt]
  obtain ⟨k3,k4⟩:=KC (off:=0) (len:=n-1) hik hid2 hg (by omega);have htk:(es2.drop 0).take (n-1)=es.take i++es.drop (i+1):=by
   rw[List.drop_zero,hes2,<- List.append_assoc,List.take_left'];rw[List.length_append,l1,l3];omega
  rw [htk] at k3 k4;have hheap:((X.put w' id (.arr k es2 false)).rebase id (g.1,g.2+0*k) k (es.take i++es.drop (i+1))).h=X.h.set id .dead++[.arr k (es.take i++es.drop (i+1)) false]:=by
   simp only[Ctx.rebase,Ctx.put,List.set_set]
  rw[e1];refine⟨_,rfl,_,_,rfl,k4,hst.trans hik k3,?_,rfl,hheap⟩;refine qZ (x:=.own X.h.length 0 (n-1)) ⟨by rw[hheap];simp,rfl,λk' es' ro' hh=>?_⟩
  rw[hheap] at hh;rw[show X.h.length=(X.h.set id .dead).length by simp,List.getElem?_concat_length] at hh
  simp only[Option.some.injEq,DB.arr.injEq] at hh;obtain⟨rfl,rfl,rfl⟩:=hh;refine⟨by rw[List.length_append,l1,l3];omega,?_⟩
  simp only[Ctx.rebase,Ctx.put,List.length_set,if_true];exact⟨cap,g.2,arr2,el,fz,d1,rfl,.inr (by simp),by omega,hcm,by rw[d2,c2];simpa using hsz⟩
end
end Go.Dm
end
