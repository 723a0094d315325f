/- Part 45 of the proof of roomDeep_card, set without needless blanks. No condition. -/
import Derived.Test.YtlbfnbldeefgmaaGreatDoorC43
set_option linter.all false
section
namespace Go.Proofs.YtlbfnbldeefgmaaGreatDoor
open Go Go.Dm Go.Proofs
set_option maxRecDepth 100000
set_option maxHeartbeats 8000000
def SC (id:Int) (l:List Ly) (k:Nat):List Ly:=(l.take k).map (xL id)++l.drop k
theorem zAq (id:Int) (l:List Ly):SC id l 0=l:=by simp [SC]
theorem zDQ (id:Int) (l:List Ly):SC id l l.length=lM l id:=by simp [SC,lM]
theorem zDR (id:Int) (l:List Ly) (k:Nat):(SC id l k).length=l.length:=by simp [SC];omega
theorem zGE {id:Int} {l:List Ly} {k:Nat} {x:Ly} (h:l[k]? = some x):(SC id l k)[k]? = some x:=by
 have hlt:=(List.getElem?_eq_some_iff.1 h).1;unfold SC;rw [List.getElem?_append_right (by simp;omega)];simp [Nat.min_eq_left (Nat.le_of_lt hlt),h]
theorem zDS {id:Int} {l:List Ly} {k:Nat} {x:Ly} (h:l[k]? = some x):(SC id l k).set k (xL id x)=SC id l (k+1):=by
 have hlt:=(List.getElem?_eq_some_iff.1 h).1;have hd:l.drop k=x::l.drop (k+1):=by
  rw [List.drop_eq_getElem_cons hlt,(List.getElem?_eq_some_iff.1 h).2]
 unfold SC;rw [hd,List.set_append_right _ _ (by simp;omega),List.take_add_one,h];simp [Nat.min_eq_left (Nat.le_of_lt hlt)]
theorem HR {r:Rm} {s sn:List UInt8} (hr:OkR r) (hs:sn.length≤1000000000)
  (h3:((wsP r s).2 == 0)=true→(pM r sn == 0)=true→(qX r (wsP r s).1.i == 0)=true→OkR ⟨bY r.N sn (wsP r s).1.i,lM r.L (wsP r s).1.i,r.E,r.x⟩ ∧
   OkR ⟨bY (bY r.N sn (wsP r s).1.i) s r.x,lM r.L (wsP r s).1.i++[⟨r.x,(wsP r s).1.i,0,false⟩],oJ r.E r.x [],r.x+1⟩∧OkG (lM r.L (wsP r s).1.i++[⟨r.x,(wsP r s).1.i,0,false⟩])):
  aA Tryz.prog 14 [.c (.ptr 0 0),.c (.p (.s s)),.c (.p (.s sn))] (cB r) fun d h=>d=.c (.p (.i .i64 (fD r s sn).2))∧h=xX (fD r s sn).1:=by
 have hws:=zEE (s:=s) hr;have hfr:=MU (s:=sn) hr hs;have hdp:=TY (a:=(wsP r s).1.i) hr;have hpu:=HT (r:=⟨r.N,lM r.L (wsP r s).1.i,r.E,r.x⟩) (s:=sn) (n:=(wsP r s).1.i) (by have:=hr.nl;simp only;omega) hr.srt;have had:=fun h0 h1 h2=>zBK (r:=⟨bY r.N sn (wsP r s).1.i,lM r.L (wsP r s).1.i,r.E,r.x⟩) (s:=s) (i0:=0) (p:=(wsP r s).1.i) (q:=0) (es:=[]) h0 h1 h2;have hll:=hr.ll;unfold fD;generalize wsP r s=y at *;obtain ⟨⟨yi,yp,yq,yf⟩,e⟩:=y;simp only [Ly.cv] at *;generalize pM r sn=e2 at *;generalize qX r yi=e3 at *;have bad:∀ {c:List CV} {e:Int},aA Tryz.prog 14 [.c (.ptr 0 0),.c (.p (.s s)),.c (.p (.s sn))] (cB r) (fun d h=>d=.c (.p (.i .i64 e))∧h=cB r++[.box c])→aA Tryz.prog 14 [.c (.ptr 0 0),.c (.p (.s s)),.c (.p (.s sn))] (cB r) (fun d h=>d=.c (.p (.i .i64 e))∧h=xX r):=fun {c e} hc =>
  aA.perm [0,5,6,7,1,2,3] hc rfl rfl (by unfold xX cB;exact (by simp only [fQ,rI,gU,fP,lX];(repeat' (first|exact rfl|exact True.intro|refine And.intro ?_ ?_))))
 cases he:(e == 0)
 ·have hb:(e != 0)=true:=by rw [bne,he];rfl
  simp only [Bool.not_false,if_true];refine bad (c:=[.p (.i .i64 yi),.p (.i .i64 yp),.p (.i .i64 yq),.p (.b yf)]) ?_;clear had h3 hfr hdp hpu;refine zCz aC aK Tryz.func14 rfl rfl fun X0 hX=>?_;simp only [Tryz.f14,go_sem]
  repeat' (first|simp only [*,go_sem,Nat.reduceLT,Nat.reduceLeDiff,Nat.reduceEqDiff,↓reduceIte,Nat.reduceAdd,]|((with_reducible refine aS [0,1,2,3] (hws) ?_ ?_ ?_ ?_);exact rfl;exact rfl;(focus ((simp only [go_sem];done)))))
 ·have hb:(e != 0)=false:=by rw [bne,he];rfl
  simp only [Bool.not_true,Bool.false_eq_true,if_false];cases he2:(e2 == 0)
  ·have hb2:(e2 != 0)=true:=by rw [bne,he2];rfl
   simp only [Bool.not_false,if_true];refine bad (c:=[.p (.i .i64 yi),.p (.i .i64 yp),.p (.i .i64 yq),.p (.b yf)]) ?_;clear had h3 hdp hpu;refine zCz aC aK Tryz.func14 rfl rfl fun X0 hX=>?_;simp only [Tryz.f14,go_sem]
   repeat' (first|simp only [*,go_sem,Nat.reduceLT,Nat.reduceLeDiff,Nat.reduceEqDiff,↓reduceIte,Nat.reduceAdd,]|((with_reducible refine aS [0,1,2,3] (hws) ?_ ?_ ?_ ?_);exact rfl;exact rfl;(focus ((simp only [go_sem];done))))|((with_reducible refine aS [0,1,2,3] (hfr) ?_ ?_ ?_ ?_);exact rfl;exact rfl;(focus ((simp only [go_sem];done)))))
  ·have hb2:(e2 != 0)=false:=by rw [bne,he2];rfl
   simp only [Bool.not_true,Bool.false_eq_true,if_false];cases he3:(e3 == 0)
   ·have hb3:(e3 != 0)=true:=by rw [bne,he3];rfl
    simp only [Bool.not_false,if_true];refine bad (c:=[.p (.i .i64 yi),.p (.i .i64 yp),.p (.i .i64 yq),.p (.b yf)]) ?_;clear had h3 hpu;refine zCz aC aK Tryz.func14 rfl rfl fun X0 hX=>?_;simp only [Tryz.f14,go_sem]
    repeat' (first|simp only [*,go_sem,Nat.reduceLT,Nat.reduceLeDiff,Nat.reduceEqDiff,↓reduceIte,Nat.reduceAdd,]|((with_reducible refine aS [0,1,2,3] (hws) ?_ ?_ ?_ ?_);exact rfl;exact rfl;(focus ((simp only [go_sem];done))))|((with_reducible refine aS [0,1,2,3] (hfr) ?_ ?_ ?_ ?_);exact rfl;exact rfl;(focus ((simp only [go_sem];done))))|((with_reducible refine aS [0,1,2,3] (hdp) ?_ ?_ ?_ ?_);exact rfl;exact rfl;(focus ((simp only [go_sem];done)))))
   ·have hb3:(e3 != 0)=false:=by rw [bne,he3];rfl
    simp only [Bool.not_true,Bool.false_eq_true,if_false];obtain ⟨k0,k1,k2⟩:=h3 he he2 he3;have hadd:=aA.wkA (args:=[.c (.ptr 0 0),.c (.p (.s s)),.agg [.p (.i .i64 0),.p (.i .i64 yi),.p (.i .i64 0),.p (.b false)],.c (.p .nil)]) (args':=[.c (.ptr 0 0),.c (.p (.s s)),.agg [.p (.i .i64 0),.p (.i .i64 yi),.p (.i .i64 0),.p (.b false)],.c (.p (.sl 7 (eZ [])))]) ⟨rfl,zHO,⟨wkP.rfl,wkP.rfl,wkP.rfl,wkP.rfl,True.intro⟩,zHN,True.intro⟩ (had k0 k1 k2);clear had h3 k0 k1 k2;have hgl:(lM r.L yi).length=r.L.length:=by simp [lM]
    unfold VA cB at hpu;unfold cB at hadd;simp only [hgl] at hpu hadd;generalize zH0 ⟨bY r.N sn yi,lM r.L yi,r.E,r.x⟩ s yi 0 []=c at hadd ⊢;generalize bY r.N sn yi=M at hpu hadd;refine aA.perm [0,1,2,3,6,7,8] (d1:=.c (.p (.i .i64 0))) (h1:=[.box [.own 6 0 c.N.length,.own 7 0 c.L.length,.mp 8,.p (.i .i64 c.x)],.dead,.dead,.dead,.box [.p (.i .i64 yi),.p (.i .i64 yp),.p (.i .i64 yq),.p (.b yf)],.dead,.arr 2 (bJ c.N) false,.arr 4 (cY c.L) false,.mp (nN c.E)]) ?_ rfl rfl (by unfold xX;exact (by simp only [fQ,rI,gU,fP,lX];(repeat' (first|exact rfl|exact True.intro|refine And.intro ?_ ?_))));have hLz:=zAq yi r.L;refine zCz aC aK Tryz.func14 rfl rfl fun X0 hX=>?_;simp only [Tryz.f14,go_sem]
    repeat' (first|simp only [*,go_sem,Nat.reduceLT,Nat.reduceLeDiff,Nat.reduceEqDiff,↓reduceIte,Nat.reduceAdd,]|((with_reducible refine aS [0,1,2,3] (hws) ?_ ?_ ?_ ?_);exact rfl;exact rfl;(focus ((simp only [go_sem];done))))|((with_reducible refine aS [0,1,2,3] (hfr) ?_ ?_ ?_ ?_);exact rfl;exact rfl;(focus ((simp only [go_sem];done))))|((with_reducible refine aS [0,1,2,3] (hdp) ?_ ?_ ?_ ?_);exact rfl;exact rfl;(focus ((simp only [go_sem];done)))))
    refine dS aC aK (α:=Nat) (fun k=>⟨82,[(0,.c (.ptr 0 0)),(1,.c (.p (.s s))),(2,.c (.p (.s sn))),(7,.c (.ptr 4 0)),(38,.c (.p (.i .i64 r.L.length))),(39,.c (.p (.i .i64 k)))],[.box [.own 1 0 r.N.length,.own 2 0 r.L.length,.mp 3,.p (.i .i64 r.x)],.arr 2 (bJ r.N) false,.arr 4 (cY (SC yi r.L k)) false,.mp (nN r.E),.box [.p (.i .i64 yi),.p (.i .i64 yp),.p (.i .i64 yq),.p (.b yf)]]⟩)
     (fun k=>k≤r.L.length) (fun k=>r.L.length-k) 0 (Nat.zero_le _) (cM (by rw [hLz];exact aJ (by rw [hX];rfl) rfl rfl (by simp only [aH,aN];(repeat' (first|exact rfl|exact True.intro|refine And.intro ?_ ?_))))) ?_
    intro k hk;have hkl:=zDR yi r.L k;by_cases hlt:k<r.L.length
    ·have hx:r.L[k]? = some r.L[k]:=List.getElem?_eq_getElem hlt;have hg:=kJ (zGE (id:=yi) hx);have hst:=zDS (id:=yi) hx;have h1:decide ((k:Int)<(r.L.length:Int))=true:=decide_eq_true (by omega);have h2:(k:Int)<(r.L.length:Int):=by omega
     have h4:(0:Int)≤k:=by omega
     have w1:IntKind.i64.wrap ((k:Int)+1)=k+1:=wrap_i64 (by omega) (by omega);generalize r.L[k]=x at hx hg hst;obtain ⟨xi,xp,xs,xf⟩:=x;simp only [xL] at hg hst;clear hx hpu hadd hws hfr hdp hLz;have b1:k<(SC yi r.L k).length:=by omega
     cases xf
     ·cases hq:(xi == yi)
      all_goals rw [hq] at hst
      all_goals simp only [Bool.or_false,Bool.false_or] at hst
      all_goals have hst:=PLift.up hst
      all_goals clear b1
      all_goals repeat' (first|simp only [*,go_sem,Nat.reduceLT,Nat.reduceEqDiff,↓reduceIte,Nat.reduceAdd,]|((refine aO (id:=13) aC aK [28] [0,1,2,3,4,5,6,7,8,9,10,11,12,13,14,15,16,17,18,19,20,21,22,23,24,25,26,27,28] (by decide +kernel) ?_);(repeat' (first|(refine bC ?_)|((refine dB ?_ ?_ rfl rfl rfl ?_ ?_);(rotate_left 2);(focus ((repeat' (simp only [*,go_sem,Nat.reduceLeDiff,Nat.reduceEqDiff,↓reduceIte,Nat.reduceAdd,]));((refine And.intro ?_ ?_ <;> exact rfl))));(simp only [bF]))|((refine dA ?_ rfl rfl rfl ?_ ?_);(rotate_left 1);(focus ((repeat' (first|exact bI|refine bA ?_ ?_));(all_goals ((repeat' (simp only [*,go_sem,Nat.reduceLT,Nat.reduceEqDiff,↓reduceIte,]));(try (exact rfl))))));(simp only [aF]))))))
      all_goals exact mM (k+1) (by omega) (by omega) (by rw [← hst.down];exact cM (aJ rfl rfl rfl (by simp only [aH,aN];(repeat' (first|exact rfl|exact True.intro|refine And.intro ?_ ?_)))))
     ·simp only [Bool.true_or] at hst;have hst:=PLift.up hst;clear b1
      repeat' (first|simp only [*,go_sem,Nat.reduceLT,Nat.reduceEqDiff,↓reduceIte,Nat.reduceAdd,]|((refine aO (id:=13) aC aK [28] [0,1,2,3,4,5,6,7,8,9,10,11,12,13,14,15,16,17,18,19,20,21,22,23,24,25,26,27,28] (by decide +kernel) ?_);(repeat' (first|(refine bC ?_)|((refine dB ?_ ?_ rfl rfl rfl ?_ ?_);(rotate_left 2);(focus ((repeat' (simp only [*,go_sem,Nat.reduceLeDiff,Nat.reduceEqDiff,↓reduceIte,Nat.reduceAdd,]));((refine And.intro ?_ ?_ <;> exact rfl))));(simp only [bF]))|((refine dA ?_ rfl rfl rfl ?_ ?_);(rotate_left 1);(focus ((repeat' (first|exact bI|refine bA ?_ ?_));(all_goals ((repeat' (simp only [*,go_sem,Nat.reduceLT,Nat.reduceEqDiff,↓reduceIte,]));(try (exact rfl))))));(simp only [aF]))))))
      exact mM (k+1) (by omega) (by omega) (by rw [← hst.down];exact cM (aJ rfl rfl rfl (by simp only [aH,aN];(repeat' (first|exact rfl|exact True.intro|refine And.intro ?_ ?_)))))
    ·have hke:k=r.L.length:=by omega
     subst hke;rw [zDQ];have h1:decide ((r.L.length:Int)<(r.L.length:Int))=false:=decide_eq_false (by omega);clear hws hfr hdp hkl hLz;generalize lM r.L yi=G at hpu hadd
     repeat' (first|simp only [*,go_sem,Nat.reduceLT,Nat.reduceLeDiff,Nat.reduceEqDiff,↓reduceIte,Nat.reduceAdd,Nat.reduceSub,]|((with_reducible refine aS [0,1,2,3] (hpu) ?_ ?_ ?_ ?_);exact rfl;exact rfl;(focus ((simp only [go_sem];done))))|((with_reducible refine aS [0,5,2,3] (hadd) ?_ ?_ ?_ ?_);exact rfl;exact rfl;(focus ((simp only [go_sem];done)))))
end Go.Proofs.YtlbfnbldeefgmaaGreatDoor
end
section
namespace Go.Dm
open Go
theorem SimW.okR {r:Rm} {d:Dr} (h:SimW r d) (hl:d.L.length≤900):OkR r where
 srt:=by rw [h.N];exact h.srt
 nl:=by rw [h.N];have:=h.ln;omega
 ll:=by rw [h.L];simpa [Dr.G] using hl
 ent:=fun x hx=>by
  rw [h.L] at hx;obtain ⟨y,hy,rfl⟩:=LU.1 hx;rw [h.e y hy];exact LR (h.toOkW.tree _) (h.t y hy)
 x:=by rw [h.x];have:=h.nx.2;omega
theorem Sim.okR {r:Rm} {d:Dr} (h:Sim r d):OkR r:=h.toSimW.okR (by have:=h.len;omega)
theorem Sim.okT {r:Rm} {d:Dr} (h:Sim r d) (id:Int):OkT (treeR r id):=by rw [h.toSimW.treeR];exact h.toOkW.tree id
theorem zEj {r:Rm} {d:Dr} (h:SimW r d) (hl:d.L.length≤800) {s:List UInt8} {p q:Int} {t:List It} (hs:bE s=true) (hp:AU d p) (hq:q=0∨(p≠q∧AU d q)) (hc:(bM d.G p).length≤11) (ht:OkT t)
  (hx:d.x<2147483647) (hn:(bY d.N s d.x).length≤20):OkR ⟨bY r.N s r.x,r.L++[⟨r.x,p,q,false⟩],oJ r.E r.x (fR (treeR r p) t),r.x+1⟩∧OkG (r.L++[⟨r.x,p,q,false⟩]):=by
 have hw:=JC h hs hp hq hc ht hx hn;rw [h.treeR];refine ⟨hw.okR ?_,?_⟩
 ·show (d.L++[_]).length≤900;rw [List.length_append];simp only [List.length_cons,List.length_nil];omega
 ·have h1:=hw.g;rw [← hw.L] at h1;exact h1
theorem zKx {r:Rm} {d:Dr} (h:Sim r d) {s:List UInt8} (h1:((wsP r s).2 == 0)=true):∃ n y,HA d.N s=some n∧y∈d.L∧wsP r s=(y.1,0)∧pP d y.1.i=some y∧y.1.f=false∧y.1.i=n.l:=by
 unfold wsP at h1 ⊢;cases hn:HA d.N s with
 | none =>
  obtain ⟨k1,_⟩:=nF h.toSimW hn;rw [k1] at h1;cases h1
 | some n =>
  obtain ⟨y,hy,g1,g2,g3,g4,g5⟩:=nG h.toSimW hn;rw [g1] at h1 ⊢;cases hf:y.1.f
  ·exact ⟨n,y,rfl,hy,by rw [show ((0:Int) == 0 && false)=false from rfl];rfl,g3,hf,g4⟩
  ·rw [hf] at h1;cases h1
theorem zGb {r:Rm} {d:Dr} (h:SimW r d) {on:Int} (h3:(qX r on == 0)=true):(bM d.G on).length≤11:=by
 rw [KR h] at h3;exact PT (by simpa using h3)
theorem SB {r:Rm} {d:Dr} (h:Sim r d) {s sn:List UInt8} (h1:((wsP r s).2 == 0)=true) (h2:(pM r sn == 0)=true) (h3:(qX r (wsP r s).1.i == 0)=true):
  OkR ⟨bY r.N sn (wsP r s).1.i,lM r.L (wsP r s).1.i,r.E,r.x⟩ ∧
   OkR ⟨bY (bY r.N sn (wsP r s).1.i) s r.x,lM r.L (wsP r s).1.i++[⟨r.x,(wsP r s).1.i,0,false⟩],oJ r.E r.x [],r.x+1⟩∧OkG (lM r.L (wsP r s).1.i++[⟨r.x,(wsP r s).1.i,0,false⟩]):=by
 obtain ⟨n,y,hn,hy,e,g3,hf,g4⟩:=zKx h h1;rw [e] at h3 ⊢;rw [PE h.toSimW] at h2;obtain ⟨f1,f2,f3,f4,f5⟩:=PF h2;have hwf:=wZ h.toSimW y.1.i;have hmem:∀ n,n∈bY d.N sn y.1.i↔n=⟨sn,y.1.i⟩∨(n∈d.N∧n.n≠sn):=fun n=>uA h.srt;have hwn:=AB hwf (N:=bY d.N sn y.1.i) (lN h.srt sn y.1.i) (fun m hm=>by
   rcases (hmem m).1 hm with rfl|⟨g1,_⟩
   ·exact ⟨f1,_,fO h.g.inc (id:=y.1.i) hy,rfl⟩
   ·exact hwf.nm m g1) (fun a ha b hb e hfz=>by
   have hfz2:∀ z∈d.L,z.1.i=a.l→z.1.i≠y.1.i∧z.1.f=false:=fun z hz hza=>by
    have:=hfz _ (fO h.g.inc (id:=y.1.i) hz) hza;simp only [xL,Bool.or_eq_false_iff] at this;exact ⟨by simpa using this.2,this.1⟩
   rcases (hmem a).1 ha with rfl|⟨g1,_⟩ <;> rcases (hmem b).1 hb with rfl|⟨g2,_⟩
   ·rfl
   ·exact absurd rfl (hfz2 y hy rfl).1
   ·exact absurd rfl (hfz2 y hy e.symm).1
   ·exact h.one a g1 b g2 e fun z hz hza=>(hfz2 z hz hza).2) (by have:=pC d.N sn y.1.i;omega)
 have hwn:SimW ⟨bY d.N sn y.1.i,lM r.L y.1.i,r.E,r.x⟩ ⟨vB y.1.i d.L,bY d.N sn y.1.i,d.x⟩:=hwn;have hlen:(vB y.1.i d.L).length=d.L.length:=by rw [nD h.g.inc,List.length_map]
 have hsn:bE s=true:=by
  obtain ⟨g1,g2⟩:=gY hn;rw [← g2];exact (h.nm n g1).1
 have hfa:AU ⟨vB y.1.i d.L,bY d.N sn y.1.i,d.x⟩ y.1.i:=⟨_,fO h.g.inc (id:=y.1.i) hy,rfl,by show (y.1.f || y.1.i == y.1.i)=true;simp⟩
 have hGeq:(⟨vB y.1.i d.L,bY d.N sn y.1.i,d.x⟩:Dr).G=lM d.G y.1.i:=zAr h.g.inc y.1.i;have hne:sn≠s:=fun e=>by
  subst e;have:=h.toOkW.name0 sn;rw [f2,hn] at this;cases this
 have hin:(⟨n.n,n.l⟩:Nm)∈bY d.N sn y.1.i:=by
  obtain ⟨g1,g2⟩:=gY hn;exact (hmem _).2 (.inr ⟨g1,by rw [g2];exact fun e=>hne e.symm⟩)
 have hlen2:(bY (bY d.N sn y.1.i) s d.x).length≤20:=by
  obtain ⟨g1,g2⟩:=gY hn;rw [← g2,uB (lN h.srt sn y.1.i) hin];have:=pC d.N sn y.1.i;rw [List.length_set];omega
 have e0:dJ ⟨vB y.1.i d.L,bY d.N sn y.1.i,d.x⟩ y.1.i=y.2:=(BP h.toOkW y.1.i y.1.i).trans (rW g3);have hl:=h.len;have:=zEj (s:=s) (p:=y.1.i) (q:=0) (t:=y.2) hwn (by show (vB y.1.i d.L).length≤800;omega) hsn hfa (.inl rfl) (by rw [hGeq,vC];exact zGb h.toSimW h3) (h.t y hy) f5 hlen2;rw [hwn.treeR,e0,GU (h.t y hy)] at this;rw [h.N];exact ⟨hwn.okR (by show (vB y.1.i d.L).length≤900;omega),this⟩
theorem zIk {r:Rm} {d:Dr} (h:Sim r d) (s:List UInt8) {c:Cl} (hc:c.t<18446744073709551616):OkT (treeR r (cU r s).1.i)∧OkT (treeR r (cU r s).1.p)∧OkT (doP (treeR r (cU r s).1.i) c).1 :=
 ⟨h.okT _,h.okT _,zIj (h.okT _) hc⟩
end Go.Dm
end
section
namespace Go.Proofs.YtlbfnbldeefgmaaGreatDoor
open Go Go.Dm Go.Proofs
set_option maxRecDepth 100000
set_option maxHeartbeats 8000000
section
variable {r r':Rm} {d:Dr} {e:Int}
theorem PD {s sn:List UInt8} (h:Sim r d) (hs:sn.length≤1000000000) (he:fD r s sn=(r',e)):aA Tryz.prog 14 [.c (.ptr 0 0),.c (.p (.s s)),.c (.p (.s sn))] (cB r) fun d h=>d=.c (.p (.i .i64 e))∧h=xX r':=by
 have:=HR (s:=s) h.okR hs fun a b c=>SB h a b c;rw [he] at this;exact this
theorem zKB {s:List UInt8} {ck:Int} {cp cq:List UInt8} {cm:Int} {ct:Nat} {ca cn:Int} {cd:List UInt8} {a:An} (h:Sim r d) (hct:ct<18446744073709551616) (hcp:cp.length≤9223372036854775807)
  (hcd:cd.length≤140737488355328) (hcq:cq.length≤9223372036854775807) (hca:-9223372036854775808≤ca∧ca≤9223372036854775807) (he:RL r s ⟨ck,cp,cq,cm,ct,ca,cn,cd⟩=(r',a)):
  aA Tryz.prog 10 [.c (.ptr 0 0),.c (.p (.s s)),.agg (clc ck cp cq cm ct ca cn cd)] (cB r) fun d h=>d=.agg (anv a)∧h=cB r':=by
 have:=zED (s:=s) (ck:=ck) (cm:=cm) (cn:=cn) h.okR hct hcp hcd hcq hca fun _=>zIk h s (c:=⟨ck,cp,cq,cm,ct,ca,cn,cd⟩) hct;rw [he] at this;exact this
theorem zFO {s:List UInt8} {t:List It} (h:Sim r d) (he:oO r s=(t,e)):aA Tryz.prog 12 [.c (.ptr 0 0),.c (.p (.s s))] (cB r) fun d h=>d=.tup [.c (.p (.sl 5 (aZ t))),.c (.p (.i .i64 e))]∧h=cB r:=by
 have:=VD (s:=s) h.okR;rw [he] at this;exact this
end
end Go.Proofs.YtlbfnbldeefgmaaGreatDoor
end
section
namespace Go.Dm
open Go
section steps
variable {r:Rm} {d d':Dr}
theorem uY {s sn:List UInt8} {e:Int} (h:Sim r d) (he:gM d s sn=(d',e)):∃ r',fD r s sn=(r',e)∧Sim r' d':=by
 obtain ⟨h1,h2⟩:=yP h s sn;rw [he] at h1 h2;exact ⟨_,Prod.ext rfl h1,h2⟩
theorem YI {s:List UInt8} {c:Cl} {a:An} (h:Sim r d) (hc:c.t<18446744073709551616) (he:doD d s c=(d',a)):∃ r',RL r s c=(r',a)∧Sim r' d':=by
 obtain ⟨h1,h2⟩:=zFs h s hc;rw [he] at h1 h2;exact ⟨_,Prod.ext rfl h1,h2⟩
end steps
def v1S:List UInt8:=[118,49]
def mkS (p:List UInt8):Cl:=⟨1,p,[],493,0,0,0,[]⟩
theorem LM:∃ (r1 r2 r3:Rm) (d1 d2 d3:Dr) (a b:An),fD zHW dP v1S=(r1,0)∧Sim r1 d1∧RL r1 v1S (mkS [97])=(r2,a)∧a.e=14∧Sim r2 d2∧RL r2 dP (mkS [97])=(r3,b)∧b.e=0∧Sim r3 d3∧r3.N.length=2∧r3.x=4:=by
 obtain ⟨r1,e1,s1⟩:=uY (d':=(gM LV dP v1S).1) (e:=0) (s:=dP) (sn:=v1S) LW (Prod.ext rfl (by decide +kernel));obtain ⟨r2,e2,s2⟩:=YI (s:=v1S) (c:=mkS [97]) s1 (by decide) (Prod.ext rfl rfl:_=((doD (gM LV dP v1S).1 v1S (mkS [97])).1,(doD (gM LV dP v1S).1 v1S (mkS [97])).2));obtain ⟨r3,e3,s3⟩:=YI (s:=dP) (c:=mkS [97]) s2 (by decide) (Prod.ext rfl rfl:_=((doD (doD (gM LV dP v1S).1 v1S (mkS [97])).1 dP (mkS [97])).1,(doD (doD (gM LV dP v1S).1 v1S (mkS [97])).1 dP (mkS [97])).2));exact ⟨r1,r2,r3,_,_,_,_,_,e1,s1,e2,by decide +kernel,s2,e3,by decide +kernel,s3,by rw [s3.N];decide +kernel,by rw [s3.x];decide +kernel⟩
end Go.Dm
end
section
namespace Go.Proofs.YtlbfnbldeefgmaaGreatDoor
open Go Go.Dm Go.Proofs
set_option maxRecDepth 100000
set_option maxHeartbeats 8000000
theorem HS:aA Tryz.prog 8 [] [] fun d h=>d=.c (.ptr 0 0)∧h=cB zHW:=by
 refine aA.perm [3,0,1,2] (d1:=.c (.ptr 3 0)) (h1:=[.arr 2 (bJ zHW.N) false,.arr 4 (cY zHW.L) false,.mp [],.box [.own 0 0 1,.own 1 0 2,.mp 2,.p (.i .i64 3)]]) ?_ rfl rfl (by unfold cB;exact (by simp only [fQ,gU,fP,lX];(repeat' (first|exact rfl|exact True.intro|refine And.intro ?_ ?_))));refine zCz aC aK Tryz.func8 rfl rfl fun X0 hX=>?_;simp only [Tryz.f8,go_sem]
 repeat' (first|simp only [*,go_sem,Nat.reduceLT,Nat.reduceLeDiff,Nat.reduceEqDiff,↓reduceIte,Nat.reduceAdd,Nat.reduceMul,]|((with_reducible refine And.intro ?_ ?_);decide))
 all_goals rfl
theorem zGZ {p:List UInt8}:aA Tryz.prog 41 [.c (.p (.s p))] [] fun r h=>r=.agg (clc 1 p [] 493 0 0 0 [])∧h=[]:=by
 refine bN ?_;refine ent aC aK Tryz.func41 rfl rfl fun X0 hX=>?_;simp only [Tryz.f41,go_sem]
 repeat' (simp only [*,go_sem,Nat.reduceLT,Nat.reduceLeDiff,Nat.reduceEqDiff,↓reduceIte,Nat.reduceAdd,])
 all_goals (repeat' (exact .inr ⟨_,rfl⟩))
theorem zKD {r r':Rm} {d:Dr} {s p:List UInt8} {a:An} (h:Sim r d) (hp:p.length≤1000) (he:RL r s (mkS p)=(r',a)):
  aA Tryz.prog 10 [.c (.ptr 0 0),.c (.p (.s s)),.agg (clc 1 p [] 493 0 0 0 [])] (cB r) fun d h=>d=.agg (anv a)∧h=cB r' :=
 zKB h (by decide) (by omega) (by decide) (by decide) (by decide) he
theorem zAM:aA Tryz.prog 9 [] [] fun r h=>r=.c (.p (.b true))∧h=[]:=by
 obtain ⟨r1,r2,r3,d1,d2,d3,a,b,e1,s1,e2,a2,s2,e3,b3,s3,n3,x3⟩:=LM;have c1:=PD (s:=dP) (sn:=v1S) LW (by decide) e1;have m:=zGZ (p:=[97]);have c2:=zKD (s:=v1S) s1 (by decide) e2;have c3:=zKD (s:=dP) s2 (by decide) e3;have c4:=MV s3.okR;have c5:=VB (r:=r3);obtain ⟨ae,⟨ak,am,at_,ad⟩,ab,al⟩:=a;obtain ⟨be,⟨bk,bm,bt,bd⟩,bb,bl⟩:=b;simp only at a2 b3;subst a2 b3;rw [x3] at c5;have hn:((r3.N.length:Int) == 2)=true:=by rw [n3];rfl
 clear n3 x3;clear e1 s1 e2 s2 e3 s3;refine ent aC aK Tryz.func9 rfl rfl fun X0 hX=>?_;simp only [Tryz.f9,go_sem]
 repeat' (first|simp only [*,go_sem,Nat.reduceLT,Nat.reduceEqDiff,↓reduceIte,Nat.reduceAdd,Nat.reduceSub,beq_self_eq_true,bne_self_eq_false]|((with_reducible refine aS [] (HS) ?_ ?_ ?_ ?_);exact rfl;exact rfl;(focus ((simp only [go_sem];done))))|((with_reducible refine aS [0,1,2,3] (c1) ?_ ?_ ?_ ?_);exact rfl;exact rfl;(focus ((simp only [go_sem];done))))|((with_reducible refine cH (m) ?_ ?_ ?_);exact rfl;exact fun _=>rfl)|((with_reducible refine aS [0,4,5,6] (c2) ?_ ?_ ?_ ?_);exact rfl;exact rfl;(focus ((simp only [go_sem];done))))|((with_reducible refine aS [0,4,5,6] (c3) ?_ ?_ ?_ ?_);exact rfl;exact rfl;(focus ((simp only [go_sem];done))))|((with_reducible refine aS [0,4,5,6] (c4) ?_ ?_ ?_ ?_);exact rfl;exact rfl;(focus ((simp only [go_sem];done))))|((with_reducible refine aS [0,4,5,6] (c5) ?_ ?_ ?_ ?_);exact rfl;exact rfl;(focus ((simp only [go_sem];done)))))
end Go.Proofs.YtlbfnbldeefgmaaGreatDoor
end
section
namespace Go.Dm
open Go
def HY (x y:En):Bool:=x.p == y.p && (x.k == y.k && (x.o == y.o && sH x.n y.n))
def jW:List En→List En→Bool
 | [],[]=>true
 | x::a,y::b=>HY x y && jW a b
 | _,_=>false
theorem MX {a b:List En} {k:Nat} {x y:En} (ha:a[k]? = some x) (hb:b[k]? = some y):jW (a.drop k) (b.drop k)=(HY x y && jW (a.drop (k+1)) (b.drop (k+1))):=by
 obtain ⟨h1,rfl⟩:=List.getElem?_eq_some_iff.1 ha;obtain ⟨h2,rfl⟩:=List.getElem?_eq_some_iff.1 hb;rw [List.drop_eq_getElem_cons h1,List.drop_eq_getElem_cons h2,jW]
theorem zU:∀ {a b:List En},a.length≠b.length→jW a b=false
 | [],[],h=>absurd rfl h
 | [],_::_,_=>rfl
 | _::_,[],_=>rfl
 | x::a,y::b,h=>by
  rw [jW,zU (a:=a) (b:=b) fun e=>h (by simp [e]),Bool.and_false]
theorem wU:∀ {a:List En},(∀ x∈a,x.n.wf)→jW a a=true
 | [],_=>rfl
 | x::a,h=>by
  rw [jW,wU fun y hy=>h y (List.mem_cons_of_mem _ hy),HY,wB (h x List.mem_cons_self)];simp
end Go.Dm
end
section
namespace Go.Proofs.YtlbfnbldeefgmaaGreatDoor
open Go Go.Dm Go.Proofs
set_option maxRecDepth 100000
set_option maxHeartbeats 8000000
theorem zEH {p q:List UInt8} {k k' nk nk' nm nm':Int} {o o':Bool} {t t':Nat} {d d':List UInt8}:
  aA Tryz.prog 120 [.agg [.p (.s p),.p (.i .i64 k),.p (.b o),.p (.i .i64 nk),.p (.i .i64 nm),.p (.f t),.p (.sl 1 (bW d))],.agg [.p (.s q),.p (.i .i64 k'),.p (.b o'),.p (.i .i64 nk'),.p (.i .i64 nm'),.p (.f t'),.p (.sl 1 (bW d'))]] []
   fun r h=>r=.c (.p (.b (HY ⟨p,k,o,⟨nk,nm,t,d⟩⟩ ⟨q,k',o',⟨nk',nm',t',d'⟩⟩)))∧h=[]:=by
 refine ent aC aK Tryz.func120 rfl rfl fun X0 hX=>?_;simp only [Tryz.f120,go_sem]
 repeat' (first|simp only [*,go_sem,Nat.reduceLT,Nat.reduceLeDiff,Nat.reduceEqDiff,↓reduceIte,Nat.reduceAdd,]|((with_reducible refine aQ (CJ) ?_ ?_ ?_);exact rfl;exact rfl)|with_reducible refine cL (fun _=>?_) (fun _=>?_))
 all_goals ((simp_all [HY];done))
theorem zJN {a b:List En} (ha:a.length≤1000000) (hb:b.length≤1000000):
  aA Tryz.prog 119 [.c (.p (.sl 7 (eZ a))),.c (.p (.sl 7 (eZ b))),.c (.clo 120 [])] [] fun r h=>r=.c (.p (.b (jW a b)))∧h=[]:=by
 by_cases hl:b.length=a.length
 ·have q1:((a.length:Int) != a.length)=false:=by simp
  refine ent aC aK Tryz.func119 rfl rfl fun X0 hX=>?_;simp only [Tryz.f119,go_sem]
  repeat' (simp only [*,go_sem,Nat.reduceLT,Nat.reduceEqDiff,↓reduceIte,Nat.reduceAdd,bne_self_eq_false])
  refine bQ aC aK (α:=Nat) (fun k=>⟨32,[(1,.c (.p (.sl 7 (eZ b)))),(2,.c (.clo 120 [])),(15,.c (.p (.sl 7 (eZ a)))),(16,.c (.p (.i .i64 a.length))),(17,.c (.p (.i .i64 k)))],[]⟩)
   (fun k=>k≤a.length∧jW (a.drop k) (b.drop k)=jW a b) (fun k=>a.length-k) 0 ⟨Nat.zero_le _,rfl⟩ (.inl (aJ (by rw [hX];rfl) rfl rfl (by simp [aH,aN,aD,aL,aG,]))) ?_
  rintro k ⟨hk,hs⟩;by_cases hlt:k<a.length
  ·have hx:a[k]? = some a[k]:=List.getElem?_eq_getElem hlt;have hy:b[k]? = some (b[k]'(by omega)):=List.getElem?_eq_getElem (by omega);have hg:=nX hx;have hg2:=nX hy;have h1:decide ((k:Int)<(a.length:Int))=true:=decide_eq_true (by omega);have hd:=MX hx hy;generalize a[k]=x at hx hg hd;generalize (b[k]'(by omega))=y at hy hg2 hd;have w1:IntKind.i64.wrap ((k:Int)+1)=k+1:=wrap_i64 (by omega) (by omega);rw [hd] at hs;clear hd
   repeat' (first|simp only [*,go_sem,Nat.reduceLT,Nat.reduceLeDiff,Nat.reduceEqDiff,↓reduceIte,Nat.reduceAdd,]|((with_reducible refine aQ (zEH) ?_ ?_ ?_);exact rfl;exact rfl)|with_reducible refine aR (fun _=>?_) (fun _=>?_)|((with_reducible refine And.intro ?_ ?_);omega))
   ·rename_i hb;rw [Bool.not_eq_true'] at hb;rw [hb,Bool.false_and] at hs;rw [← hs]
   ·rename_i hb;rw [Bool.not_eq_false'] at hb;rw [hb,Bool.true_and] at hs;exact jC (k+1) ⟨by omega,hs⟩ (by omega) (aJ rfl rfl rfl (by simp [aH,aN,aD,aL,aG,]))
  ·have h1:decide ((k:Int)<(a.length:Int))=false:=decide_eq_false (by omega);rw [List.drop_of_length_le (by omega),List.drop_of_length_le (by omega)] at hs;have hs2:jW a b=true:=hs.symm;clear hs
   repeat' (simp only [*,go_sem,Nat.reduceLT,Nat.reduceEqDiff,↓reduceIte,])
 ·have q1:((a.length:Int) != b.length)=true:=by simpa [bne] using fun h=>hl (by omega)
  rw [zU fun h=>hl h.symm];refine ent aC aK Tryz.func119 rfl rfl fun X0 hX=>?_;simp only [Tryz.f119,go_sem]
  repeat' (simp only [*,go_sem,Nat.reduceLT,Nat.reduceEqDiff,↓reduceIte,Nat.reduceAdd,])
theorem LP {a b:List En} (ha:a.length≤1000000) (hb:b.length≤1000000):aA Tryz.prog 62 [.c (.p (.sl 7 (eZ a))),.c (.p (.sl 7 (eZ b)))] [] fun r h=>r=.c (.p (.b (jW a b)))∧h=[]:=by
 refine ent aC aK Tryz.func62 rfl rfl fun X0 hX=>?_;simp only [Tryz.f62,go_sem]
 repeat' (first|simp only [*,go_sem,Nat.reduceLT,Nat.reduceEqDiff,↓reduceIte,]|((with_reducible refine aQ (zJN ha hb) ?_ ?_ ?_);exact rfl;exact rfl))
end Go.Proofs.YtlbfnbldeefgmaaGreatDoor
end
