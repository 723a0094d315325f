/- Part 45 of the proof of roomMerges_card, set without needless blanks. No condition. -/
import Derived.Test.YtflcjdohmojepaaGreatDoorM43
set_option linter.all false
set_option maxRecDepth 100000
set_option maxHeartbeats 16000000
section
namespace Go.Proofs.YtflcjdohmojepaaGreatDoor
open Go Go.Dm Go.Proofs Go.Proofs.Tryz
theorem YT{r:Rm}{s:List UInt8}{l:List Ch}(hr:OkR r)(hl:l.length<=100000)(hp:∀x∈l,x.p.length<=1000000000/\x.o.t<18446744073709551616/\x.n.t<18446744073709551616)(hd:∀x∈l,x.n.d.length<=140737488355328)
  (h3:((wsP r s).2==0)=true->OkT (treeR r (wsP r s).1.i)/\OkT (treeR r (wsP r s).1.p)/\(((fH (treeR r (wsP r s).1.i) l).2==0)=true->OkT (fH (treeR r (wsP r s).1.i) l).1)):
  aA prog 8 [.c (.ptr 0 0),.c (.p (.s s)),.c (.p (.sl 10 (lE l)))] (bO r) λd h=>d=.c (.p (.i .i64 (iH r s l).2))/\h=bO (iH r s l).1:=by
 have hly:=MO (s:=s) hr;have htr:=dH (a:=(wsP r s).1.i) hr;unfold iH;generalize hy:wsP r s=y at *;obtain⟨⟨yi,yp,yq,yf⟩,e⟩:=y;simp only[Ly.cv] at *;cases he:(e==0)
 .have hb:(e != 0)=true:=by rw[bne,he];rfl
  simp only[Bool.not_false,if_true];clear h3 htr hr;refine eT func8 λX0 hX=>?_;simp only[Tryz.f8,go_sem]
  repeat' (first|exact⟨⟩|refine sp ?_|refine uS [0,1,2,3] (hly) ?_)
 .have hb:(e != 0)=false:=by rw[bne,he];rfl
  simp only[Bool.not_true,Bool.false_eq_true,if_false];obtain⟨k1,k2,k3⟩:=h3 he;have hap:=zH2 k1 hl hp hd;have hst:=λh=>TL (i:=yi) (p:=yp) (q:=yq) (f:=yf) (t:=(fH (treeR r yi) l).1) hr h k2;have hsm:=λh=>JD (a:=treeR r yi) (b:=(fH (treeR r yi) l).1) (by have:=k1.len;omega) h;unfold zCQ;simp only;generalize eF (treeR r yp) (fH (treeR r yi) l).1=E1 at hst ⊢;generalize fH (treeR r yi) l=T at *;obtain⟨T1,e2⟩:=T;simp only at *;generalize treeR r yi=T0 at *;cases he2:(e2==0)
  .simp only[Bool.not_false,if_true];clear h3 k1 k2 k3 hr hst hsm;refine eT func8 λX0 hX=>?_;simp only[Tryz.f8,go_sem]
   repeat' (first|exact⟨⟩|refine sp ?_|refine uS [0,1,2,3] (hly) ?_|refine uS [0,1,2,3] (htr) ?_|refine uN (hap) ?_)
  .have k4:=k3 he2;have hst:=hst k4;have hsm:=hsm (by have:=k4.len;omega);obtain rfl:e2=0:=by simpa using he2
   simp only[Bool.not_true,Bool.false_eq_true,if_false];clear h3 k1 k2 k3 k4 hr;cases hs:gR T0 T1
   .simp only[Bool.false_eq_true,if_false];refine eT func8 λX0 hX=>?_;simp only[Tryz.f8,go_sem]
    repeat' (first|exact⟨⟩|refine sq ?_|refine uS [0,1,2,3] (hly) ?_|refine uS [0,1,2,3] (htr) ?_|refine uN (hap) ?_|refine uN (hsm) ?_|refine uS [0,1,2,3] (hst) ?_)
   .simp only[if_true];refine eT func8 λX0 hX=>?_;simp only[Tryz.f8,go_sem]
    repeat' (first|exact⟨⟩|refine sq ?_|refine uS [0,1,2,3] (hly) ?_|refine uS [0,1,2,3] (htr) ?_|refine uN (hap) ?_|refine uN (hsm) ?_)
def zBQ(id:Int)(l:List Ly)(k:Nat):List Ly:=(l.take k).map (EE id)++l.drop k
theorem zFf(id:Int)(l:List Ly):zBQ id l 0=l:=by simp[zBQ]
theorem zJi(id:Int)(l:List Ly):zBQ id l l.length=pM l id:=by simp[zBQ,pM]
theorem zJj(id:Int)(l:List Ly)(k:Nat):(zBQ id l k).length=l.length:=by simp[zBQ];omega
theorem zMC{id:Int}{l:List Ly}{k:Nat}{x:Ly}(h:l[k]?=some x):(zBQ id l k)[k]?=some x:=by
 have hlt:=(List.getElem?_eq_some_iff.1 h).1;unfold zBQ;rw[List.getElem?_append_right (by simp;omega)];simp[Nat.min_eq_left (Nat.le_of_lt hlt),h]
theorem zJk{id:Int}{l:List Ly}{k:Nat}{x:Ly}(h:l[k]?=some x):(zBQ id l k).set k (EE id x)=zBQ id l (k+1):=by
 have hlt:=(List.getElem?_eq_some_iff.1 h).1;have hd:l.drop k=x::l.drop (k+1):=by
  rw[List.drop_eq_getElem_cons hlt,(List.getElem?_eq_some_iff.1 h).2]
 unfold zBQ;rw[hd,List.set_append_right _ _ (by simp;omega),List.take_add_one,h];simp[Nat.min_eq_left (Nat.le_of_lt hlt)]
theorem TE{r:Rm}{s sn:List UInt8}(hr:OkR r)(hs:sn.length<=1000000000)
  (h3:((wsP r s).2==0)=true->(gY r sn==0)=true->(iC r (wsP r s).1.i==0)=true->OkR ⟨cE r.N sn (wsP r s).1.i,pM r.L (wsP r s).1.i,r.E,r.x⟩ /\
   OkR ⟨cE (cE r.N sn (wsP r s).1.i) s r.x,pM r.L (wsP r s).1.i++[⟨r.x,(wsP r s).1.i,0,false⟩],oY r.E r.x [],r.x+1⟩/\OkG (pM r.L (wsP r s).1.i++[⟨r.x,(wsP r s).1.i,0,false⟩])):
  aA prog 10 [.c (.ptr 0 0),.c (.p (.s s)),.c (.p (.s sn))] (bO r) λd h=>d=.c (.p (.i .i64 (jC r s sn).2))/\h=iD (jC r s sn).1:=by
 have hws:=MO (s:=s) hr;have hfr:=tK (s:=sn) hr hs;have hdp:=rN (a:=(wsP r s).1.i) hr;have hpu:=TF (r:=⟨r.N,pM r.L (wsP r s).1.i,r.E,r.x⟩) (s:=sn) (n:=(wsP r s).1.i) (by have:=hr.nl;simp only;omega) hr.srt;have had:=λh0 h1 h2=>vC (r:=⟨cE r.N sn (wsP r s).1.i,pM r.L (wsP r s).1.i,r.E,r.x⟩) (s:=s) (i0:=0) (p:=(wsP r s).1.i) (q:=0) (es:=[]) h0 h1 h2;have hll:=hr.ll;unfold jC;generalize wsP r s=y at *;obtain⟨⟨yi,yp,yq,yf⟩,e⟩:=y;simp only[Ly.cv] at *;generalize gY r sn=e2 at *;generalize iC r yi=e3 at *;have bad:∀{c:List CV} {e:Int},aA prog 10 [.c (.ptr 0 0),.c (.p (.s s)),.c (.p (.s sn))] (bO r) (λd h=>d=.c (.p (.i .i64 e))/\h=bO r++[.box c])->aA prog 10 [.c (.ptr 0 0),.c (.p (.s s)),.c (.p (.s sn))] (bO r) (λd h=>d=.c (.p (.i .i64 e))/\h=iD r):=λ{c e} hc =>
  aA.perm [0,5,6,7,1,2,3] hc rfl rfl (by unfold iD bO;exact hpK)
 cases he:(e==0)
 .have hb:(e != 0)=true:=by rw[bne,he];rfl
  simp only[Bool.not_false,if_true];refine bad (c:=[.p (.i .i64 yi),.p (.i .i64 yp),.p (.i .i64 yq),.p (.b yf)]) ?_;clear had h3 hfr hdp hpu;refine xL aF aN func10 rfl rfl λX0 hX=>?_;simp only[f10,go_sem]
  repeat' (first|exact⟨⟩|refine sp ?_|refine uS [0,1,2,3] (hws) ?_)
 .have hb:(e != 0)=false:=by rw[bne,he];rfl
  simp only[Bool.not_true,Bool.false_eq_true,if_false];cases he2:(e2==0)
  .have hb2:(e2 != 0)=true:=by rw[bne,he2];rfl
   simp only[Bool.not_false,if_true];refine bad (c:=[.p (.i .i64 yi),.p (.i .i64 yp),.p (.i .i64 yq),.p (.b yf)]) ?_;clear had h3 hdp hpu;refine xL aF aN func10 rfl rfl λX0 hX=>?_;simp only[f10,go_sem]
   repeat' (first|exact⟨⟩|refine sp ?_|refine uS [0,1,2,3] (hws) ?_|refine uS [0,1,2,3] (hfr) ?_)
  .have hb2:(e2 != 0)=false:=by rw[bne,he2];rfl
   simp only[Bool.not_true,Bool.false_eq_true,if_false];cases he3:(e3==0)
   .have hb3:(e3 != 0)=true:=by rw[bne,he3];rfl
    simp only[Bool.not_false,if_true];refine bad (c:=[.p (.i .i64 yi),.p (.i .i64 yp),.p (.i .i64 yq),.p (.b yf)]) ?_;clear had h3 hpu;refine xL aF aN func10 rfl rfl λX0 hX=>?_;simp only[f10,go_sem]
    repeat' (first|exact⟨⟩|refine sp ?_|refine uS [0,1,2,3] (hws) ?_|refine uS [0,1,2,3] (hfr) ?_|refine uS [0,1,2,3] (hdp) ?_)
   .have hb3:(e3 != 0)=false:=by rw[bne,he3];rfl
    simp only[Bool.not_true,Bool.false_eq_true,if_false];obtain⟨k0,k1,k2⟩:=h3 he he2 he3;have hadd:=aA.wkA (args:=[.c (.ptr 0 0),.c (.p (.s s)),.agg [.p (.i .i64 0),.p (.i .i64 yi),.p (.i .i64 0),.p (.b false)],.c (.p .nil)]) (args':=[.c (.ptr 0 0),.c (.p (.s s)),.agg [.p (.i .i64 0),.p (.i .i64 yi),.p (.i .i64 0),.p (.b false)],.c (.p (.sl 7 (gG [])))]) ⟨rfl,zHN,⟨wkP.rfl,wkP.rfl,wkP.rfl,wkP.rfl,True.intro⟩,zHM,True.intro⟩ (had k0 k1 k2);clear had h3 k0 k1 k2;have hgl:(pM r.L yi).length=r.L.length:=by simp[pM]
    unfold zCJ bO at hpu;unfold bO at hadd;simp only[hgl] at hpu hadd;generalize zDa ⟨cE r.N sn yi,pM r.L yi,r.E,r.x⟩ s yi 0 []=c at hadd ⊢;generalize cE r.N sn yi=M at hpu hadd;refine aA.perm [0,1,2,3,6,7,8] (d1:=.c (.p (.i .i64 0))) (h1:=[.box [.own 6 0 c.N.length,.own 7 0 c.L.length,.mp 8,.p (.i .i64 c.x)],.dead,.dead,.dead,.box [.p (.i .i64 yi),.p (.i .i64 yp),.p (.i .i64 yq),.p (.b yf)],.dead,.arr 2 (bS c.N) false,.arr 4 (dA c.L) false,.mp (oZ c.E)]) ?_ rfl rfl (by unfold iD;exact hpK);have hLz:=zFf yi r.L;refine xL aF aN func10 rfl rfl λX0 hX=>?_;simp only[f10,go_sem]
    repeat' (first|exact⟨⟩|refine sp ?_|refine uS [0,1,2,3] (hws) ?_|refine uS [0,1,2,3] (hfr) ?_|refine uS [0,1,2,3] (hdp) ?_)
    refine eX aF aN (α:=Nat) (λk=>⟨82,[(0,.c (.ptr 0 0)),(1,.c (.p (.s s))),(2,.c (.p (.s sn))),(7,.c (.ptr 4 0)),(38,.c (.p (.i .i64 r.L.length))),(39,.c (.p (.i .i64 k)))],[.box [.own 1 0 r.N.length,.own 2 0 r.L.length,.mp 3,.p (.i .i64 r.x)],.arr 2 (bS r.N) false,.arr 4 (dA (zBQ yi r.L k)) false,.mp (oZ r.E),.box [.p (.i .i64 yi),.p (.i .i64 yp),.p (.i .i64 yq),.p (.b yf)]]⟩)
     (λk=>k<=r.L.length) (λk=>r.L.length-k) 0 (Nat.zero_le _) (dC (by rw[hLz];exact aB (by rw[hX];rfl) rfl rfl wkK)) ?_
    intro k hk;have hkl:=zJj yi r.L k;by_cases hlt:k<r.L.length
    .have hx:r.L[k]?=some r.L[k]:=List.getElem?_eq_getElem hlt;have hg:=nS (zMC (id:=yi) hx);have hst:=zJk (id:=yi) hx;have h1:decide ((k:Int)<(r.L.length:Int))=true:=decide_eq_true (by omega);have h2:(k:Int)<(r.L.length:Int):=by omega
     have h4:(0:Int)<=k:=by omega
     have w1:IntKind.i64.wrap ((k:Int)+1)=k+1:=wrap_i64 (by omega) (by omega);generalize r.L[k]=x at hx hg hst;obtain⟨xi,xp,xs,xf⟩:=x;simp only[EE] at hg hst;clear hx hpu hadd hws hfr hdp hLz;have b1:k<(zBQ yi r.L k).length:=by omega
     cases xf
     .cases hq:(xi==yi)
      all_goals rw[hq] at hst
      all_goals simp only[Bool.or_false,Bool.false_or] at hst
      all_goals have hst:=PLift.up hst
      all_goals clear b1
      all_goals repeat' (first|exact⟨⟩|refine sp ?_|((refine aG (id:=13) aF aN [28] [0,1,2,3,4,5,6,7,8,9,10,11,12,13,14,15,16,17,18,19,20,21,22,23,24,25,26,27,28] (by decide +kernel) ?_);(repeat' (first|(refine aT ?_)|((refine cK ?_ ?_ rfl rfl rfl ?_ ?_);(rotate_left 2);(focus ((repeat' (first|exact⟨⟩|refine sp ?_));((refine And.intro ?_ ?_<;>exact rfl))));(simp only[bH]))|((refine cJ ?_ rfl rfl rfl ?_ ?_);(rotate_left 1);(focus ((repeat' (first|exact bA|refine aW ?_ ?_));(all_goals ((repeat' (first|exact⟨⟩|refine sp ?_));(try (exact rfl))))));(simp only[aC]))))))
      all_goals exact wK (k+1) (by omega) (by omega) (by rw[<- hst.down];exact dC (aB rfl rfl rfl wkK))
     .simp only[Bool.true_or] at hst;have hst:=PLift.up hst;clear b1
      repeat' (first|exact⟨⟩|refine sp ?_|((refine aG (id:=13) aF aN [28] [0,1,2,3,4,5,6,7,8,9,10,11,12,13,14,15,16,17,18,19,20,21,22,23,24,25,26,27,28] (by decide +kernel) ?_);(repeat' (first|(refine aT ?_)|((refine cK ?_ ?_ rfl rfl rfl ?_ ?_);(rotate_left 2);(focus ((repeat' (first|exact⟨⟩|refine sp ?_));((refine And.intro ?_ ?_<;>exact rfl))));(simp only[bH]))|((refine cJ ?_ rfl rfl rfl ?_ ?_);(rotate_left 1);(focus ((repeat' (first|exact bA|refine aW ?_ ?_));(all_goals ((repeat' (first|exact⟨⟩|refine sp ?_));(try (exact rfl))))));(simp only[aC]))))))
      exact wK (k+1) (by omega) (by omega) (by rw[<- hst.down];exact dC (aB rfl rfl rfl wkK))
    .have hke:k=r.L.length:=by omega
     subst hke;rw[zJi];have h1:decide ((r.L.length:Int)<(r.L.length:Int))=false:=decide_eq_false (by omega);clear hws hfr hdp hkl hLz;generalize pM r.L yi=G at hpu hadd
     repeat' (first|exact⟨⟩|refine sp ?_|refine uS [0,1,2,3] (hpu) ?_|refine uS [0,5,2,3] (hadd) ?_)
end Go.Proofs.YtflcjdohmojepaaGreatDoor
end
section
namespace Go.Dm
open Go
section
variable {r:Rm}{d:Dr}{s t sn o:List UInt8}{q:Int}{w:List It}
theorem SimW.okR(h:SimW r d)(hl:d.L.length<=900):OkR r where
 srt:=by rw[h.N];exact h.srt
 nl:=by rw[h.N];have:=h.ln;omega
 ll:=by rw[h.L];simpa[Dr.G] using hl
 ent:=λx hx=>by
  rw[h.L] at hx;obtain⟨y,hy,rfl⟩:=LH.1 hx;rw[h.e y hy];exact XS (h.toOkW.tree _) (h.t y hy)
 x:=by rw[h.x];have:=h.nx.2;omega
theorem Sim.okR(h:Sim r d):OkR r:=h.toSimW.okR (by have:=h.len;omega)
theorem Sim.okG(h:Sim r d):OkG r.L:=by rw[h.L];exact h.g
theorem Sim.okT(h:Sim r d)(id:Int):OkT (treeR r id):=by rw[h.toSimW.treeR];exact h.toOkW.tree id
theorem zO(h:SimW r d)(hl:d.L.length<=800){p:Int}{t:List It}(hs:aZ s=true)(hp:EL d p)(hq:q=0∨(p≠q/\EL d q))(hc:(bV d.G p).length<=11)(ht:OkT t)
 (hx:d.x<2147483647)(hn:(cE d.N s d.x).length<=20):OkR ⟨cE r.N s r.x,r.L++[⟨r.x,p,q,false⟩],oY r.E r.x (eF (treeR r p) t),r.x+1⟩/\OkG (r.L++[⟨r.x,p,q,false⟩]):=by
 have hw:=TU h hs hp hq hc ht hx hn;rw[h.treeR];refine⟨hw.okR ?_,?_⟩
 .show (d.L++[_]).length<=900;rw[List.length_append];simp only[List.length_cons,List.length_nil];omega
 .have h1:=hw.g;rw[<- hw.L] at h1;exact h1
theorem zPw(h:Sim r d)(h1:((snP r s).2==0)=true):∃n y,vQ d.N s=some n/\y∈d.L/\snP r s=(y.1,0)/\sS d y.1.i=some y/\y.1.f=true:=by
 unfold snP at h1 ⊢;cases hn:vQ d.N s with
 | none =>
  obtain⟨k1,_⟩:=dJ h.toSimW hn;simp_all
 | some n =>
  obtain⟨y,hy,g1,g2,g3,g4,g5⟩:=dK h.toSimW hn;grind
theorem zPZ(h:Sim r d)(h1:((wsP r s).2==0)=true):∃n y,vQ d.N s=some n/\y∈d.L/\wsP r s=(y.1,0)/\sS d y.1.i=some y/\y.1.f=false/\y.1.i=n.l:=by
 unfold wsP at h1 ⊢;cases hn:vQ d.N s with
 | none =>
  obtain⟨k1,_⟩:=dJ h.toSimW hn;simp_all
 | some n =>
  obtain⟨y,hy,g1,g2,g3,g4,g5⟩:=dK h.toSimW hn;grind
theorem JZ(h:SimW r d){on:Int}(h3:(iC r on==0)=true):(bV d.G on).length<=11:=by grind [nQ,rH]
theorem zJg(h:Sim r d)(h1:((snP r sn).2==0)=true)(h2:(gY r s==0)=true)(h3:(iC r (snP r sn).1.i==0)=true):
  OkR ⟨cE r.N s r.x,r.L++[⟨r.x,(snP r sn).1.i,0,false⟩],oY r.E r.x [],r.x+1⟩/\OkG (r.L++[⟨r.x,(snP r sn).1.i,0,false⟩]):=by
 obtain⟨n,y,hn,hy,e,g3,hf⟩:=zPw h h1;rw[e] at h3 ⊢;rw[rA h.toSimW] at h2;obtain⟨f1,f2,f3,f4,f5⟩:=rB h2;have:=zO (s:=s) (p:=y.1.i) (q:=0) (t:=y.2) h.toSimW (by have:=h.len;omega) f1 ⟨y,hy,rfl,hf⟩ (.inl rfl) (JZ h.toSimW h3) (h.t y hy) f5 (by have:=iT d.N s d.x;omega)
 rwa[h.toSimW.treeR,eA g3,pT (h.t y hy)] at this
theorem zBO(h:Sim r d)(h1:((wsP r s).2==0)=true)(h2:(gY r sn==0)=true)(h3:(iC r (wsP r s).1.i==0)=true):
  OkR ⟨cE r.N sn (wsP r s).1.i,pM r.L (wsP r s).1.i,r.E,r.x⟩ /\
   OkR ⟨cE (cE r.N sn (wsP r s).1.i) s r.x,pM r.L (wsP r s).1.i++[⟨r.x,(wsP r s).1.i,0,false⟩],oY r.E r.x [],r.x+1⟩/\OkG (pM r.L (wsP r s).1.i++[⟨r.x,(wsP r s).1.i,0,false⟩]):=by
 obtain ⟨n,y,hn,hy,e,g3,hf,g4⟩:=zPZ h h1;rw[e] at h3 ⊢;rw[rA h.toSimW] at h2;obtain⟨f1,f2,f3,f4,f5⟩:=rB h2;have hwf:=DN h.toSimW y.1.i;have hmem:∀n,n∈cE d.N sn y.1.i↔n=⟨sn,y.1.i⟩∨(n∈d.N/\n.n≠sn):=λn=>tX h.srt;have hwn:=HV hwf (N:=cE d.N sn y.1.i) (pC h.srt sn y.1.i) (λm hm=>by
   rcases (hmem m).1 hm with rfl|⟨g1,_⟩
   .exact⟨f1,_,gZ h.g.inc (id:=y.1.i) hy,rfl⟩
   .exact hwf.nm m g1) (λa ha b hb e hfz=>by
   have hfz2:∀z∈d.L,z.1.i=a.l->z.1.i≠y.1.i/\z.1.f=false:=λz hz hza=>by
    have:=hfz _ (gZ h.g.inc (id:=y.1.i) hz) hza;grind [EE]
   rcases (hmem a).1 ha with rfl|⟨g1,_⟩<;>rcases (hmem b).1 hb with rfl|⟨g2,_⟩
   .rfl
   .grind
   .grind
   .exact h.one a g1 b g2 e λz hz hza=>(hfz2 z hz hza).2) (by have:=iT d.N sn y.1.i;omega)
 have hwn:SimW ⟨cE d.N sn y.1.i,pM r.L y.1.i,r.E,r.x⟩ ⟨BJ y.1.i d.L,cE d.N sn y.1.i,d.x⟩:=hwn;have hlen:(BJ y.1.i d.L).length=d.L.length:=by rw[rC h.g.inc,List.length_map]
 have hsn:aZ s=true:=by
  obtain⟨g1,g2⟩:=fU hn;rw[<- g2];exact(h.nm n g1).1
 have hfa:EL ⟨BJ y.1.i d.L,cE d.N sn y.1.i,d.x⟩ y.1.i:=⟨_,gZ h.g.inc (id:=y.1.i) hy,rfl,by show (y.1.f || y.1.i==y.1.i)=true;simp⟩
 have hGeq:(⟨BJ y.1.i d.L,cE d.N sn y.1.i,d.x⟩:Dr).G=pM d.G y.1.i:=zFg h.g.inc y.1.i;have hne:sn≠s:=λe=>by
  have:=h.toOkW.name0 sn;simp_all
 have hin:(⟨n.n,n.l⟩:Nm)∈cE d.N sn y.1.i:=by
  obtain⟨g1,g2⟩:=fU hn;exact(hmem _).2 (.inr ⟨g1,by rw[g2];exactλe=>hne e.symm⟩)
 have hlen2:(cE (cE d.N sn y.1.i) s d.x).length<=20:=by
  obtain⟨g1,g2⟩:=fU hn;rw[<- g2,pB (pC h.srt sn y.1.i) hin];grind [iT]
 have e0:cY ⟨BJ y.1.i d.L,cE d.N sn y.1.i,d.x⟩ y.1.i=y.2:=(KO h.toOkW y.1.i y.1.i).trans (eA g3);have:=zO (s:=s) (p:=y.1.i) (q:=0) (t:=y.2) hwn (by show (BJ y.1.i d.L).length<=800;omega) hsn hfa (.inl rfl) (by rw[hGeq,BK];exact JZ h.toSimW h3) (h.t y hy) f5 hlen2;rw[hwn.treeR,e0,pT (h.t y hy)] at this;rw[h.N];exact⟨hwn.okR (by show (BJ y.1.i d.L).length<=900;omega),this⟩
theorem zLY(h:Sim r d)(h1:((eL r o t).2.2==0)=true):∃y z,y∈d.L/\z∈d.L/\eL r o t=(y.1,z.1,0)/\sS d y.1.i=some y/\sS d z.1.i=some z/\y.1.f=true/\z.1.f=true:=by
 unfold eL at h1 ⊢;cases hn:vQ d.N o with
 | none =>
  obtain⟨k1,_⟩:=dJ h.toSimW hn;simp_all
 | some n =>
  obtain⟨y,hy,g1,g2,g3,g4,g5⟩:=dK h.toSimW hn;cases hm:vQ d.N t with
  | none =>
   obtain⟨k1,_⟩:=dJ h.toSimW hm;simp_all
  | some m =>
   obtain⟨z,hz,k1,k2,k3,k4,k5⟩:=dK h.toSimW hm;grind
theorem zFW(h:Sim r d)(h1:((eL r o t).2.2==0)=true)(h2:(gY r s==0)=true)(h3:(iC r (eL r o t).1.i==0)=true)(hw:OkT w)(hq:q=if (eL r o t).1.i==(eL r o t).2.1.i then 0 else (eL r o t).2.1.i):
  OkR ⟨cE r.N s r.x,r.L++[⟨r.x,(eL r o t).1.i,q,false⟩],oY r.E r.x (eF (treeR r (eL r o t).1.i) w),r.x+1⟩/\OkG (r.L++[⟨r.x,(eL r o t).1.i,q,false⟩]):=by
 obtain⟨y,z,hy,hz,e,g3,g4,hf,hf2⟩:=zLY h h1;rw[e] at h3 hq ⊢;rw[rA h.toSimW] at h2;obtain⟨f1,f2,f3,f4,f5⟩:=rB h2;refine zO h.toSimW (by have:=h.len;omega) f1 ⟨y,hy,rfl,hf⟩ ?_ (JZ h.toSimW h3) hw f5 (by have:=iT d.N s d.x;omega);by_cases hyz:y.1.i=z.1.i
 .simp_all
 .right;rw[hq,if_neg (by simpa using hyz)];exact⟨hyz,z,hz,rfl,hf2⟩
theorem zCp(h:Sim r d)(h1:((wsP r s).2==0)=true)(h2:((snP r o).2==0)=true)(h3:(iC r (snP r o).1.i==0)=true)(hw:OkT w)(hx:r.x<2147483647):
  OkR ⟨cE r.N s r.x,r.L++[⟨r.x,(snP r o).1.i,0,false⟩],oY r.E r.x (eF (treeR r (snP r o).1.i) w),r.x+1⟩/\OkG (r.L++[⟨r.x,(snP r o).1.i,0,false⟩]):=by
 obtain⟨n,y,hn,hy,e,g3,hf,g4⟩:=zPZ h h1;obtain⟨m,z,hm,hz,e2,k3,kf⟩:=zPw h h2;rw[e2] at h3 ⊢;obtain⟨g1,g2⟩:=fU hn;have hsn:aZ s=true:=by rw[<- g2];exact(h.nm n g1).1
 refine zO h.toSimW (by have:=h.len;omega) hsn ⟨z,hz,rfl,kf⟩ (.inl rfl) (JZ h.toSimW h3) hw (by rw[<- h.x];exact hx) ?_;rw[<- g2,pB h.srt g1,List.length_set];exact h.ln
theorem GM(h:Sim r d)(a b c:Int)(he:(fL (treeR r a) (treeR r b) (treeR r c)).2.2=0):OkT (fL (treeR r a) (treeR r b) (treeR r c)).1:=by
 have ha:=h.okT a;have hb:=h.okT b;have hc:=h.okT c;grind [fL,uQ]
theorem zDl(h:Sim r d)(s:List UInt8){l:List Ch}(hl:∀x∈l,x.n.t<18446744073709551616):OkT (treeR r (wsP r s).1.i)/\OkT (treeR r (wsP r s).1.p)/\(((fH (treeR r (wsP r s).1.i) l).2==0)=true->OkT (fH (treeR r (wsP r s).1.i) l).1) :=
 ⟨h.okT _,h.okT _,λhe=>NL (h.okT _) hl (by simpa using he)⟩
theorem zOG(h:Sim r d)(s:List UInt8){c:Cl}(hc:c.t<18446744073709551616):OkT (treeR r (bY r s).1.i)/\OkT (treeR r (bY r s).1.p)/\OkT (doP (treeR r (bY r s).1.i) c).1 :=
 ⟨h.okT _,h.okT _,zOF (h.okT _) hc⟩
end
end Go.Dm
end
section
namespace Go.Proofs.YtflcjdohmojepaaGreatDoor
open Go Go.Dm Go.Proofs Go.Proofs.Tryz
section
section
variable {r r':Rm}{d:Dr}{e:Int}
theorem zF{s sn:List UInt8}(h:Sim r d)(hs:sn.length<=1000000000)(he:jC r s sn=(r',e)):aA prog 10 [.c (.ptr 0 0),.c (.p (.s s)),.c (.p (.s sn))] (bO r) λd h=>d=.c (.p (.i .i64 e))/\h=iD r':=by
 have:=TE (s:=s) h.okR hs λa b c=>zBO h a b c;rw[he] at this;exact this
theorem zLl{sn s:List UInt8}(h:Sim r d)(hs:s.length<=1000000000)(he:EP r sn s=(r',e)):aA prog 11 [.c (.ptr 0 0),.c (.p (.s sn)),.c (.p (.s s))] (bO r) λd h=>d=.c (.p (.i .i64 e))/\h=iD r':=by
 have:=zCI (sn:=sn) h.okR hs λa b c=>zJg h a b c;rw[he] at this;exact this
theorem zLR{s:List UInt8}{l:List Ch}(h:Sim r d)(hl:l.length<=100000)(hp:∀x∈l,x.p.length<=1000000000/\x.o.t<18446744073709551616/\x.n.t<18446744073709551616)(hd:∀x∈l,x.n.d.length<=140737488355328)(he:iH r s l=(r',e)):
  aA prog 8 [.c (.ptr 0 0),.c (.p (.s s)),.c (.p (.sl 10 (lE l)))] (bO r) λd h=>d=.c (.p (.i .i64 e))/\h=bO r':=by
 have:=YT (s:=s) h.okR hl hp hd λ_=>zDl h s λx hx=>(hp x hx).2.2;rw[he] at this;exact this
theorem do_e{s:List UInt8}{ck:Int}{cp cq:List UInt8}{cm:Int}{ct:Nat}{ca cn:Int}{cd:List UInt8}{a:An}(h:Sim r d)(hct:ct<18446744073709551616)(hcp:cp.length<=9223372036854775807)
  (hcd:cd.length<=140737488355328)(hcq:cq.length<=9223372036854775807)(hca:-9223372036854775808<=ca/\ca<=9223372036854775807)(he:zD7 r s ⟨ck,cp,cq,cm,ct,ca,cn,cd⟩=(r',a)):
  aA prog 22 [.c (.ptr 0 0),.c (.p (.s s)),.agg (clc ck cp cq cm ct ca cn cd)] (bO r) λd h=>d=.agg (anv a)/\h=bO r':=by
 have:=zKr (s:=s) (ck:=ck) (cm:=cm) (cn:=cn) h.okR hct hcp hcd hcq hca λ_=>zOG h s (c:=⟨ck,cp,cq,cm,ct,ca,cn,cd⟩) hct;rw[he] at this;exact this
theorem zLF{s:List UInt8}{t:List It}(h:Sim r d)(he:qJ r s=(t,e)):aA prog 17 [.c (.ptr 0 0),.c (.p (.s s))] (bO r) λd h=>d=.tup [.c (.p (.sl 5 (aS t))),.c (.p (.i .i64 e))]/\h=bO r:=by
 have:=zCM (s:=s) h.okR;rw[he] at this;exact this
theorem XU{o t s:List UInt8}{F:List Cf}(h:Sim r d)(hs:s.length<=1000000000)(he:gK r o t s=(r',F,e)):aA prog 14 [.c (.ptr 0 0),.c (.p (.s o)),.c (.p (.s t)),.c (.p (.s s))] (bO r) λd h=>d=.tup [.c (.p (.sl 2 (dY F))),.c (.p (.i .i64 e))]/\h=iD r':=by
 have:=YU (o:=o) (t:=t) h.okR h.okG hs h.okT (λa b c w hw q hq=>zFW h a b c hw hq) λa b c=>GM h a b c;rw[he] at this;exact this
theorem zKm{s o:List UInt8}{F:List Cf}(h:Sim r d)(he:iO r s o=(r',F,e)):aA prog 19 [.c (.ptr 0 0),.c (.p (.s s)),.c (.p (.s o))] (bO r) λd h=>d=.tup [.c (.p (.sl 2 (dY F))),.c (.p (.i .i64 e))]/\h=iD r':=by
 have:=TG (s:=s) (o:=o) h.okR h.okT (λa b c w hw hx=>zCp h a b c hw hx) λa b c=>GM h a b c;rw[he] at this;exact this
end
end
end Go.Proofs.YtflcjdohmojepaaGreatDoor
end
section
namespace Go.Dm
open Go
section
section steps
variable {r:Rm}{d d':Dr}
section
variable {r:Rm}{d d':Dr}
theorem qQ{s:List UInt8}{l:List Ch}{e:Int}(h:Sim r d)(hl:∀x∈l,x.n.t<18446744073709551616)(he:FG d s l=(d',e)):∃r',iH r s l=(r',e)/\Sim r' d':=by
 obtain⟨h1,h2⟩:=zDm h s hl;rw[he] at h1 h2;exact⟨_,Prod.ext rfl h1,h2⟩
end
theorem nX{s sn:List UInt8}{e:Int}(h:Sim r d)(he:jB d s sn=(d',e)):∃r',jC r s sn=(r',e)/\Sim r' d':=by
 obtain⟨h1,h2⟩:=zBP h s sn;rw[he] at h1 h2;exact⟨_,Prod.ext rfl h1,h2⟩
section
variable {r:Rm}{d d':Dr}
theorem QI{s sn:List UInt8}{e:Int}(h:Sim r d)(he:zBN d sn s=(d',e)):∃r',EP r sn s=(r',e)/\Sim r' d':=by
 obtain⟨h1,h2⟩:=zJh h sn s;rw[he] at h1 h2;exact⟨_,Prod.ext rfl h1,h2⟩
end
section
variable {r:Rm}{d d':Dr}
end
theorem zEd{s:List UInt8}{c:Cl}{a:An}(h:Sim r d)(hc:c.t<18446744073709551616)(he:doD d s c=(d',a)):∃r',zD7 r s c=(r',a)/\Sim r' d':=by
 obtain⟨h1,h2⟩:=zOH h s hc;rw[he] at h1 h2;exact⟨_,Prod.ext rfl h1,h2⟩
section
variable {r:Rm}{d d':Dr}
theorem wF{o t s:List UInt8}{e:List Cf × Int}(h:Sim r d)(he:GL d o t s=(d',e)):∃r',gK r o t s=(r',e)/\Sim r' d':=by
 obtain⟨h1,h2⟩:=zFX h o t s;rw[he] at h1 h2;exact⟨_,Prod.ext rfl h1,h2⟩
end
section
variable {r:Rm}{d d':Dr}
theorem YK{s o:List UInt8}{e:List Cf × Int}(h:Sim r d)(he:wL d s o=(d',e)):∃r',iO r s o=(r',e)/\Sim r' d':=by
 obtain⟨h1,h2⟩:=zCq h s o;rw[he] at h1 h2;exact⟨_,Prod.ext rfl h1,h2⟩
end
section
variable {r:Rm}{d d':Dr}
theorem nN{s:List UInt8}{id:Int}{a b:List It}(hn:cV d.N s=id)(h0:(id==0)=false)(hf:kH d id=false)(ht:cY d id=a)(ha:OkT a)(hb:OkT b):FG d s (bT a b)=(lH d id b,0):=by
 unfold FG;rw[hn,h0,hf,ht,zBe ha hb];rfl
end
end steps
theorem uB{a b:List It}(ha:OkT a)(hb:OkT b):∀x∈bT a b,x.n.t<18446744073709551616:=λx hx=>(zB ha hb hx).2
def v1S:List UInt8:=[118,49]
def mkS(p:List UInt8):Cl:=⟨1,p,[],493,0,0,0,[]⟩
theorem XM:∃(r1 r2 r3:Rm) (d1 d2 d3:Dr) (a b:An),jC zOb eY v1S=(r1,0)/\Sim r1 d1/\zD7 r1 v1S (mkS [97])=(r2,a)/\a.e=14/\Sim r2 d2/\zD7 r2 eY (mkS [97])=(r3,b)/\b.e=0/\Sim r3 d3/\r3.N.length=2/\r3.x=4:=by
 obtain⟨r1,e1,s1⟩:=nX (d':=(jB VV eY v1S).1) (e:=0) (s:=eY) (sn:=v1S) LL (Prod.ext rfl (by decide +kernel));obtain⟨r2,e2,s2⟩:=zEd (s:=v1S) (c:=mkS [97]) s1 (by decide) (Prod.ext rfl rfl:_=((doD (jB VV eY v1S).1 v1S (mkS [97])).1,(doD (jB VV eY v1S).1 v1S (mkS [97])).2));obtain⟨r3,e3,s3⟩:=zEd (s:=eY) (c:=mkS [97]) s2 (by decide) (Prod.ext rfl rfl:_=((doD (doD (jB VV eY v1S).1 v1S (mkS [97])).1 eY (mkS [97])).1,(doD (doD (jB VV eY v1S).1 v1S (mkS [97])).1 eY (mkS [97])).2));exact⟨r1,r2,r3,_,_,_,_,_,e1,s1,e2,by decide +kernel,s2,e3,by decide +kernel,s3,by rw[s3.N];decide +kernel,by rw[s3.x];decide +kernel⟩
end
end Go.Dm
end
section
namespace Go.Proofs.YtflcjdohmojepaaGreatDoor
open Go Go.Dm Go.Proofs Go.Proofs.Tryz
theorem vE:aA prog 4 [] [] λd h=>d=.c (.ptr 0 0)/\h=bO zOb:=by
 refine aA.perm [3,0,1,2] (d1:=.c (.ptr 3 0)) (h1:=[.arr 2 (bS zOb.N) false,.arr 4 (dA zOb.L) false,.mp [],.box [.own 0 0 1,.own 1 0 2,.mp 2,.p (.i .i64 3)]]) ?_ rfl rfl (by unfold bO;exact hpK);refine xL aF aN func4 rfl rfl λX0 hX=>?_;simp only[Tryz.f4,go_sem]
 repeat' (first|exact⟨⟩|refine sp ?_|refine ai ?_)
 all_goals rfl
theorem zM1{p:List UInt8}:aA prog 23 [.c (.p (.s p))] [] λr h=>r=.agg (clc 1 p [] 493 0 0 0 [])/\h=[]:=by
 refine aV ?_;refine eT func23 λX0 hX=>?_;simp only[f23,go_sem]
 repeat' (first|exact⟨⟩|refine sp ?_)
 all_goals (repeat' (exact .inr ⟨_,rfl⟩))
theorem zRl{r r':Rm}{d:Dr}{s p:List UInt8}{a:An}(h:Sim r d)(hp:p.length<=1000)(he:zD7 r s (mkS p)=(r',a)):
  aA prog 22 [.c (.ptr 0 0),.c (.p (.s s)),.agg (clc 1 p [] 493 0 0 0 [])] (bO r) λd h=>d=.agg (anv a)/\h=bO r' :=
 do_e h (by decide) (by omega) (by decide) (by decide) (by decide) he
theorem BT:aA prog 5 [] [] λr h=>r=.c (.p (.b true))/\h=[]:=by
 obtain⟨r1,r2,r3,d1,d2,d3,a,b,e1,s1,e2,a2,s2,e3,b3,s3,n3,x3⟩:=XM;have c1:=zF (s:=eY) (sn:=v1S) LL (by decide) e1;have m:=zM1 (p:=[97]);have c2:=zRl (s:=v1S) s1 (by decide) e2;have c3:=zRl (s:=eY) s2 (by decide) e3;have c4:=DG s3.okR;have c5:=zCK (r:=r3);obtain⟨ae,⟨ak,am,at_,ad⟩,ab,al⟩:=a;obtain⟨be,⟨bk,bm,bt,bd⟩,bb,bl⟩:=b;simp only at a2 b3;subst a2 b3;rw[x3] at c5;have hn:((r3.N.length:Int)==2)=true:=by rw[n3];rfl
 clear n3 x3;clear e1 s1 e2 s2 e3 s3;refine eT func5 λX0 hX=>?_;simp only[Tryz.f5,go_sem]
 repeat' (first|exact⟨⟩|refine sp ?_|refine uS [] (vE) ?_|refine uS [0,1,2,3] (c1) ?_|refine uN (m) ?_|refine uS [0,4,5,6] (c2) ?_|refine uS [0,4,5,6] (c3) ?_|refine uS [0,4,5,6] (c4) ?_|refine uS [0,4,5,6] (c5) ?_)
end Go.Proofs.YtflcjdohmojepaaGreatDoor
end
