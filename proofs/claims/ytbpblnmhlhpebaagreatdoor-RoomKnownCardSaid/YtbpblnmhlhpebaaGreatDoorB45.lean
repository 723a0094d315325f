/- Part 46 of the proof of roomKnown_card. No condition. -/
import Derived.Test.YtbpblnmhlhpebaaGreatDoorB44
set_option linter.all false
set_option maxRecDepth 100000
set_option maxHeartbeats 8000000
namespace Go.Proofs.YtbpblnmhlhpebaaGreatDoor
open Go Go.Dm Go.Proofs
section
def WX (id:Int) (l:List Ly) (k:Nat):List Ly:=(l.take k).map (zW id)++l.drop k
theorem zB5 (id:Int) (l:List Ly):WX id l 0=l:=by simp [WX]
theorem zFB (id:Int) (l:List Ly):WX id l l.length=mX l id:=by simp [WX,mX]
theorem zD6 (id:Int) (l:List Ly) (k:Nat):(WX id l k).length=l.length:=by simp [WX];omega
theorem zIq {id:Int} {l:List Ly} {k:Nat} {x:Ly} (h:l[k]? = some x):(WX id l k)[k]? = some x:=by
 have hlt:=(List.getElem?_eq_some_iff.1 h).1
 unfold WX
 rw [List.getElem?_append_right (by simp;omega)]
 simp [Nat.min_eq_left (Nat.le_of_lt hlt),h]
theorem zFt {id:Int} {l:List Ly} {k:Nat} {x:Ly} (h:l[k]? = some x):(WX id l k).set k (zW id x)=WX id l (k+1):=by
 have hlt:=(List.getElem?_eq_some_iff.1 h).1
 have hd:l.drop k=x::l.drop (k+1):=by
  rw [List.drop_eq_getElem_cons hlt,(List.getElem?_eq_some_iff.1 h).2]
 unfold WX
 rw [hd,List.set_append_right _ _ (by simp;omega),List.take_add_one,h]
 simp [Nat.min_eq_left (Nat.le_of_lt hlt)]
theorem HC {r:Rm} {s sn:List UInt8} (hr:OkR r) (hs:sn.length≤1000000000)
  (h3:((wsP r s).2 == 0)=true→(gG r sn == 0)=true→(gO r (wsP r s).1.i == 0)=true→OkR ⟨bX r.N sn (wsP r s).1.i,mX r.L (wsP r s).1.i,r.E,r.x⟩ ∧
   OkR ⟨bX (bX r.N sn (wsP r s).1.i) s r.x,mX r.L (wsP r s).1.i++[⟨r.x,(wsP r s).1.i,0,false⟩],mW r.E r.x [],r.x+1⟩∧OkG (mX r.L (wsP r s).1.i++[⟨r.x,(wsP r s).1.i,0,false⟩])):
  aA Tryz.prog 12 [.c (.ptr 0 0),.c (.p (.s s)),.c (.p (.s sn))] (bH r) fun d h=>d=.c (.p (.i .i64 (lP r s sn).2))∧h=fO (lP r s sn).1:=by
 have hws:=RX (s:=s) hr
 have hfr:=qB (s:=sn) hr hs
 have hdp:=oR (a:=(wsP r s).1.i) hr
 have hpu:=KT (r:=⟨r.N,mX r.L (wsP r s).1.i,r.E,r.x⟩) (s:=sn) (n:=(wsP r s).1.i) (by have:=hr.nl;simp only;omega) hr.srt
 have had:=fun h0 h1 h2=>rH (r:=⟨bX r.N sn (wsP r s).1.i,mX r.L (wsP r s).1.i,r.E,r.x⟩) (s:=s) (i0:=0) (p:=(wsP r s).1.i) (q:=0) (es:=[]) h0 h1 h2
 have hll:=hr.ll
 unfold lP
 generalize wsP r s=y at *
 obtain ⟨⟨yi,yp,yq,yf⟩,e⟩:=y
 simp only [Ly.cv] at *
 generalize gG r sn=e2 at *
 generalize gO r yi=e3 at *
 have bad:∀ {c:List CV} {e:Int},aA Tryz.prog 12 [.c (.ptr 0 0),.c (.p (.s s)),.c (.p (.s sn))] (bH r) (fun d h=>d=.c (.p (.i .i64 e))∧h=bH r++[.box c])→aA Tryz.prog 12 [.c (.ptr 0 0),.c (.p (.s s)),.c (.p (.s sn))] (bH r) (fun d h=>d=.c (.p (.i .i64 e))∧h=fO r):=fun {c e} hc =>
  aA.perm [0,5,6,7,1,2,3] hc rfl rfl (by unfold fO bH;exact (by simp only [eO,fJ,fL,eP,jS];(repeat' (first|exact rfl|exact True.intro|refine And.intro ?_ ?_))))
 cases he:(e == 0)
 ·have hb:(e != 0)=true:=by rw [bne,he];rfl
  simp only [Bool.not_false,if_true]
  refine bad (c:=[.p (.i .i64 yi),.p (.i .i64 yp),.p (.i .i64 yq),.p (.b yf)]) ?_
  clear had h3 hfr hdp hpu
  refine sK aB aK Tryz.func12 rfl rfl fun X0 hX=>?_
  simp only [Tryz.f12,go_sem]
  repeat' (first|simp only [*,go_sem,Nat.reduceLT,Nat.reduceLeDiff,Nat.reduceEqDiff,↓reduceIte,Nat.reduceAdd]|((with_reducible refine aL [0,1,2,3] (hws) ?_ ?_ ?_ ?_);exact rfl;exact rfl;(focus ((simp only [go_sem];done)))))
 ·have hb:(e != 0)=false:=by rw [bne,he];rfl
  simp only [Bool.not_true,Bool.false_eq_true,if_false]
  cases he2:(e2 == 0)
  ·have hb2:(e2 != 0)=true:=by rw [bne,he2];rfl
   simp only [Bool.not_false,if_true]
   refine bad (c:=[.p (.i .i64 yi),.p (.i .i64 yp),.p (.i .i64 yq),.p (.b yf)]) ?_
   clear had h3 hdp hpu
   refine sK aB aK Tryz.func12 rfl rfl fun X0 hX=>?_
   simp only [Tryz.f12,go_sem]
   repeat' (first|simp only [*,go_sem,Nat.reduceLT,Nat.reduceLeDiff,Nat.reduceEqDiff,↓reduceIte,Nat.reduceAdd]|((with_reducible refine aL [0,1,2,3] (hws) ?_ ?_ ?_ ?_);exact rfl;exact rfl;(focus ((simp only [go_sem];done))))|((with_reducible refine aL [0,1,2,3] (hfr) ?_ ?_ ?_ ?_);exact rfl;exact rfl;(focus ((simp only [go_sem];done)))))
  ·have hb2:(e2 != 0)=false:=by rw [bne,he2];rfl
   simp only [Bool.not_true,Bool.false_eq_true,if_false]
   cases he3:(e3 == 0)
   ·have hb3:(e3 != 0)=true:=by rw [bne,he3];rfl
    simp only [Bool.not_false,if_true]
    refine bad (c:=[.p (.i .i64 yi),.p (.i .i64 yp),.p (.i .i64 yq),.p (.b yf)]) ?_
    clear had h3 hpu
    refine sK aB aK Tryz.func12 rfl rfl fun X0 hX=>?_
    simp only [Tryz.f12,go_sem]
    repeat' (first|simp only [*,go_sem,Nat.reduceLT,Nat.reduceLeDiff,Nat.reduceEqDiff,↓reduceIte,Nat.reduceAdd]|((with_reducible refine aL [0,1,2,3] (hws) ?_ ?_ ?_ ?_);exact rfl;exact rfl;(focus ((simp only [go_sem];done))))|((with_reducible refine aL [0,1,2,3] (hfr) ?_ ?_ ?_ ?_);exact rfl;exact rfl;(focus ((simp only [go_sem];done))))|((with_reducible refine aL [0,1,2,3] (hdp) ?_ ?_ ?_ ?_);exact rfl;exact rfl;(focus ((simp only [go_sem];done)))))
   ·have hb3:(e3 != 0)=false:=by rw [bne,he3];rfl
    simp only [Bool.not_true,Bool.false_eq_true,if_false]
    obtain ⟨k0,k1,k2⟩:=h3 he he2 he3
    have hadd:=aA.wkA (args:=[.c (.ptr 0 0),.c (.p (.s s)),.agg [.p (.i .i64 0),.p (.i .i64 yi),.p (.i .i64 0),.p (.b false)],.c (.p .nil)]) (args':=[.c (.ptr 0 0),.c (.p (.s s)),.agg [.p (.i .i64 0),.p (.i .i64 yi),.p (.i .i64 0),.p (.b false)],.c (.p (.sl 7 (gN [])))]) ⟨rfl,zAc,⟨wkP.rfl,wkP.rfl,wkP.rfl,wkP.rfl,True.intro⟩,zDR,True.intro⟩ (had k0 k1 k2)
    clear had h3 k0 k1 k2
    have hgl:(mX r.L yi).length=r.L.length:=by simp [mX]
    unfold XO bH at hpu
    unfold bH at hadd
    simp only [hgl] at hpu hadd
    generalize ZJ ⟨bX r.N sn yi,mX r.L yi,r.E,r.x⟩ s yi 0 []=c at hadd ⊢
    generalize bX r.N sn yi=M at hpu hadd
    refine aA.perm [0,1,2,3,6,7,8] (d1:=.c (.p (.i .i64 0))) (h1:=[.box [.own 6 0 c.N.length,.own 7 0 c.L.length,.mp 8,.p (.i .i64 c.x)],.dead,.dead,.dead,.box [.p (.i .i64 yi),.p (.i .i64 yp),.p (.i .i64 yq),.p (.b yf)],.dead,.arr 2 (bW c.N) false,.arr 4 (dS c.L) false,.mp (wC c.E)]) ?_ rfl rfl (by unfold fO;exact (by simp only [eO,fJ,fL,eP,jS];(repeat' (first|exact rfl|exact True.intro|refine And.intro ?_ ?_))))
    have hLz:=zB5 yi r.L
    refine sK aB aK Tryz.func12 rfl rfl fun X0 hX=>?_
    simp only [Tryz.f12,go_sem]
    repeat' (first|simp only [*,go_sem,Nat.reduceLT,Nat.reduceLeDiff,Nat.reduceEqDiff,↓reduceIte,Nat.reduceAdd]|((with_reducible refine aL [0,1,2,3] (hws) ?_ ?_ ?_ ?_);exact rfl;exact rfl;(focus ((simp only [go_sem];done))))|((with_reducible refine aL [0,1,2,3] (hfr) ?_ ?_ ?_ ?_);exact rfl;exact rfl;(focus ((simp only [go_sem];done))))|((with_reducible refine aL [0,1,2,3] (hdp) ?_ ?_ ?_ ?_);exact rfl;exact rfl;(focus ((simp only [go_sem];done)))))
    refine gW aB aK (α:=Nat) (fun k=>⟨82,[(0,.c (.ptr 0 0)),(1,.c (.p (.s s))),(2,.c (.p (.s sn))),(7,.c (.ptr 4 0)),(38,.c (.p (.i .i64 r.L.length))),(39,.c (.p (.i .i64 k)))],[.box [.own 1 0 r.N.length,.own 2 0 r.L.length,.mp 3,.p (.i .i64 r.x)],.arr 2 (bW r.N) false,.arr 4 (dS (WX yi r.L k)) false,.mp (wC r.E),.box [.p (.i .i64 yi),.p (.i .i64 yp),.p (.i .i64 yq),.p (.b yf)]]⟩)
     (fun k=>k≤r.L.length) (fun k=>r.L.length-k) 0 (Nat.zero_le _) (fQ (by rw [hLz];exact aJ (by rw [hX];rfl) rfl rfl (by simp only [aI,aM];(repeat' (first|exact rfl|exact True.intro|refine And.intro ?_ ?_))))) ?_
    intro k hk
    have hkl:=zD6 yi r.L k
    by_cases hlt:k<r.L.length
    ·have hx:r.L[k]? = some r.L[k]:=List.getElem?_eq_getElem hlt
     have hg:=pX (zIq (id:=yi) hx)
     have hst:=zFt (id:=yi) hx
     have h1:decide ((k:Int)<(r.L.length:Int))=true:=decide_eq_true (by omega)
     have h2:(k:Int)<(r.L.length:Int):=by omega
     have h4:(0:Int)≤k:=by omega
     have w1:IntKind.i64.wrap ((k:Int)+1)=k+1:=wrap_i64 (by omega) (by omega)
     generalize r.L[k]=x at hx hg hst
     obtain ⟨xi,xp,xs,xf⟩:=x
     simp only [zW] at hg hst
     clear hx hpu hadd hws hfr hdp hLz
     have b1:k<(WX yi r.L k).length:=by omega
     cases xf
     ·cases hq:(xi == yi)
      all_goals rw [hq] at hst
      all_goals simp only [Bool.or_false,Bool.false_or] at hst
      all_goals have hst:=PLift.up hst
      all_goals clear b1
      all_goals repeat' (first|simp only [*,go_sem,Nat.reduceLT,Nat.reduceEqDiff,↓reduceIte,Nat.reduceAdd]|((refine aN (id:=13) aB aK [28] [0,1,2,3,4,5,6,7,8,9,10,11,12,13,14,15,16,17,18,19,20,21,22,23,24,25,26,27,28] (by decide +kernel) ?_);(repeat' (first|(refine aW ?_)|((refine cX ?_ ?_ rfl rfl rfl ?_ ?_);(rotate_left 2);(focus ((repeat' (simp only [*,go_sem,Nat.reduceLeDiff,Nat.reduceEqDiff,↓reduceIte,Nat.reduceAdd]));((refine And.intro ?_ ?_ <;> exact rfl))));(simp only [bK]))|((refine cY ?_ rfl rfl rfl ?_ ?_);(rotate_left 1);(focus ((repeat' (first|exact bJ|refine aZ ?_ ?_));(all_goals ((repeat' (simp only [*,go_sem,Nat.reduceLT,Nat.reduceEqDiff,↓reduceIte]));(try (exact rfl))))));(simp only [aF]))))))
      all_goals exact AM (k+1) (by omega) (by omega) (by rw [← hst.down];exact fQ (aJ rfl rfl rfl (by simp only [aI,aM];(repeat' (first|exact rfl|exact True.intro|refine And.intro ?_ ?_)))))
     ·simp only [Bool.true_or] at hst
      have hst:=PLift.up hst
      clear b1
      repeat' (first|simp only [*,go_sem,Nat.reduceLT,Nat.reduceEqDiff,↓reduceIte,Nat.reduceAdd]|((refine aN (id:=13) aB aK [28] [0,1,2,3,4,5,6,7,8,9,10,11,12,13,14,15,16,17,18,19,20,21,22,23,24,25,26,27,28] (by decide +kernel) ?_);(repeat' (first|(refine aW ?_)|((refine cX ?_ ?_ rfl rfl rfl ?_ ?_);(rotate_left 2);(focus ((repeat' (simp only [*,go_sem,Nat.reduceLeDiff,Nat.reduceEqDiff,↓reduceIte,Nat.reduceAdd]));((refine And.intro ?_ ?_ <;> exact rfl))));(simp only [bK]))|((refine cY ?_ rfl rfl rfl ?_ ?_);(rotate_left 1);(focus ((repeat' (first|exact bJ|refine aZ ?_ ?_));(all_goals ((repeat' (simp only [*,go_sem,Nat.reduceLT,Nat.reduceEqDiff,↓reduceIte]));(try (exact rfl))))));(simp only [aF]))))))
      exact AM (k+1) (by omega) (by omega) (by rw [← hst.down];exact fQ (aJ rfl rfl rfl (by simp only [aI,aM];(repeat' (first|exact rfl|exact True.intro|refine And.intro ?_ ?_)))))
    ·have hke:k=r.L.length:=by omega
     subst hke
     rw [zFB]
     have h1:decide ((r.L.length:Int)<(r.L.length:Int))=false:=decide_eq_false (by omega)
     clear hws hfr hdp hkl hLz
     generalize mX r.L yi=G at hpu hadd
     repeat' (first|simp only [*,go_sem,Nat.reduceLT,Nat.reduceLeDiff,Nat.reduceEqDiff,↓reduceIte,Nat.reduceAdd,Nat.reduceSub]|((with_reducible refine aL [0,1,2,3] (hpu) ?_ ?_ ?_ ?_);exact rfl;exact rfl;(focus ((simp only [go_sem];done))))|((with_reducible refine aL [0,5,2,3] (hadd) ?_ ?_ ?_ ?_);exact rfl;exact rfl;(focus ((simp only [go_sem];done)))))
end
end Go.Proofs.YtbpblnmhlhpebaaGreatDoor
namespace Go.Dm
open Go
section
theorem SimW.okR {r:Rm} {d:Dr} (h:SimW r d) (hl:d.L.length≤900):OkR r where
 srt:=by rw [h.N];exact h.srt
 nl:=by rw [h.N];have:=h.ln;omega
 ll:=by rw [h.L];simpa [Dr.G] using hl
 ent:=fun x hx=>by
  rw [h.L] at hx
  obtain ⟨y,hy,rfl⟩:=EO.1 hx
  rw [h.e y hy]
  exact PI (h.toOkW.tree _) (h.t y hy)
 x:=by rw [h.x];have:=h.nx.2;omega
theorem Sim.okR {r:Rm} {d:Dr} (h:Sim r d):OkR r:=h.toSimW.okR (by have:=h.len;omega)
theorem Sim.okG {r:Rm} {d:Dr} (h:Sim r d):OkG r.L:=by rw [h.L];exact h.g
theorem Sim.okT {r:Rm} {d:Dr} (h:Sim r d) (id:Int):OkT (treeR r id):=by rw [h.toSimW.treeR];exact h.toOkW.tree id
theorem vW {r:Rm} {d:Dr} (h:SimW r d) (hl:d.L.length≤800) {s:List UInt8} {p q:Int} {t:List It} (hs:bF s=true) (hp:AE d p) (hq:q=0∨(p≠q∧AE d q)) (hc:(bO d.G p).length≤11) (ht:OkT t)
  (hx:d.x<2147483647) (hn:(bX d.N s d.x).length≤20):OkR ⟨bX r.N s r.x,r.L++[⟨r.x,p,q,false⟩],mW r.E r.x (dY (treeR r p) t),r.x+1⟩∧OkG (r.L++[⟨r.x,p,q,false⟩]):=by
 have hw:=HN h hs hp hq hc ht hx hn
 rw [h.treeR]
 refine ⟨hw.okR ?_,?_⟩
 ·show (d.L++[_]).length≤900
  rw [List.length_append];simp only [List.length_cons,List.length_nil];omega
 ·have h1:=hw.g
  rw [← hw.L] at h1
  exact h1
theorem zJ5 {r:Rm} {d:Dr} (h:Sim r d) {s:List UInt8} (h1:((snP r s).2 == 0)=true):∃ n y,sV d.N s=some n∧y∈d.L∧snP r s=(y.1,0)∧pR d y.1.i=some y∧y.1.f=true:=by
 unfold snP at h1 ⊢
 cases hn:sV d.N s with
 | none =>
  obtain ⟨k1,_⟩:=dG h.toSimW hn
  rw [k1] at h1;cases h1
 | some n =>
  obtain ⟨y,hy,g1,g2,g3,g4,g5⟩:=dF h.toSimW hn
  rw [g1] at h1 ⊢
  cases hf:y.1.f
  ·rw [hf] at h1;cases h1
  ·exact ⟨n,y,rfl,hy,by rw [show ((0:Int) == 0 && !true)=false from rfl];rfl,g3,hf⟩
theorem zJL {r:Rm} {d:Dr} (h:Sim r d) {s:List UInt8} (h1:((wsP r s).2 == 0)=true):∃ n y,sV d.N s=some n∧y∈d.L∧wsP r s=(y.1,0)∧pR d y.1.i=some y∧y.1.f=false∧y.1.i=n.l:=by
 unfold wsP at h1 ⊢
 cases hn:sV d.N s with
 | none =>
  obtain ⟨k1,_⟩:=dG h.toSimW hn
  rw [k1] at h1;cases h1
 | some n =>
  obtain ⟨y,hy,g1,g2,g3,g4,g5⟩:=dF h.toSimW hn
  rw [g1] at h1 ⊢
  cases hf:y.1.f
  ·exact ⟨n,y,rfl,hy,by rw [show ((0:Int) == 0 && false)=false from rfl];rfl,g3,hf,g4⟩
  ·rw [hf] at h1;cases h1
theorem DW {r:Rm} {d:Dr} (h:SimW r d) {on:Int} (h3:(gO r on == 0)=true):(bO d.G on).length≤11:=by
 rw [lM h] at h3
 exact oI (by simpa using h3)
theorem zEx {r:Rm} {d:Dr} (h:Sim r d) {sn s:List UInt8} (h1:((snP r sn).2 == 0)=true) (h2:(gG r s == 0)=true) (h3:(gO r (snP r sn).1.i == 0)=true):
  OkR ⟨bX r.N s r.x,r.L++[⟨r.x,(snP r sn).1.i,0,false⟩],mW r.E r.x [],r.x+1⟩∧OkG (r.L++[⟨r.x,(snP r sn).1.i,0,false⟩]):=by
 obtain ⟨n,y,hn,hy,e,g3,hf⟩:=zJ5 h h1
 rw [e] at h3 ⊢
 rw [oE h.toSimW] at h2
 obtain ⟨f1,f2,f3,f4,f5⟩:=oU h2
 have:=vW (s:=s) (p:=y.1.i) (q:=0) (t:=y.2) h.toSimW (by have:=h.len;omega) f1 ⟨y,hy,rfl,hf⟩ (.inl rfl) (DW h.toSimW h3) (h.t y hy) f5 (by have:=hY d.N s d.x;omega)
 rwa [h.toSimW.treeR,eE g3,rT (h.t y hy)] at this
theorem XI {r:Rm} {d:Dr} (h:Sim r d) {s sn:List UInt8} (h1:((wsP r s).2 == 0)=true) (h2:(gG r sn == 0)=true) (h3:(gO r (wsP r s).1.i == 0)=true):
  OkR ⟨bX r.N sn (wsP r s).1.i,mX r.L (wsP r s).1.i,r.E,r.x⟩ ∧
   OkR ⟨bX (bX r.N sn (wsP r s).1.i) s r.x,mX r.L (wsP r s).1.i++[⟨r.x,(wsP r s).1.i,0,false⟩],mW r.E r.x [],r.x+1⟩∧OkG (mX r.L (wsP r s).1.i++[⟨r.x,(wsP r s).1.i,0,false⟩]):=by
 obtain ⟨n,y,hn,hy,e,g3,hf,g4⟩:=zJL h h1
 rw [e] at h3 ⊢
 rw [oE h.toSimW] at h2
 obtain ⟨f1,f2,f3,f4,f5⟩:=oU h2
 have hwf:=wR h.toSimW y.1.i
 have hmem:∀ n,n∈bX d.N sn y.1.i↔n=⟨sn,y.1.i⟩∨(n∈d.N∧n.n≠sn):=fun n=>rB h.srt
 have hwn:=tX hwf (N:=bX d.N sn y.1.i) (nK h.srt sn y.1.i) (fun m hm=>by
   rcases (hmem m).1 hm with rfl|⟨g1,_⟩
   ·exact ⟨f1,_,gB h.g.inc (id:=y.1.i) hy,rfl⟩
   ·exact hwf.nm m g1) (fun a ha b hb e hfz=>by
   have hfz2:∀ z∈d.L,z.1.i=a.l→z.1.i≠y.1.i∧z.1.f=false:=fun z hz hza=>by
    have:=hfz _ (gB h.g.inc (id:=y.1.i) hz) hza
    simp only [zW,Bool.or_eq_false_iff] at this
    exact ⟨by simpa using this.2,this.1⟩
   rcases (hmem a).1 ha with rfl|⟨g1,_⟩ <;> rcases (hmem b).1 hb with rfl|⟨g2,_⟩
   ·rfl
   ·exact absurd rfl (hfz2 y hy rfl).1
   ·exact absurd rfl (hfz2 y hy e.symm).1
   ·exact h.one a g1 b g2 e fun z hz hza=>(hfz2 z hz hza).2) (by have:=hY d.N sn y.1.i;omega)
 have hwn:SimW ⟨bX d.N sn y.1.i,mX r.L y.1.i,r.E,r.x⟩ ⟨yZ y.1.i d.L,bX d.N sn y.1.i,d.x⟩:=hwn
 have hlen:(yZ y.1.i d.L).length=d.L.length:=by rw [oS h.g.inc,List.length_map]
 have hsn:bF s=true:=by
  obtain ⟨g1,g2⟩:=fC hn
  rw [← g2];exact (h.nm n g1).1
 have hfa:AE ⟨yZ y.1.i d.L,bX d.N sn y.1.i,d.x⟩ y.1.i:=⟨_,gB h.g.inc (id:=y.1.i) hy,rfl,by show (y.1.f || y.1.i == y.1.i)=true;simp⟩
 have hGeq:(⟨yZ y.1.i d.L,bX d.N sn y.1.i,d.x⟩:Dr).G=mX d.G y.1.i:=zDt h.g.inc y.1.i
 have hne:sn≠s:=fun e=>by
  subst e
  have:=h.toOkW.name0 sn
  rw [f2,hn] at this
  cases this
 have hin:(⟨n.n,n.l⟩:Nm)∈bX d.N sn y.1.i:=by
  obtain ⟨g1,g2⟩:=fC hn
  exact (hmem _).2 (.inr ⟨g1,by rw [g2];exact fun e=>hne e.symm⟩)
 have hlen2:(bX (bX d.N sn y.1.i) s d.x).length≤20:=by
  obtain ⟨g1,g2⟩:=fC hn
  rw [← g2,nY (nK h.srt sn y.1.i) hin]
  have:=hY d.N sn y.1.i
  rw [List.length_set];omega
 have e0:cQ ⟨yZ y.1.i d.L,bX d.N sn y.1.i,d.x⟩ y.1.i=y.2:=(EG h.toOkW y.1.i y.1.i).trans (eE g3)
 have hl:=h.len
 have:=vW (s:=s) (p:=y.1.i) (q:=0) (t:=y.2) hwn (by show (yZ y.1.i d.L).length≤800;omega) hsn hfa (.inl rfl) (by rw [hGeq,wL];exact DW h.toSimW h3) (h.t y hy) f5 hlen2
 rw [hwn.treeR,e0,rT (h.t y hy)] at this
 rw [h.N]
 exact ⟨hwn.okR (by show (yZ y.1.i d.L).length≤900;omega),this⟩
theorem zHs {r:Rm} {d:Dr} (h:Sim r d) {o t:List UInt8} (h1:((eA r o t).2.2 == 0)=true):∃ y z,y∈d.L∧z∈d.L∧eA r o t=(y.1,z.1,0)∧pR d y.1.i=some y∧pR d z.1.i=some z∧y.1.f=true∧z.1.f=true:=by
 unfold eA at h1 ⊢
 cases hn:sV d.N o with
 | none =>
  obtain ⟨k1,_⟩:=dG h.toSimW hn
  rw [k1] at h1;cases h1
 | some n =>
  obtain ⟨y,hy,g1,g2,g3,g4,g5⟩:=dF h.toSimW hn
  rw [g1] at h1 ⊢
  cases hm:sV d.N t with
  | none =>
   obtain ⟨k1,_⟩:=dG h.toSimW hm
   rw [k1] at h1;cases h1
  | some m =>
   obtain ⟨z,hz,k1,k2,k3,k4,k5⟩:=dF h.toSimW hm
   rw [k1] at h1 ⊢
   cases hf:y.1.f <;> cases hf2:z.1.f
   ·rw [hf,hf2] at h1;cases h1
   ·rw [hf,hf2] at h1;cases h1
   ·rw [hf,hf2] at h1;cases h1
   ·exact ⟨y,z,hy,hz,rfl,g3,k3,hf,hf2⟩
theorem zAi {r:Rm} {d:Dr} (h:Sim r d) {o t s:List UInt8} (h1:((eA r o t).2.2 == 0)=true) (h2:(gG r s == 0)=true) (h3:(gO r (eA r o t).1.i == 0)=true) {w:List It} (hw:OkT w) {q:Int} (hq:q=if (eA r o t).1.i == (eA r o t).2.1.i then 0 else (eA r o t).2.1.i):
  OkR ⟨bX r.N s r.x,r.L++[⟨r.x,(eA r o t).1.i,q,false⟩],mW r.E r.x (dY (treeR r (eA r o t).1.i) w),r.x+1⟩∧OkG (r.L++[⟨r.x,(eA r o t).1.i,q,false⟩]):=by
 obtain ⟨y,z,hy,hz,e,g3,g4,hf,hf2⟩:=zHs h h1
 rw [e] at h3 hq ⊢
 rw [oE h.toSimW] at h2
 obtain ⟨f1,f2,f3,f4,f5⟩:=oU h2
 refine vW h.toSimW (by have:=h.len;omega) f1 ⟨y,hy,rfl,hf⟩ ?_ (DW h.toSimW h3) hw f5 (by have:=hY d.N s d.x;omega)
 by_cases hyz:y.1.i=z.1.i
 ·left;rw [hq,if_pos (by simpa using hyz)]
 ·right
  rw [hq,if_neg (by simpa using hyz)]
  exact ⟨hyz,z,hz,rfl,hf2⟩
theorem YY {r:Rm} {d:Dr} (h:Sim r d) {s o:List UInt8} (h1:((wsP r s).2 == 0)=true) (h2:((snP r o).2 == 0)=true) (h3:(gO r (snP r o).1.i == 0)=true) {w:List It} (hw:OkT w) (hx:r.x<2147483647):
  OkR ⟨bX r.N s r.x,r.L++[⟨r.x,(snP r o).1.i,0,false⟩],mW r.E r.x (dY (treeR r (snP r o).1.i) w),r.x+1⟩∧OkG (r.L++[⟨r.x,(snP r o).1.i,0,false⟩]):=by
 obtain ⟨n,y,hn,hy,e,g3,hf,g4⟩:=zJL h h1
 obtain ⟨m,z,hm,hz,e2,k3,kf⟩:=zJ5 h h2
 rw [e2] at h3 ⊢
 obtain ⟨g1,g2⟩:=fC hn
 have hsn:bF s=true:=by rw [← g2];exact (h.nm n g1).1
 refine vW h.toSimW (by have:=h.len;omega) hsn ⟨z,hz,rfl,kf⟩ (.inl rfl) (DW h.toSimW h3) hw (by rw [← h.x];exact hx) ?_
 rw [← g2,nY h.srt g1,List.length_set]
 exact h.ln
theorem BU {r:Rm} {d:Dr} (h:Sim r d) (a b c:Int) (he:(eZ (treeR r a) (treeR r b) (treeR r c)).2.2=0):OkT (eZ (treeR r a) (treeR r b) (treeR r c)).1:=by
 have ha:=h.okT a
 have hb:=h.okT b
 have hc:=h.okT c
 unfold eZ at he ⊢
 split at he
 ·cases he
 ·rename_i h1
  split at he
  ·cases he
  ·rename_i h2
   rw [if_neg h1,if_neg h2]
   exact wZ ha hb hc (by simp only [decide_eq_true_eq] at h1;omega) (by simp only [decide_eq_true_eq] at h2;omega)
theorem BI {r:Rm} {d:Dr} (h:Sim r d) (s:List UInt8):OkT (eD r s).1:=by rw [iS h.toSimW];exact zAd h.toOkW s
theorem zJX {r:Rm} {d:Dr} (h:Sim r d) (s:List UInt8) {c:Cl} (hc:c.t<18446744073709551616):OkT (treeR r (bQ r s).1.i)∧OkT (treeR r (bQ r s).1.p)∧OkT (doP (treeR r (bQ r s).1.i) c).1 :=
 ⟨h.okT _,h.okT _,zKG (h.okT _) hc⟩
theorem zEX {r:Rm} {d:Dr} (h:Sim r d) (s:List UInt8):OkR ⟨oB r.N s,r.L,r.E,r.x⟩ :=
 have k:=h.okR
 ⟨LV k.srt s,Nat.le_trans (MP _ _) k.nl,k.ll,k.ent,k.x⟩
end
end Go.Dm
namespace Go.Proofs.YtbpblnmhlhpebaaGreatDoor
open Go Go.Dm Go.Proofs
section
section
variable {r r':Rm} {d:Dr} {e:Int}
theorem jZ {s sn:List UInt8} (h:Sim r d) (hs:sn.length≤1000000000) (he:lP r s sn=(r',e)):aA Tryz.prog 12 [.c (.ptr 0 0),.c (.p (.s s)),.c (.p (.s sn))] (bH r) fun d h=>d=.c (.p (.i .i64 e))∧h=fO r':=by
 have:=HC (s:=s) h.okR hs fun a b c=>XI h a b c
 rw [he] at this
 exact this
theorem zGL {sn s:List UInt8} (h:Sim r d) (hs:s.length≤1000000000) (he:LP r sn s=(r',e)):aA Tryz.prog 13 [.c (.ptr 0 0),.c (.p (.s sn)),.c (.p (.s s))] (bH r) fun d h=>d=.c (.p (.i .i64 e))∧h=fO r':=by
 have:=YV (sn:=sn) h.okR hs fun a b c=>zEx h a b c
 rw [he] at this
 exact this
theorem do_e {s:List UInt8} {ck:Int} {cp cq:List UInt8} {cm:Int} {ct:Nat} {ca cn:Int} {cd:List UInt8} {a:An} (h:Sim r d) (hct:ct<18446744073709551616) (hcp:cp.length≤9223372036854775807)
  (hcd:cd.length≤140737488355328) (hcq:cq.length≤9223372036854775807) (hca:-9223372036854775808≤ca∧ca≤9223372036854775807) (he:zD1 r s ⟨ck,cp,cq,cm,ct,ca,cn,cd⟩=(r',a)):
  aA Tryz.prog 17 [.c (.ptr 0 0),.c (.p (.s s)),.agg (clc ck cp cq cm ct ca cn cd)] (bH r) fun d h=>d=.agg (anv a)∧h=bH r':=by
 have:=zFH (s:=s) (ck:=ck) (cm:=cm) (cn:=cn) h.okR hct hcp hcd hcq hca fun _=>zJX h s (c:=⟨ck,cp,cq,cm,ct,ca,cn,cd⟩) hct
 rw [he] at this
 exact this
theorem zCW {s:List UInt8} {t:List It} (h:Sim r d) (he:eD r s=(t,e)):aA Tryz.prog 15 [.c (.ptr 0 0),.c (.p (.s s))] (bH r) fun d h=>d=.tup [.c (.p (.sl 5 (aV t))),.c (.p (.i .i64 e))]∧h=bH r:=by
 have:=tU (s:=s) h.okR
 rw [he] at this
 exact this
theorem zJO {a b:List UInt8} {l:List Ch} (h:Sim r d) (he:AV r a b=(l,e)):aA Tryz.prog 21 [.c (.ptr 0 0),.c (.p (.s a)),.c (.p (.s b))] (bH r) fun d h=>d=.tup [.c (.p (.sl 10 (oJ l))),.c (.p (.i .i64 e))]∧h=bH r:=by
 have:=YN (a:=a) (b:=b) h.okR fun _ _=>⟨BI h a,BI h b⟩
 rw [he] at this
 exact this
theorem zDd {o t s:List UInt8} {F:List Cf} (h:Sim r d) (hs:s.length≤1000000000) (he:mK r o t s=(r',F,e)):aA Tryz.prog 19 [.c (.ptr 0 0),.c (.p (.s o)),.c (.p (.s t)),.c (.p (.s s))] (bH r) fun d h=>d=.tup [.c (.p (.sl 2 (fS F))),.c (.p (.i .i64 e))]∧h=fO r':=by
 have:=PK (o:=o) (t:=t) h.okR h.okG hs h.okT (fun a b c w hw q hq=>zAi h a b c hw hq) fun a b c=>BU h a b c
 rw [he] at this
 exact this
theorem zFS {s o:List UInt8} {F:List Cf} (h:Sim r d) (he:iQ r s o=(r',F,e)):aA Tryz.prog 20 [.c (.ptr 0 0),.c (.p (.s s)),.c (.p (.s o))] (bH r) fun d h=>d=.tup [.c (.p (.sl 2 (fS F))),.c (.p (.i .i64 e))]∧h=fO r':=by
 have:=LF (s:=s) (o:=o) h.okR h.okT (fun a b c w hw hx=>YY h a b c hw hx) fun a b c=>BU h a b c
 rw [he] at this
 exact this
end
end
end Go.Proofs.YtbpblnmhlhpebaaGreatDoor
namespace Go.Dm
open Go
section
section steps
variable {r:Rm} {d d':Dr}
theorem eY {s sn:List UInt8} {e:Int} (h:Sim r d) (he:fH d s sn=(d',e)):∃ r',lP r s sn=(r',e)∧Sim r' d':=by
 obtain ⟨h1,h2⟩:=YM h s sn
 rw [he] at h1 h2
 exact ⟨_,Prod.ext rfl h1,h2⟩
theorem JA {s sn:List UInt8} {e:Int} (h:Sim r d) (he:XU d sn s=(d',e)):∃ r',LP r sn s=(r',e)∧Sim r' d':=by
 obtain ⟨h1,h2⟩:=zEz h sn s
 rw [he] at h1 h2
 exact ⟨_,Prod.ext rfl h1,h2⟩
theorem KF {s:List UInt8} {e:Int} (h:Sim r d) (he:ZA d s=(d',e)):∃ r',JK r s=(r',e)∧Sim r' d':=by
 obtain ⟨h1,h2⟩:=zGd h s
 rw [he] at h1 h2
 exact ⟨_,Prod.ext rfl h1,h2⟩
theorem sY {s:List UInt8} {c:Cl} {a:An} (h:Sim r d) (hc:c.t<18446744073709551616) (he:doD d s c=(d',a)):∃ r',zD1 r s c=(r',a)∧Sim r' d':=by
 obtain ⟨h1,h2⟩:=zJB h s hc
 rw [he] at h1 h2
 exact ⟨_,Prod.ext rfl h1,h2⟩
theorem BR {o t s:List UInt8} {e:List Cf × Int} (h:Sim r d) (he:uJ d o t s=(d',e)):∃ r',mK r o t s=(r',e)∧Sim r' d':=by
 obtain ⟨h1,h2⟩:=zCD h o t s
 rw [he] at h1 h2
 exact ⟨_,Prod.ext rfl h1,h2⟩
theorem NP {s o:List UInt8} {e:List Cf × Int} (h:Sim r d) (he:pS d s o=(d',e)):∃ r',iQ r s o=(r',e)∧Sim r' d':=by
 obtain ⟨h1,h2⟩:=YK h s o
 rw [he] at h1 h2
 exact ⟨_,Prod.ext rfl h1,h2⟩
end steps
def v1S:List UInt8:=[118,49]
def mkS (p:List UInt8):Cl:=⟨1,p,[],493,0,0,0,[]⟩
theorem PJ:∃ (r1 r2 r3:Rm) (d1 d2 d3:Dr) (a b:An),lP zKC dP v1S=(r1,0)∧Sim r1 d1∧zD1 r1 v1S (mkS [97])=(r2,a)∧a.e=14∧Sim r2 d2∧zD1 r2 dP (mkS [97])=(r3,b)∧b.e=0∧Sim r3 d3∧r3.N.length=2∧r3.x=4:=by
 obtain ⟨r1,e1,s1⟩:=eY (d':=(fH GQ dP v1S).1) (e:=0) (s:=dP) (sn:=v1S) FM (Prod.ext rfl (by decide +kernel))
 obtain ⟨r2,e2,s2⟩:=sY (s:=v1S) (c:=mkS [97]) s1 (by decide) (Prod.ext rfl rfl:_=((doD (fH GQ dP v1S).1 v1S (mkS [97])).1,(doD (fH GQ dP v1S).1 v1S (mkS [97])).2))
 obtain ⟨r3,e3,s3⟩:=sY (s:=dP) (c:=mkS [97]) s2 (by decide) (Prod.ext rfl rfl:_=((doD (doD (fH GQ dP v1S).1 v1S (mkS [97])).1 dP (mkS [97])).1,(doD (doD (fH GQ dP v1S).1 v1S (mkS [97])).1 dP (mkS [97])).2))
 exact ⟨r1,r2,r3,_,_,_,_,_,e1,s1,e2,by decide +kernel,s2,e3,by decide +kernel,s3,by rw [s3.N];decide +kernel,by rw [s3.x];decide +kernel⟩
end
end Go.Dm
namespace Go.Proofs.YtbpblnmhlhpebaaGreatDoor
open Go Go.Dm Go.Proofs
section
theorem ML:aA Tryz.prog 7 [] [] fun d h=>d=.c (.ptr 0 0)∧h=bH zKC:=by
 refine aA.perm [3,0,1,2] (d1:=.c (.ptr 3 0)) (h1:=[.arr 2 (bW zKC.N) false,.arr 4 (dS zKC.L) false,.mp [],.box [.own 0 0 1,.own 1 0 2,.mp 2,.p (.i .i64 3)]]) ?_ rfl rfl (by unfold bH;exact (by simp only [eO,fL,eP,jS];(repeat' (first|exact rfl|exact True.intro|refine And.intro ?_ ?_))))
 refine sK aB aK Tryz.func7 rfl rfl fun X0 hX=>?_
 simp only [Tryz.f7,go_sem]
 repeat' (first|simp only [*,go_sem,Nat.reduceLT,Nat.reduceLeDiff,Nat.reduceEqDiff,↓reduceIte,Nat.reduceAdd,Nat.reduceMul]|((with_reducible refine And.intro ?_ ?_);decide))
 all_goals rfl
theorem FL {p:List UInt8}:aA Tryz.prog 18 [.c (.p (.s p))] [] fun r h=>r=.agg (clc 1 p [] 493 0 0 0 [])∧h=[]:=by
 refine aX ?_
 refine ent aB aK Tryz.func18 rfl rfl fun X0 hX=>?_
 simp only [Tryz.f18,go_sem]
 repeat' (simp only [*,go_sem,Nat.reduceLT,Nat.reduceLeDiff,Nat.reduceEqDiff,↓reduceIte,Nat.reduceAdd])
 all_goals (repeat' (exact .inr ⟨_,rfl⟩))
theorem zJw {r r':Rm} {d:Dr} {s p:List UInt8} {a:An} (h:Sim r d) (hp:p.length≤1000) (he:zD1 r s (mkS p)=(r',a)):
  aA Tryz.prog 17 [.c (.ptr 0 0),.c (.p (.s s)),.agg (clc 1 p [] 493 0 0 0 [])] (bH r) fun d h=>d=.agg (anv a)∧h=bH r' :=
 do_e h (by decide) (by omega) (by decide) (by decide) (by decide) he
theorem zBc:aA Tryz.prog 9 [] [] fun r h=>r=.c (.p (.b true))∧h=[]:=by
 obtain ⟨r1,r2,r3,d1,d2,d3,a,b,e1,s1,e2,a2,s2,e3,b3,s3,n3,x3⟩:=PJ
 have c1:=jZ (s:=dP) (sn:=v1S) FM (by decide) e1
 have m:=FL (p:=[97])
 have c2:=zJw (s:=v1S) s1 (by decide) e2
 have c3:=zJw (s:=dP) s2 (by decide) e3
 have c4:=QX s3.okR
 have c5:=XR (r:=r3)
 obtain ⟨ae,⟨ak,am,at_,ad⟩,ab,al⟩:=a
 obtain ⟨be,⟨bk,bm,bt,bd⟩,bb,bl⟩:=b
 simp only at a2 b3
 subst a2 b3
 rw [x3] at c5
 have hn:((r3.N.length:Int) == 2)=true:=by rw [n3];rfl
 clear n3 x3
 clear e1 s1 e2 s2 e3 s3
 refine ent aB aK Tryz.func9 rfl rfl fun X0 hX=>?_
 simp only [Tryz.f9,go_sem]
 repeat' (first|simp only [*,go_sem,Nat.reduceLT,Nat.reduceEqDiff,↓reduceIte,Nat.reduceAdd,Nat.reduceSub,beq_self_eq_true,bne_self_eq_false]|((with_reducible refine aL [] (ML) ?_ ?_ ?_ ?_);exact rfl;exact rfl;(focus ((simp only [go_sem];done))))|((with_reducible refine aL [0,1,2,3] (c1) ?_ ?_ ?_ ?_);exact rfl;exact rfl;(focus ((simp only [go_sem];done))))|((with_reducible refine bP (m) ?_ ?_ ?_);exact rfl;exact fun _=>rfl)|((with_reducible refine aL [0,4,5,6] (c2) ?_ ?_ ?_ ?_);exact rfl;exact rfl;(focus ((simp only [go_sem];done))))|((with_reducible refine aL [0,4,5,6] (c3) ?_ ?_ ?_ ?_);exact rfl;exact rfl;(focus ((simp only [go_sem];done))))|((with_reducible refine aL [0,4,5,6] (c4) ?_ ?_ ?_ ?_);exact rfl;exact rfl;(focus ((simp only [go_sem];done))))|((with_reducible refine aL [0,4,5,6] (c5) ?_ ?_ ?_ ?_);exact rfl;exact rfl;(focus ((simp only [go_sem];done)))))
end
end Go.Proofs.YtbpblnmhlhpebaaGreatDoor
