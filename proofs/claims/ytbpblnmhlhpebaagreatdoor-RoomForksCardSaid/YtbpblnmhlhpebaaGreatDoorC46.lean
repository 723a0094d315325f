/- Part 47 of the proof of roomForks_card, set without needless blanks. No condition. -/
import Derived.Test.YtbpblnmhlhpebaaGreatDoorC45
set_option linter.unusedSimpArgs false
set_option linter.unusedVariables false
set_option maxRecDepth 100000
set_option maxHeartbeats 8000000
namespace Go.Proofs.YtbpblnmhlhpebaaGreatDoor
open Go Go.Dm Go.Proofs
section
def YA (id:Int) (l:List Ly) (k:Nat):List Ly:=(l.take k).map (AF id)++l.drop k
theorem zA0 (id:Int) (l:List Ly):YA id l 0=l:=by simp [YA]
theorem zEv (id:Int) (l:List Ly):YA id l l.length=mO l id:=by simp [YA,mO]
theorem zFY (id:Int) (l:List Ly) (k:Nat):(YA id l k).length=l.length:=by simp [YA];omega
theorem zHY {id:Int} {l:List Ly} {k:Nat} {x:Ly} (h:l[k]? = some x):(YA id l k)[k]? = some x:=by
 have hlt:=(List.getElem?_eq_some_iff.1 h).1
 unfold YA
 rw [List.getElem?_append_right (by simp;omega)]
 simp [Nat.min_eq_left (Nat.le_of_lt hlt),h]
theorem zFp {id:Int} {l:List Ly} {k:Nat} {x:Ly} (h:l[k]? = some x):(YA id l k).set k (AF id x)=YA id l (k+1):=by
 have hlt:=(List.getElem?_eq_some_iff.1 h).1
 have hd:l.drop k=x::l.drop (k+1):=by
  rw [List.drop_eq_getElem_cons hlt,(List.getElem?_eq_some_iff.1 h).2]
 unfold YA
 rw [hd,List.set_append_right _ _ (by simp;omega),List.take_add_one,h]
 simp [Nat.min_eq_left (Nat.le_of_lt hlt)]
theorem KG {r:Rm} {s sn:List UInt8} (hr:OkR r) (hs:sn.length≤1000000000)
  (h3:((wsP r s).2 == 0)=true→(jH r sn == 0)=true→(mL r (wsP r s).1.i == 0)=true→OkR ⟨cA r.N sn (wsP r s).1.i,mO r.L (wsP r s).1.i,r.E,r.x⟩ ∧
   OkR ⟨cA (cA r.N sn (wsP r s).1.i) s r.x,mO r.L (wsP r s).1.i++[⟨r.x,(wsP r s).1.i,0,false⟩],oQ r.E r.x [],r.x+1⟩∧OkG (mO r.L (wsP r s).1.i++[⟨r.x,(wsP r s).1.i,0,false⟩])):
  aA Tryz.prog 12 [.c (.ptr 0 0),.c (.p (.s s)),.c (.p (.s sn))] (bX r) fun d h=>d=.c (.p (.i .i64 (kC r s sn).2))∧h=pW (kC r s sn).1:=by
 have hws:=WD (s:=s) hr
 have hfr:=wQ (s:=sn) hr hs
 have hdp:=CZ (a:=(wsP r s).1.i) hr
 have hpu:=JL (r:=⟨r.N,mO r.L (wsP r s).1.i,r.E,r.x⟩) (s:=sn) (n:=(wsP r s).1.i) (by have:=hr.nl;simp only;omega) hr.srt
 have had:=fun h0 h1 h2=>MV (r:=⟨cA r.N sn (wsP r s).1.i,mO r.L (wsP r s).1.i,r.E,r.x⟩) (s:=s) (i0:=0) (p:=(wsP r s).1.i) (q:=0) (es:=[]) h0 h1 h2
 have hll:=hr.ll
 unfold kC
 generalize wsP r s=y at *
 obtain ⟨⟨yi,yp,yq,yf⟩,e⟩:=y
 simp only [Ly.cv] at *
 generalize jH r sn=e2 at *
 generalize mL r yi=e3 at *
 have bad:∀ {c:List CV} {e:Int},aA Tryz.prog 12 [.c (.ptr 0 0),.c (.p (.s s)),.c (.p (.s sn))] (bX r) (fun d h=>d=.c (.p (.i .i64 e))∧h=bX r++[.box c])→aA Tryz.prog 12 [.c (.ptr 0 0),.c (.p (.s s)),.c (.p (.s sn))] (bX r) (fun d h=>d=.c (.p (.i .i64 e))∧h=pW r):=fun {c e} hc =>
  aA.perm [0,5,6,7,1,2,3] hc rfl rfl (by unfold pW bX;exact (by simp only [gU,nR,kO,gS,qT];(repeat' (first|exact rfl|exact True.intro|refine And.intro ?_ ?_))))
 cases he:(e == 0)
 ·have hb:(e != 0)=true:=by rw [bne,he];rfl
  simp only [Bool.not_false,if_true]
  refine bad (c:=[.p (.i .i64 yi),.p (.i .i64 yp),.p (.i .i64 yq),.p (.b yf)]) ?_
  clear had h3 hfr hdp hpu
  refine WC aB aK Tryz.func12 rfl rfl fun X0 hX=>?_
  simp only [Tryz.f12,go_sem]
  repeat' (first|simp only [*,go_sem,Nat.reduceLT,Nat.reduceLeDiff,Nat.reduceEqDiff,↓reduceIte,Nat.reduceAdd]|((with_reducible refine aV [0,1,2,3] (hws) ?_ ?_ ?_ ?_);exact rfl;exact rfl;(focus ((simp only [go_sem];done)))))
 ·have hb:(e != 0)=false:=by rw [bne,he];rfl
  simp only [Bool.not_true,Bool.false_eq_true,if_false]
  cases he2:(e2 == 0)
  ·have hb2:(e2 != 0)=true:=by rw [bne,he2];rfl
   simp only [Bool.not_false,if_true]
   refine bad (c:=[.p (.i .i64 yi),.p (.i .i64 yp),.p (.i .i64 yq),.p (.b yf)]) ?_
   clear had h3 hdp hpu
   refine WC aB aK Tryz.func12 rfl rfl fun X0 hX=>?_
   simp only [Tryz.f12,go_sem]
   repeat' (first|simp only [*,go_sem,Nat.reduceLT,Nat.reduceLeDiff,Nat.reduceEqDiff,↓reduceIte,Nat.reduceAdd]|((with_reducible refine aV [0,1,2,3] (hws) ?_ ?_ ?_ ?_);exact rfl;exact rfl;(focus ((simp only [go_sem];done))))|((with_reducible refine aV [0,1,2,3] (hfr) ?_ ?_ ?_ ?_);exact rfl;exact rfl;(focus ((simp only [go_sem];done)))))
  ·have hb2:(e2 != 0)=false:=by rw [bne,he2];rfl
   simp only [Bool.not_true,Bool.false_eq_true,if_false]
   cases he3:(e3 == 0)
   ·have hb3:(e3 != 0)=true:=by rw [bne,he3];rfl
    simp only [Bool.not_false,if_true]
    refine bad (c:=[.p (.i .i64 yi),.p (.i .i64 yp),.p (.i .i64 yq),.p (.b yf)]) ?_
    clear had h3 hpu
    refine WC aB aK Tryz.func12 rfl rfl fun X0 hX=>?_
    simp only [Tryz.f12,go_sem]
    repeat' (first|simp only [*,go_sem,Nat.reduceLT,Nat.reduceLeDiff,Nat.reduceEqDiff,↓reduceIte,Nat.reduceAdd]|((with_reducible refine aV [0,1,2,3] (hws) ?_ ?_ ?_ ?_);exact rfl;exact rfl;(focus ((simp only [go_sem];done))))|((with_reducible refine aV [0,1,2,3] (hfr) ?_ ?_ ?_ ?_);exact rfl;exact rfl;(focus ((simp only [go_sem];done))))|((with_reducible refine aV [0,1,2,3] (hdp) ?_ ?_ ?_ ?_);exact rfl;exact rfl;(focus ((simp only [go_sem];done)))))
   ·have hb3:(e3 != 0)=false:=by rw [bne,he3];rfl
    simp only [Bool.not_true,Bool.false_eq_true,if_false]
    obtain ⟨k0,k1,k2⟩:=h3 he he2 he3
    have hadd:=aA.wkA (args:=[.c (.ptr 0 0),.c (.p (.s s)),.agg [.p (.i .i64 0),.p (.i .i64 yi),.p (.i .i64 0),.p (.b false)],.c (.p .nil)]) (args':=[.c (.ptr 0 0),.c (.p (.s s)),.agg [.p (.i .i64 0),.p (.i .i64 yi),.p (.i .i64 0),.p (.b false)],.c (.p (.sl 7 (fV [])))]) ⟨rfl,zBd,⟨wkP.rfl,wkP.rfl,wkP.rfl,wkP.rfl,True.intro⟩,zDZ,True.intro⟩ (had k0 k1 k2)
    clear had h3 k0 k1 k2
    have hgl:(mO r.L yi).length=r.L.length:=by simp [mO]
    unfold XP bX at hpu
    unfold bX at hadd
    simp only [hgl] at hpu hadd
    generalize zJC ⟨cA r.N sn yi,mO r.L yi,r.E,r.x⟩ s yi 0 []=c at hadd ⊢
    generalize cA r.N sn yi=M at hpu hadd
    refine aA.perm [0,1,2,3,6,7,8] (d1:=.c (.p (.i .i64 0))) (h1:=[.box [.own 6 0 c.N.length,.own 7 0 c.L.length,.mp 8,.p (.i .i64 c.x)],.dead,.dead,.dead,.box [.p (.i .i64 yi),.p (.i .i64 yp),.p (.i .i64 yq),.p (.b yf)],.dead,.arr 2 (cR c.N) false,.arr 4 (dZ c.L) false,.mp (BT c.E)]) ?_ rfl rfl (by unfold pW;exact (by simp only [gU,nR,kO,gS,qT];(repeat' (first|exact rfl|exact True.intro|refine And.intro ?_ ?_))))
    have hLz:=zA0 yi r.L
    refine WC aB aK Tryz.func12 rfl rfl fun X0 hX=>?_
    simp only [Tryz.f12,go_sem]
    repeat' (first|simp only [*,go_sem,Nat.reduceLT,Nat.reduceLeDiff,Nat.reduceEqDiff,↓reduceIte,Nat.reduceAdd]|((with_reducible refine aV [0,1,2,3] (hws) ?_ ?_ ?_ ?_);exact rfl;exact rfl;(focus ((simp only [go_sem];done))))|((with_reducible refine aV [0,1,2,3] (hfr) ?_ ?_ ?_ ?_);exact rfl;exact rfl;(focus ((simp only [go_sem];done))))|((with_reducible refine aV [0,1,2,3] (hdp) ?_ ?_ ?_ ?_);exact rfl;exact rfl;(focus ((simp only [go_sem];done)))))
    refine fZ aB aK (α:=Nat) (fun k=>⟨82,[(0,.c (.ptr 0 0)),(1,.c (.p (.s s))),(2,.c (.p (.s sn))),(7,.c (.ptr 4 0)),(38,.c (.p (.i .i64 r.L.length))),(39,.c (.p (.i .i64 k)))],[.box [.own 1 0 r.N.length,.own 2 0 r.L.length,.mp 3,.p (.i .i64 r.x)],.arr 2 (cR r.N) false,.arr 4 (dZ (YA yi r.L k)) false,.mp (BT r.E),.box [.p (.i .i64 yi),.p (.i .i64 yp),.p (.i .i64 yq),.p (.b yf)]]⟩)
     (fun k=>k≤r.L.length) (fun k=>r.L.length-k) 0 (Nat.zero_le _) (eZ (by rw [hLz];exact aI (by rw [hX];rfl) rfl rfl (by simp only [aH,aL];(repeat' (first|exact rfl|exact True.intro|refine And.intro ?_ ?_))))) ?_
    intro k hk
    have hkl:=zFY yi r.L k
    by_cases hlt:k<r.L.length
    ·have hx:r.L[k]? = some r.L[k]:=List.getElem?_eq_getElem hlt
     have hg:=pC (zHY (id:=yi) hx)
     have hst:=zFp (id:=yi) hx
     have h1:decide ((k:Int)<(r.L.length:Int))=true:=decide_eq_true (by omega)
     have h2:(k:Int)<(r.L.length:Int):=by omega
     have h4:(0:Int)≤k:=by omega
     have w1:IntKind.i64.wrap ((k:Int)+1)=k+1:=wrap_i64 (by omega) (by omega)
     generalize r.L[k]=x at hx hg hst
     obtain ⟨xi,xp,xs,xf⟩:=x
     simp only [AF] at hg hst
     clear hx hpu hadd hws hfr hdp hLz
     have b1:k<(YA yi r.L k).length:=by omega
     cases xf
     ·cases hq:(xi == yi)
      all_goals rw [hq] at hst
      all_goals simp only [Bool.or_false,Bool.false_or] at hst
      all_goals have hst:=PLift.up hst
      all_goals clear b1
      all_goals repeat' (first|simp only [*,go_sem,Nat.reduceLT,Nat.reduceEqDiff,↓reduceIte,Nat.reduceAdd]|((refine aP (id:=13) aB aK [28] [0,1,2,3,4,5,6,7,8,9,10,11,12,13,14,15,16,17,18,19,20,21,22,23,24,25,26,27,28] (by decide +kernel) ?_);(repeat' (first|(refine bA ?_)|((refine dB ?_ ?_ rfl rfl rfl ?_ ?_);(rotate_left 2);(focus ((repeat' (simp only [*,go_sem,Nat.reduceLeDiff,Nat.reduceEqDiff,↓reduceIte,Nat.reduceAdd]));((refine And.intro ?_ ?_ <;> exact rfl))));(simp only [bQ]))|((refine dC ?_ rfl rfl rfl ?_ ?_);(rotate_left 1);(focus ((repeat' (first|exact bP|refine bE ?_ ?_));(all_goals ((repeat' (simp only [*,go_sem,Nat.reduceLT,Nat.reduceEqDiff,↓reduceIte]));(try (exact rfl))))));(simp only [aJ]))))))
      all_goals exact AJ (k+1) (by omega) (by omega) (by rw [← hst.down];exact eZ (aI rfl rfl rfl (by simp only [aH,aL];(repeat' (first|exact rfl|exact True.intro|refine And.intro ?_ ?_)))))
     ·simp only [Bool.true_or] at hst
      have hst:=PLift.up hst
      clear b1
      repeat' (first|simp only [*,go_sem,Nat.reduceLT,Nat.reduceEqDiff,↓reduceIte,Nat.reduceAdd]|((refine aP (id:=13) aB aK [28] [0,1,2,3,4,5,6,7,8,9,10,11,12,13,14,15,16,17,18,19,20,21,22,23,24,25,26,27,28] (by decide +kernel) ?_);(repeat' (first|(refine bA ?_)|((refine dB ?_ ?_ rfl rfl rfl ?_ ?_);(rotate_left 2);(focus ((repeat' (simp only [*,go_sem,Nat.reduceLeDiff,Nat.reduceEqDiff,↓reduceIte,Nat.reduceAdd]));((refine And.intro ?_ ?_ <;> exact rfl))));(simp only [bQ]))|((refine dC ?_ rfl rfl rfl ?_ ?_);(rotate_left 1);(focus ((repeat' (first|exact bP|refine bE ?_ ?_));(all_goals ((repeat' (simp only [*,go_sem,Nat.reduceLT,Nat.reduceEqDiff,↓reduceIte]));(try (exact rfl))))));(simp only [aJ]))))))
      exact AJ (k+1) (by omega) (by omega) (by rw [← hst.down];exact eZ (aI rfl rfl rfl (by simp only [aH,aL];(repeat' (first|exact rfl|exact True.intro|refine And.intro ?_ ?_)))))
    ·have hke:k=r.L.length:=by omega
     subst hke
     rw [zEv]
     have h1:decide ((r.L.length:Int)<(r.L.length:Int))=false:=decide_eq_false (by omega)
     clear hws hfr hdp hkl hLz
     generalize mO r.L yi=G at hpu hadd
     repeat' (first|simp only [*,go_sem,Nat.reduceLT,Nat.reduceLeDiff,Nat.reduceEqDiff,↓reduceIte,Nat.reduceAdd,Nat.reduceSub]|((with_reducible refine aV [0,1,2,3] (hpu) ?_ ?_ ?_ ?_);exact rfl;exact rfl;(focus ((simp only [go_sem];done))))|((with_reducible refine aV [0,5,2,3] (hadd) ?_ ?_ ?_ ?_);exact rfl;exact rfl;(focus ((simp only [go_sem];done)))))
end
end Go.Proofs.YtbpblnmhlhpebaaGreatDoor
namespace Go.Dm
open Go
section
theorem SimW.okR {r:Rm} {d:Dr} (h:SimW r d) (hl:d.L.length≤900):OkR r where
 srt:=by rw [h.N];exact h.srt
 nl:=by rw [h.N];have:=h.ln;omega
 ll:=by rw [h.L];simpa [Dr.G] using hl
 ent:=fun x hx=>by
  rw [h.L] at hx
  obtain ⟨y,hy,rfl⟩:=PT.1 hx
  rw [h.e y hy]
  exact PK (h.toOkW.tree _) (h.t y hy)
 x:=by rw [h.x];have:=h.nx.2;omega
theorem Sim.okR {r:Rm} {d:Dr} (h:Sim r d):OkR r:=h.toSimW.okR (by have:=h.len;omega)
theorem Sim.okT {r:Rm} {d:Dr} (h:Sim r d) (id:Int):OkT (treeR r id):=by rw [h.toSimW.treeR];exact h.toOkW.tree id
theorem TW {r:Rm} {d:Dr} (h:SimW r d) (hl:d.L.length≤800) {s:List UInt8} {p q:Int} {t:List It} (hs:aX s=true) (hp:FG d p) (hq:q=0∨(p≠q∧FG d q)) (hc:(bS d.G p).length≤11) (ht:OkT t)
  (hx:d.x<2147483647) (hn:(cA d.N s d.x).length≤20):OkR ⟨cA r.N s r.x,r.L++[⟨r.x,p,q,false⟩],oQ r.E r.x (fM (treeR r p) t),r.x+1⟩∧OkG (r.L++[⟨r.x,p,q,false⟩]):=by
 have hw:=HS h hs hp hq hc ht hx hn
 rw [h.treeR]
 refine ⟨hw.okR ?_,?_⟩
 ·show (d.L++[_]).length≤900
  rw [List.length_append];simp only [List.length_cons,List.length_nil];omega
 ·have h1:=hw.g
  rw [← hw.L] at h1
  exact h1
theorem zLM {r:Rm} {d:Dr} (h:Sim r d) {s:List UInt8} (h1:((snP r s).2 == 0)=true):∃ n y,AP d.N s=some n∧y∈d.L∧snP r s=(y.1,0)∧sG d y.1.i=some y∧y.1.f=true:=by
 unfold snP at h1 ⊢
 cases hn:AP d.N s with
 | none =>
  obtain ⟨k1,_⟩:=gF h.toSimW hn
  rw [k1] at h1;cases h1
 | some n =>
  obtain ⟨y,hy,g1,g2,g3,g4,g5⟩:=gE h.toSimW hn
  rw [g1] at h1 ⊢
  cases hf:y.1.f
  ·rw [hf] at h1;cases h1
  ·exact ⟨n,y,rfl,hy,by rw [show ((0:Int) == 0 && !true)=false from rfl];rfl,g3,hf⟩
theorem zLZ {r:Rm} {d:Dr} (h:Sim r d) {s:List UInt8} (h1:((wsP r s).2 == 0)=true):∃ n y,AP d.N s=some n∧y∈d.L∧wsP r s=(y.1,0)∧sG d y.1.i=some y∧y.1.f=false∧y.1.i=n.l:=by
 unfold wsP at h1 ⊢
 cases hn:AP d.N s with
 | none =>
  obtain ⟨k1,_⟩:=gF h.toSimW hn
  rw [k1] at h1;cases h1
 | some n =>
  obtain ⟨y,hy,g1,g2,g3,g4,g5⟩:=gE h.toSimW hn
  rw [g1] at h1 ⊢
  cases hf:y.1.f
  ·exact ⟨n,y,rfl,hy,by rw [show ((0:Int) == 0 && false)=false from rfl];rfl,g3,hf,g4⟩
  ·rw [hf] at h1;cases h1
theorem zBG {r:Rm} {d:Dr} (h:SimW r d) {on:Int} (h3:(mL r on == 0)=true):(bS d.G on).length≤11:=by
 rw [zN h] at h3
 exact FR (by simpa using h3)
theorem zEK {r:Rm} {d:Dr} (h:Sim r d) {sn s:List UInt8} (h1:((snP r sn).2 == 0)=true) (h2:(jH r s == 0)=true) (h3:(mL r (snP r sn).1.i == 0)=true):
  OkR ⟨cA r.N s r.x,r.L++[⟨r.x,(snP r sn).1.i,0,false⟩],oQ r.E r.x [],r.x+1⟩∧OkG (r.L++[⟨r.x,(snP r sn).1.i,0,false⟩]):=by
 obtain ⟨n,y,hn,hy,e,g3,hf⟩:=zLM h h1
 rw [e] at h3 ⊢
 rw [wD h.toSimW] at h2
 obtain ⟨f1,f2,f3,f4,f5⟩:=vP h2
 have:=TW (s:=s) (p:=y.1.i) (q:=0) (t:=y.2) h.toSimW (by have:=h.len;omega) f1 ⟨y,hy,rfl,hf⟩ (.inl rfl) (zBG h.toSimW h3) (h.t y hy) f5 (by have:=lG d.N s d.x;omega)
 rwa [h.toSimW.treeR,iI g3,qX (h.t y hy)] at this
theorem XX {r:Rm} {d:Dr} (h:Sim r d) {s sn:List UInt8} (h1:((wsP r s).2 == 0)=true) (h2:(jH r sn == 0)=true) (h3:(mL r (wsP r s).1.i == 0)=true):
  OkR ⟨cA r.N sn (wsP r s).1.i,mO r.L (wsP r s).1.i,r.E,r.x⟩ ∧
   OkR ⟨cA (cA r.N sn (wsP r s).1.i) s r.x,mO r.L (wsP r s).1.i++[⟨r.x,(wsP r s).1.i,0,false⟩],oQ r.E r.x [],r.x+1⟩∧OkG (mO r.L (wsP r s).1.i++[⟨r.x,(wsP r s).1.i,0,false⟩]):=by
 obtain ⟨n,y,hn,hy,e,g3,hf,g4⟩:=zLZ h h1
 rw [e] at h3 ⊢
 rw [wD h.toSimW] at h2
 obtain ⟨f1,f2,f3,f4,f5⟩:=vP h2
 have hwf:=yJ h.toSimW y.1.i
 have hmem:∀ n,n∈cA d.N sn y.1.i↔n=⟨sn,y.1.i⟩∨(n∈d.N∧n.n≠sn):=fun n=>yX h.srt
 have hwn:=DN hwf (N:=cA d.N sn y.1.i) (mS h.srt sn y.1.i) (fun m hm=>by
   rcases (hmem m).1 hm with rfl|⟨g1,_⟩
   ·exact ⟨f1,_,fT h.g.inc (id:=y.1.i) hy,rfl⟩
   ·exact hwf.nm m g1) (fun a ha b hb e hfz=>by
   have hfz2:∀ z∈d.L,z.1.i=a.l→z.1.i≠y.1.i∧z.1.f=false:=fun z hz hza=>by
    have:=hfz _ (fT h.g.inc (id:=y.1.i) hz) hza
    simp only [AF,Bool.or_eq_false_iff] at this
    exact ⟨by simpa using this.2,this.1⟩
   rcases (hmem a).1 ha with rfl|⟨g1,_⟩ <;> rcases (hmem b).1 hb with rfl|⟨g2,_⟩
   ·rfl
   ·exact absurd rfl (hfz2 y hy rfl).1
   ·exact absurd rfl (hfz2 y hy e.symm).1
   ·exact h.one a g1 b g2 e fun z hz hza=>(hfz2 z hz hza).2) (by have:=lG d.N sn y.1.i;omega)
 have hwn:SimW ⟨cA d.N sn y.1.i,mO r.L y.1.i,r.E,r.x⟩ ⟨xC y.1.i d.L,cA d.N sn y.1.i,d.x⟩:=hwn
 have hlen:(xC y.1.i d.L).length=d.L.length:=by rw [oG h.g.inc,List.length_map]
 have hsn:aX s=true:=by
  obtain ⟨g1,g2⟩:=gW hn
  rw [← g2];exact (h.nm n g1).1
 have hfa:FG ⟨xC y.1.i d.L,cA d.N sn y.1.i,d.x⟩ y.1.i:=⟨_,fT h.g.inc (id:=y.1.i) hy,rfl,by show (y.1.f || y.1.i == y.1.i)=true;simp⟩
 have hGeq:(⟨xC y.1.i d.L,cA d.N sn y.1.i,d.x⟩:Dr).G=mO d.G y.1.i:=zBt h.g.inc y.1.i
 have hne:sn≠s:=fun e=>by
  subst e
  have:=h.toOkW.name0 sn
  rw [f2,hn] at this
  cases this
 have hin:(⟨n.n,n.l⟩:Nm)∈cA d.N sn y.1.i:=by
  obtain ⟨g1,g2⟩:=gW hn
  exact (hmem _).2 (.inr ⟨g1,by rw [g2];exact fun e=>hne e.symm⟩)
 have hlen2:(cA (cA d.N sn y.1.i) s d.x).length≤20:=by
  obtain ⟨g1,g2⟩:=gW hn
  rw [← g2,wF (mS h.srt sn y.1.i) hin]
  have:=lG d.N sn y.1.i
  rw [List.length_set];omega
 have e0:dE ⟨xC y.1.i d.L,cA d.N sn y.1.i,d.x⟩ y.1.i=y.2:=(FM h.toOkW y.1.i y.1.i).trans (iI g3)
 have hl:=h.len
 have:=TW (s:=s) (p:=y.1.i) (q:=0) (t:=y.2) hwn (by show (xC y.1.i d.L).length≤800;omega) hsn hfa (.inl rfl) (by rw [hGeq,zH];exact zBG h.toSimW h3) (h.t y hy) f5 hlen2
 rw [hwn.treeR,e0,qX (h.t y hy)] at this
 rw [h.N]
 exact ⟨hwn.okR (by show (xC y.1.i d.L).length≤900;omega),this⟩
theorem zB0 {r:Rm} {d:Dr} (h:Sim r d) (s:List UInt8) {l:List Ch} (hl:∀ x∈l,x.n.t<18446744073709551616):OkT (treeR r (wsP r s).1.i)∧OkT (treeR r (wsP r s).1.p)∧(((eL (treeR r (wsP r s).1.i) l).2 == 0)=true→OkT (eL (treeR r (wsP r s).1.i) l).1) :=
 ⟨h.okT _,h.okT _,fun he=>HZ (h.okT _) hl (by simpa using he)⟩
theorem zLh {r:Rm} {d:Dr} (h:Sim r d) (s:List UInt8) {c:Cl} (hc:c.t<18446744073709551616):OkT (treeR r (cP r s).1.i)∧OkT (treeR r (cP r s).1.p)∧OkT (doP (treeR r (cP r s).1.i) c).1 :=
 ⟨h.okT _,h.okT _,zJ3 (h.okT _) hc⟩
end
end Go.Dm
namespace Go.Proofs.YtbpblnmhlhpebaaGreatDoor
open Go Go.Dm Go.Proofs
section
section
variable {r r':Rm} {d:Dr} {e:Int}
theorem TY {s sn:List UInt8} (h:Sim r d) (hs:sn.length≤1000000000) (he:kC r s sn=(r',e)):aA Tryz.prog 12 [.c (.ptr 0 0),.c (.p (.s s)),.c (.p (.s sn))] (bX r) fun d h=>d=.c (.p (.i .i64 e))∧h=pW r':=by
 have:=KG (s:=s) h.okR hs fun a b c=>XX h a b c
 rw [he] at this
 exact this
theorem zKt {sn s:List UInt8} (h:Sim r d) (hs:s.length≤1000000000) (he:GW r sn s=(r',e)):aA Tryz.prog 13 [.c (.ptr 0 0),.c (.p (.s sn)),.c (.p (.s s))] (bX r) fun d h=>d=.c (.p (.i .i64 e))∧h=pW r':=by
 have:=YZ (sn:=sn) h.okR hs fun a b c=>zEK h a b c
 rw [he] at this
 exact this
theorem zIF {s:List UInt8} {l:List Ch} (h:Sim r d) (hl:l.length≤100000) (hp:∀ x∈l,x.p.length≤1000000000∧x.o.t<18446744073709551616∧x.n.t<18446744073709551616) (hd:∀ x∈l,x.n.d.length≤140737488355328) (he:gP r s l=(r',e)):
  aA Tryz.prog 10 [.c (.ptr 0 0),.c (.p (.s s)),.c (.p (.sl 10 (oX l)))] (bX r) fun d h=>d=.c (.p (.i .i64 e))∧h=bX r':=by
 have:=QN (s:=s) h.okR hl hp hd fun _=>zB0 h s fun x hx=>(hp x hx).2.2
 rw [he] at this
 exact this
theorem do_e {s:List UInt8} {ck:Int} {cp cq:List UInt8} {cm:Int} {ct:Nat} {ca cn:Int} {cd:List UInt8} {a:An} (h:Sim r d) (hct:ct<18446744073709551616) (hcp:cp.length≤9223372036854775807)
  (hcd:cd.length≤140737488355328) (hcq:cq.length≤9223372036854775807) (hca:-9223372036854775808≤ca∧ca≤9223372036854775807) (he:zBQ r s ⟨ck,cp,cq,cm,ct,ca,cn,cd⟩=(r',a)):
  aA Tryz.prog 17 [.c (.ptr 0 0),.c (.p (.s s)),.agg (clc ck cp cq cm ct ca cn cd)] (bX r) fun d h=>d=.agg (anv a)∧h=bX r':=by
 have:=zEU (s:=s) (ck:=ck) (cm:=cm) (cn:=cn) h.okR hct hcp hcd hcq hca fun _=>zLh h s (c:=⟨ck,cp,cq,cm,ct,ca,cn,cd⟩) hct
 rw [he] at this
 exact this
theorem zBl {s:List UInt8} {t:List It} (h:Sim r d) (he:lT r s=(t,e)):aA Tryz.prog 15 [.c (.ptr 0 0),.c (.p (.s s))] (bX r) fun d h=>d=.tup [.c (.p (.sl 5 (aT t))),.c (.p (.i .i64 e))]∧h=bX r:=by
 have:=ZZ (s:=s) h.okR
 rw [he] at this
 exact this
end
end
end Go.Proofs.YtbpblnmhlhpebaaGreatDoor
namespace Go.Dm
open Go
section
section steps
variable {r:Rm} {d d':Dr}
theorem tO {s:List UInt8} {l:List Ch} {e:Int} (h:Sim r d) (hl:∀ x∈l,x.n.t<18446744073709551616) (he:CR d s l=(d',e)):∃ r',gP r s l=(r',e)∧Sim r' d':=by
 obtain ⟨h1,h2⟩:=zBA h s hl
 rw [he] at h1 h2
 exact ⟨_,Prod.ext rfl h1,h2⟩
theorem wG {s sn:List UInt8} {e:Int} (h:Sim r d) (he:kE d s sn=(d',e)):∃ r',kC r s sn=(r',e)∧Sim r' d':=by
 obtain ⟨h1,h2⟩:=XK h s sn
 rw [he] at h1 h2
 exact ⟨_,Prod.ext rfl h1,h2⟩
theorem zDv {s sn:List UInt8} {e:Int} (h:Sim r d) (he:zDA d sn s=(d',e)):∃ r',GW r sn s=(r',e)∧Sim r' d':=by
 obtain ⟨h1,h2⟩:=zEI h sn s
 rw [he] at h1 h2
 exact ⟨_,Prod.ext rfl h1,h2⟩
theorem zCR {s:List UInt8} {c:Cl} {a:An} (h:Sim r d) (hc:c.t<18446744073709551616) (he:doD d s c=(d',a)):∃ r',zBQ r s c=(r',a)∧Sim r' d':=by
 obtain ⟨h1,h2⟩:=zLc h s hc
 rw [he] at h1 h2
 exact ⟨_,Prod.ext rfl h1,h2⟩
theorem pK {s:List UInt8} {id:Int} {a b:List It} (hn:eH d.N s=id) (h0:(id == 0)=false) (hf:pT d id=false) (ht:dE d id=a) (ha:OkT a) (hb:OkT b):CR d s (eX a b)=(jZ d id b,0):=by
 unfold CR
 rw [hn,h0,hf,ht,XW ha hb]
 rfl
end steps
theorem wU {a b:List It} (ha:OkT a) (hb:OkT b):∀ x∈eX a b,x.n.t<18446744073709551616:=fun x hx=>(VT ha hb hx).2
def v1S:List UInt8:=[118,49]
def w1S:List UInt8:=[119,49]
def mkS (p:List UInt8):Cl:=⟨1,p,[],493,0,0,0,[]⟩
theorem QF:∃ (r1 r2 r3:Rm) (d1 d2 d3:Dr) (a b:An),kC zJU fF v1S=(r1,0)∧Sim r1 d1∧zBQ r1 v1S (mkS [97])=(r2,a)∧a.e=14∧Sim r2 d2∧zBQ r2 fF (mkS [97])=(r3,b)∧b.e=0∧Sim r3 d3∧r3.N.length=2∧r3.x=4:=by
 obtain ⟨r1,e1,s1⟩:=wG (d':=(kE NV fF v1S).1) (e:=0) (s:=fF) (sn:=v1S) EX (Prod.ext rfl (by decide +kernel))
 obtain ⟨r2,e2,s2⟩:=zCR (s:=v1S) (c:=mkS [97]) s1 (by decide) (Prod.ext rfl rfl:_=((doD (kE NV fF v1S).1 v1S (mkS [97])).1,(doD (kE NV fF v1S).1 v1S (mkS [97])).2))
 obtain ⟨r3,e3,s3⟩:=zCR (s:=fF) (c:=mkS [97]) s2 (by decide) (Prod.ext rfl rfl:_=((doD (doD (kE NV fF v1S).1 v1S (mkS [97])).1 fF (mkS [97])).1,(doD (doD (kE NV fF v1S).1 v1S (mkS [97])).1 fF (mkS [97])).2))
 exact ⟨r1,r2,r3,_,_,_,_,_,e1,s1,e2,by decide +kernel,s2,e3,by decide +kernel,s3,by rw [s3.N];decide +kernel,by rw [s3.x];decide +kernel⟩
def fkD (b:List It):Dr:=⟨[(⟨1,0,0,true⟩,[]),(⟨2,1,0,true⟩,b),(⟨3,2,0,false⟩,b)],[⟨fF,3⟩,⟨v1S,2⟩],4⟩
def zJ0 (b o t:List It):Dr:=⟨[(⟨1,0,0,true⟩,[]),(⟨2,1,0,true⟩,b),(⟨3,2,0,false⟩,o),(⟨4,2,0,false⟩,t)],[⟨fF,3⟩,⟨v1S,2⟩,⟨w1S,4⟩],5⟩
theorem zEa (b:List It):kE (jZ NV 2 b) fF v1S=(fkD b,0):=by kernel_rfl
theorem zJI (b:List It):zDA (fkD b) v1S w1S=(zJ0 b b b,0):=by kernel_rfl
theorem QE {b o t:List It} (hb:OkT b) (ho:OkT o) (ht:OkT t):∃ (r1 r2 r3 r4 r5:Rm) (d1 d2 d3 d4 d5:Dr),
  gP zJU fF (eX [] b)=(r1,0)∧Sim r1 d1∧kC r1 fF v1S=(r2,0)∧Sim r2 d2∧GW r2 v1S w1S=(r3,0)∧Sim r3 d3∧gP r3 fF (eX b o)=(r4,0)∧Sim r4 d4∧gP r4 w1S (eX b t)=(r5,0)∧Sim r5 d5 ∧
  lT r5 v1S=(b,0)∧lT r5 fF=(o,0)∧lT r5 w1S=(t,0):=by
 obtain ⟨r1,e1,s1⟩:=tO (s:=fF) EX (wU OkT.nil hb) (pK (id:=2) (by kernel_rfl) rfl (by kernel_rfl) (by kernel_rfl) OkT.nil hb)
 obtain ⟨r2,e2,s2⟩:=wG s1 (zEa b)
 obtain ⟨r3,e3,s3⟩:=zDv s2 (zJI b)
 obtain ⟨r4,e4,s4⟩:=tO (s:=fF) s3 (wU hb ho) (pK (id:=3) (by kernel_rfl) rfl (by kernel_rfl) (by kernel_rfl) hb ho)
 rw [show jZ (zJ0 b b b) 3 o=zJ0 b o b by kernel_rfl] at s4
 obtain ⟨r5,e5,s5⟩:=tO (s:=w1S) s4 (wU hb ht) (pK (id:=4) (by kernel_rfl) rfl (by kernel_rfl) (by kernel_rfl) hb ht)
 rw [show jZ (zJ0 b o b) 4 t=zJ0 b o t by kernel_rfl] at s5
 exact ⟨r1,r2,r3,r4,r5,_,_,_,_,_,e1,s1,e2,s2,e3,s3,e4,s4,e5,s5,by rw [tX s5.toSimW];kernel_rfl,by rw [tX s5.toSimW];kernel_rfl,by rw [tX s5.toSimW];kernel_rfl⟩
end
end Go.Dm
namespace Go.Proofs.YtbpblnmhlhpebaaGreatDoor
open Go Go.Dm Go.Proofs
section
theorem NJ:aA Tryz.prog 7 [] [] fun d h=>d=.c (.ptr 0 0)∧h=bX zJU:=by
 refine aA.perm [3,0,1,2] (d1:=.c (.ptr 3 0)) (h1:=[.arr 2 (cR zJU.N) false,.arr 4 (dZ zJU.L) false,.mp [],.box [.own 0 0 1,.own 1 0 2,.mp 2,.p (.i .i64 3)]]) ?_ rfl rfl (by unfold bX;exact (by simp only [gU,kO,gS,qT];(repeat' (first|exact rfl|exact True.intro|refine And.intro ?_ ?_))))
 refine WC aB aK Tryz.func7 rfl rfl fun X0 hX=>?_
 simp only [Tryz.f7,go_sem]
 repeat' (first|simp only [*,go_sem,Nat.reduceLT,Nat.reduceLeDiff,Nat.reduceEqDiff,↓reduceIte,Nat.reduceAdd,Nat.reduceMul]|((with_reducible refine And.intro ?_ ?_);(focus (decide))))
 all_goals rfl
theorem zJb {p:List UInt8}:aA Tryz.prog 18 [.c (.p (.s p))] [] fun r h=>r=.agg (clc 1 p [] 493 0 0 0 [])∧h=[]:=by
 refine bJ ?_
 refine ent aB aK Tryz.func18 rfl rfl fun X0 hX=>?_
 simp only [Tryz.f18,go_sem]
 repeat' (simp only [*,go_sem,Nat.reduceLT,Nat.reduceLeDiff,Nat.reduceEqDiff,↓reduceIte,Nat.reduceAdd])
 all_goals (repeat' (exact .inr ⟨_,rfl⟩))
theorem zMz {r r':Rm} {d:Dr} {s p:List UInt8} {a:An} (h:Sim r d) (hp:p.length≤1000) (he:zBQ r s (mkS p)=(r',a)):
  aA Tryz.prog 17 [.c (.ptr 0 0),.c (.p (.s s)),.agg (clc 1 p [] 493 0 0 0 [])] (bX r) fun d h=>d=.agg (anv a)∧h=bX r' :=
 do_e h (by decide) (by omega) (by decide) (by decide) (by decide) he
theorem zEn:aA Tryz.prog 9 [] [] fun r h=>r=.c (.p (.b true))∧h=[]:=by
 obtain ⟨r1,r2,r3,d1,d2,d3,a,b,e1,s1,e2,a2,s2,e3,b3,s3,n3,x3⟩:=QF
 have c1:=TY (s:=fF) (sn:=v1S) EX (by decide) e1
 have m:=zJb (p:=[97])
 have c2:=zMz (s:=v1S) s1 (by decide) e2
 have c3:=zMz (s:=fF) s2 (by decide) e3
 have c4:=PR s3.okR
 have c5:=ZM (r:=r3)
 obtain ⟨ae,⟨ak,am,at_,ad⟩,ab,al⟩:=a
 obtain ⟨be,⟨bk,bm,bt,bd⟩,bb,bl⟩:=b
 simp only at a2 b3
 subst a2 b3
 rw [x3] at c5
 have hn:((r3.N.length:Int) == 2)=true:=by rw [n3];rfl
 clear n3 x3
 clear e1 s1 e2 s2 e3 s3
 refine ent aB aK Tryz.func9 rfl rfl fun X0 hX=>?_
 simp only [Tryz.f9,go_sem]
 repeat' (first|simp only [*,go_sem,Nat.reduceLT,Nat.reduceEqDiff,↓reduceIte,Nat.reduceAdd,Nat.reduceSub,beq_self_eq_true,bne_self_eq_false]|((with_reducible refine aV [] (NJ) ?_ ?_ ?_ ?_);exact rfl;exact rfl;(focus ((simp only [go_sem];done))))|((with_reducible refine aV [0,1,2,3] (c1) ?_ ?_ ?_ ?_);exact rfl;exact rfl;(focus ((simp only [go_sem];done))))|((with_reducible refine bK (m) ?_ ?_ ?_);exact rfl;exact fun _=>rfl)|((with_reducible refine aV [0,4,5,6] (c2) ?_ ?_ ?_ ?_);exact rfl;exact rfl;(focus ((simp only [go_sem];done))))|((with_reducible refine aV [0,4,5,6] (c3) ?_ ?_ ?_ ?_);exact rfl;exact rfl;(focus ((simp only [go_sem];done))))|((with_reducible refine aV [0,4,5,6] (c4) ?_ ?_ ?_ ?_);exact rfl;exact rfl;(focus ((simp only [go_sem];done))))|((with_reducible refine aV [0,4,5,6] (c5) ?_ ?_ ?_ ?_);exact rfl;exact rfl;(focus ((simp only [go_sem];done)))))
end
end Go.Proofs.YtbpblnmhlhpebaaGreatDoor
