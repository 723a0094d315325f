/- Part 44 of the proof of roomAsks_card, set without needless blanks. No condition. -/
import Derived.Test.YtlbfnbldeefgmaaGreatDoorA42
set_option linter.all false
section
namespace Go.Proofs.YtlbfnbldeefgmaaGreatDoor
open Go Go.Dm Go.Proofs
set_option maxRecDepth 100000
set_option maxHeartbeats 8000000
theorem zKe {h:aC} {id:Nat} {l:List It} {K:DV→aC→Prop} (hu:∀ x∈l,∀ y∈l,x.p=y.p→x=y) (hsz:l.length<4611686018427387904) (hid:h[id]? = some (.arr 5 (aU l) false)) (hk:K (.tup []) (h.set id (.arr 5 (aU (fH l)) false))):
  aA Tryz.prog 155 [.c (.own id 0 l.length),.c (.clo 156 [])] h K :=
 aA.mono (zKd hu hid hsz) (by rintro _ _ ⟨rfl,rfl⟩;exact hk)
theorem zFk {t:List It} {l:List Ch} (ht:OkT t) (hl:l.length≤100000) (hp:∀ x∈l,x.p.length≤1000000000∧x.o.t<18446744073709551616∧x.n.t<18446744073709551616) (hd:∀ x∈l,x.n.d.length≤140737488355328):
  aA Tryz.prog 82 [.c (.p (.sl 5 (aU t))),.c (.p (.sl 10 (pD l)))] [] fun r h=>r=.tup [.c (.p (.sl 5 (aU (eG t l).1))),.c (.p (.i .i64 (eG t l).2))]∧h=[]:=by
 refine bK ?_;have hright:=JO (l:=l) (by omega) hp;unfold eG;cases hr:gY l
 ·rw [hr] at hright;refine zMP aB Tryz.func82 rfl rfl fun X0 hX=>?_;simp only [Tryz.f82,go_sem];refine cL aB aK ?_
  repeat' (first|exact ⟨⟩|refine sp ?_)
  refine cL aB aK ?_
  repeat' (first|exact ⟨⟩|refine sq ?_|refine uN (hright) ?_)
  all_goals exact .inr ⟨_,rfl⟩
 ·rw [hr] at hright;rw [if_neg (by decide)];have hrP:=PLift.up hr;obtain ⟨R,hR⟩:∃ R,(if !(l.all (rC t)) then (([],17):List It × Int) else if decide ((120:Int)<((fH (GI t l)).length:Int)) then ([],16) else if !jD (fH (GI t l)) then ([],17) else (fH (GI t l),0))=R:=⟨_,rfl⟩
  rw [hR];have hRP:=PLift.up hR;clear hR;refine zMP aB Tryz.func82 rfl rfl fun X0 hX=>?_;simp only [Tryz.f82,go_sem];refine cL aB aK ?_
  repeat' (first|exact ⟨⟩|refine sp ?_)
  refine cL aB aK ?_
  repeat' (first|exact ⟨⟩|refine sq ?_|refine uN (hright) ?_)
  refine zEB aB rfl rfl rfl (by decide) (fun b K hK=>?_)
  repeat' (first|exact ⟨⟩|refine sp ?_)
  refine hK _ ?_;clear hK K hright hr;refine cO aB aK (fun X1 hX1=>?_)
  repeat' (first|exact ⟨⟩|refine sp ?_)
  clear hX1 X1;refine zEI 7 5 rfl ?_;refine mA ?_;refine cO aB aK (fun X1 hX1=>?_)
  repeat' (first|exact ⟨⟩|refine sp ?_)
  clear hX1 X1;refine oZ ?_;refine NU (α:=Nat × List It) (fun x=>⟨70,[(0,.c (.p (.sl 5 (aU t)))),(6,.c (.p (.o (.map (some b))))),(7,.c (.own 0 0 x.2.length)),(16,.c (.p (.sl 10 (pD l)))),(17,.c (.p (.i .i64 l.length))),(18,.c (.p (.i .i64 x.1)))],[.arr 5 (aU x.2) false]⟩)
   (fun x=>nI (l.take x.1)) (fun x=>x.1≤l.length∧tR (l.take x.1)=x.2∧(l.take x.1).all (rC t)=true) (fun x=>l.length-x.1) (0,[]) ⟨Nat.zero_le _,rfl,rfl⟩ rfl (.inl (aI (by rw [hX];rfl) rfl rfl (by simp [aH,aL,aD,aJ,aF,gA,]))) ?_
  rintro ⟨i,out⟩ ⟨hi,hout,hfit⟩;simp only at hi hout hfit;have hol:out.length≤i:=by rw [← hout];exact Nat.le_trans (zDD _) (List.length_take_le ..)
  by_cases hlt:i<l.length
  ·have hx:l[i]? = some l[i]:=List.getElem?_eq_getElem hlt;have hg:=ET hx;have hnw:=ZU hx;have hky:=ZN hx;have hft:(l.take (i+1)).all (rC t)=rC t l[i]:=by
    rw [List.take_add_one,hx,List.all_append,hfit,Bool.true_and];simp only [Option.toList_some,List.all_cons,List.all_nil,Bool.and_true]
   have hno:rC t l[i]=false→l.all (rC t)=false:=fun h=>by
    rw [Bool.eq_false_iff];intro h2;have:=List.all_eq_true.1 h2 _ (List.getElem_mem hlt);rw [h] at this;cases this
   have h1:decide ((i:Int)<(l.length:Int))=true:=decide_eq_true (by omega);have w1:IntKind.i64.wrap ((i:Int)+1)=i+1:=wrap_i64 (by omega) (by omega);have hpx:=hp _ (List.getElem_mem hlt);have hdx:=hd _ (List.getElem_mem hlt);generalize l[i]=c at *;rw [hout] at hnw;have hfc:=zLr (t:=t) (p:=c.p) (kk:=c.k) (k:=c.o.k) (m:=c.o.m) (tt:=c.o.t) (d:=c.o.d) (k':=c.n.k) (m':=c.n.m) (tt':=c.n.t) (d':=c.n.d) ht;rw [show rC t ⟨c.p,c.k,⟨c.o.k,c.o.m,c.o.t,c.o.d⟩,⟨c.n.k,c.n.m,c.n.t,c.n.d⟩⟩=rC t c from rfl] at hfc
   refine cO aB aK (fun X1 hX1=>?_)
   repeat' (first|exact ⟨⟩|refine sp ?_)
   clear hX1 X1;refine cO aB aK (fun X1 hX1=>?_)
   repeat' (first|exact ⟨⟩|refine sp ?_)
   clear hX1 X1;refine mA ?_;refine oZ ?_;refine cO aB aK (fun X1 hX1=>?_)
   repeat' (first|exact ⟨⟩|refine sp ?_|((with_reducible refine And.intro ?_ ?_);omega))
   clear hX1 X1;cases hf:rC t c
   ·rw [hf] at hfc;obtain rfl:([],17)=R:=by rw [← hRP.down,hno hf];rfl
    refine cO aB aK (fun X1 hX1=>?_)
    repeat' (first|exact ⟨⟩|refine sq ?_|refine uN (hfc) ?_)
    all_goals exact .inr ⟨_,rfl⟩
   ·rw [hf] at hfc hft;have hJ:=PLift.up hft;clear hft hno;refine cO aB aK (fun X1 hX1=>?_)
    repeat' (first|exact ⟨⟩|refine sq ?_|refine uN (hfc) ?_)
    clear hX1 X1;refine mA (zEH aB 3 c.p rfl Tryz.underlying214 Tryz.underlying9 rfl rfl rfl (Nat.le_trans hpx.1 (by decide)) fun K hK=>?_)
    repeat' (first|exact ⟨⟩|refine sp ?_)
    refine hK _ _ _ rfl rfl rfl ?_;clear hK K;rw [zMB];cases hk2:(c.k != 2)
    ·rw [show vQ c=[] by unfold vQ;rw [hk2];rfl,List.append_nil] at hnw
     have hN:=PLift.up hnw;have hY:=PLift.up hky;clear hnw hky;refine hD aB aK (fun X1 hX1=>?_)
     repeat' (first|exact ⟨⟩|refine sp ?_)
     refine hD aB aK (fun X1 hX1=>?_)
     repeat' (first|exact ⟨⟩|refine sp ?_)
     exact zHi (i+1,out) ⟨by omega,hN.down,hJ.down⟩ (by simp only;omega) hY.down.symm (.inl (aI rfl rfl rfl (by simp [aH,aL,aD,aJ,aF,])))
    ·rw [show vQ c=[⟨c.p,c.n⟩] by unfold vQ;rw [hk2];rfl] at hnw
     have hN:=PLift.up hnw;have hY:=PLift.up hky;clear hnw hky;refine hD aB aK (fun X1 hX1=>?_)
     repeat' (first|exact ⟨⟩|refine sp ?_|((refine aN (id:=12) aB aK [7,8] [1,2,3,4,5,6,7,0,8,9] (by decide +kernel) ?_);(repeat' (first|(refine aT ?_)|((refine cV ?_ ?_ rfl rfl rfl ?_ ?_);(rotate_left 2);(focus ((repeat' (first|exact ⟨⟩|refine sp ?_|((with_reducible refine And.intro ?_ ?_);((first|omega|decide)))));((refine And.intro ?_ ?_ <;> exact rfl))));(simp only [aG]))|((refine cU ?_ rfl rfl rfl ?_ ?_);(rotate_left 1);(focus ((repeat' (first|exact bG|refine aZ ?_ ?_));(all_goals ((repeat' (first|exact ⟨⟩|refine sp ?_|refine uN (xC hdx) ?_));(try (exact rfl))))));(simp only [aG]))))))
     refine hD aB aK (fun X1 hX1=>?_)
     repeat' (first|exact ⟨⟩|refine sp ?_)
     exact zHi (i+1,out++[⟨c.p,c.n⟩]) ⟨by omega,hN.down,hJ.down⟩ (by simp only;omega) hY.down.symm (.inr ⟨0,3,5,_,by decide,Nat.le_refl _,Nat.zero_le _,Nat.zero_lt_succ _,rfl,aI rfl rfl rfl (by simp [aH,aL,aD,aJ,aF,vB,tY,vA,])⟩)
  ·have h1:decide ((i:Int)<(l.length:Int))=false:=decide_eq_false (by omega);rw [List.take_of_length_le (by omega)] at hout hfit;rw [List.take_of_length_le (by omega)];have hcp:=zFx (t:=t) (Nat.le_trans ht.len (by decide)) (fun x hx=>Nat.le_trans (ht.dlen x hx) (by decide));have htl:=ht.len;refine cO aB aK (fun X1 hX1=>?_)
   repeat' (first|exact ⟨⟩|refine sp ?_)
   clear hX1 X1;refine cO aB aK (fun X1 hX1=>?_)
   repeat' (first|exact ⟨⟩|refine sp ?_)
   clear hX1 X1 h1;refine mA ?_;refine cO aB aK (fun X1 hX1=>?_)
   repeat' (first|exact ⟨⟩|refine sp ?_|refine uN (hcp) ?_)
   clear hX1 X1;refine oZ ?_;refine NU (α:=Nat × List It) (fun x=>⟨70,[(6,.c (.p (.o (.map (some b))))),(7,.c (.own 0 0 x.2.length)),(43,.c (.p (.sl 5 (aU t)))),(44,.c (.p (.i .i64 t.length))),(45,.c (.p (.i .i64 x.1)))],[.arr 5 (aU x.2) false]⟩)
    (fun _=>nI l) (fun x=>x.1≤t.length∧out++rZ (t.take x.1) (nI l)=x.2) (fun x=>t.length-x.1) (0,out) ⟨Nat.zero_le _,by simp [rZ]⟩ rfl (.inl (aI (by rw [hX];rfl) rfl rfl (by simp [aH,aL,aD,aJ,aF,]))) ?_
   rintro ⟨k,row⟩ ⟨hk,hrow⟩;simp only at hk hrow;have hrl:row.length≤100000+120:=by
    have:=zEj (t.take k) (nI l);rw [← hrow,List.length_append];rw [List.length_take] at this;omega
   by_cases hlt2:k<t.length
   ·have hx:t[k]? = some t[k]:=List.getElem?_eq_getElem hlt2;have hg:=cQ hx;have hrt:=zAn (ks:=nI l) hx;have h1:decide ((k:Int)<(t.length:Int))=true:=decide_eq_true (by omega);have w1:IntKind.i64.wrap ((k:Int)+1)=k+1:=wrap_i64 (by omega) (by omega);have hpx:=ht.plen _ (List.getElem_mem hlt2);generalize t[k]=x at *;have hrt2:out++rZ (t.take (k+1)) (nI l)=row++GV (nI l) x:=by rw [hrt,← List.append_assoc,hrow]
    clear hrt hrow;unfold GV at hrt2;refine cO aB aK (fun X1 hX1=>?_)
    repeat' (first|exact ⟨⟩|refine sp ?_)
    clear hX1 X1;refine cO aB aK (fun X1 hX1=>?_)
    repeat' (first|exact ⟨⟩|refine sp ?_)
    clear hX1 X1;refine mA ?_;refine oZ ?_;refine cO aB aK (fun X1 hX1=>?_)
    repeat' (first|exact ⟨⟩|refine sp ?_|((with_reducible refine And.intro ?_ ?_);omega))
    clear hX1 X1;refine mA (zAJ aB 3 x.p rfl Tryz.underlying214 Tryz.underlying9 Tryz.zeroValue4 rfl rfl rfl (Nat.le_trans hpx (by decide)) fun K hK=>?_)
    repeat' (first|exact ⟨⟩|refine sp ?_)
    refine hK _ _ _ (by decide) rfl rfl (fun K2 hK2=>?_);clear hK K;cases hc:(nI l).contains x.p
    ·rw [hc,if_pos (by decide)] at hrt2;have hN:=PLift.up hrt2;clear hrt2
     repeat' (first|exact ⟨⟩|refine sq ?_)
     refine hK2 _ ?_;clear hK2 K2 hc;rw [zMB];refine hD aB aK (fun X1 hX1=>?_)
     repeat' (first|exact ⟨⟩|refine sp ?_|((with_reducible refine And.intro ?_ ?_);((first|omega|decide))))
     refine hD aB aK (fun X1 hX1=>?_)
     repeat' (first|exact ⟨⟩|refine sp ?_)
     exact zHi (k+1,row++[x]) ⟨by omega,hN.down⟩ (by simp only;omega) rfl (.inr ⟨0,3,5,_,by decide,Nat.le_refl _,Nat.zero_le _,Nat.zero_lt_succ _,rfl,aI rfl rfl rfl (by simp [aH,aL,aD,aJ,aF,vB,tY,vA,])⟩)
    ·rw [hc,if_neg (by decide),List.append_nil] at hrt2;have hN:=PLift.up hrt2;clear hrt2
     repeat' (first|exact ⟨⟩|refine sq ?_)
     refine hK2 _ ?_;clear hK2 K2 hc;rw [zMB];refine hD aB aK (fun X1 hX1=>?_)
     repeat' (first|exact ⟨⟩|refine sp ?_)
     refine hD aB aK (fun X1 hX1=>?_)
     repeat' (first|exact ⟨⟩|refine sp ?_)
     exact zHi (k+1,row) ⟨by omega,hN.down⟩ (by simp only;omega) rfl (.inl (aI rfl rfl rfl (by simp [aH,aL,aD,aJ,aF,])))
   ·have h1:decide ((k:Int)<(t.length:Int))=false:=decide_eq_false (by omega);rw [List.take_of_length_le (by omega),← hout] at hrow;refine cO aB aK (fun X1 hX1=>?_)
    repeat' (first|exact ⟨⟩|refine sp ?_)
    clear hX1 X1;refine cO aB aK (fun X1 hX1=>?_)
    repeat' (first|exact ⟨⟩|refine sp ?_)
    clear hX1 X1 h1;have hrow2:GI t l=row:=hrow;have hR:=hRP.down;rw [hfit,if_neg (by decide)] at hR;have hu:=zG7 ht.srt hrP.down;have hmo:∀ x∈fH (GI t l),x.p.length≤1000000000∧x.n.t<18446744073709551616:=fun x hx=>by
     rcases zDw hx with ⟨c,hc,rfl⟩|hx
     ·exact ⟨(hp c hc).1,(hp c hc).2.2⟩
     ·exact ⟨Nat.le_trans (ht.plen x hx) (by decide),ht.tlen x hx⟩
    have hln:(fH (GI t l)).length=(GI t l).length:=zY _;rw [hrow2] at hR hu hmo hln;have htr:=vF (t:=fH row) (by omega) (fun x hx=>(hmo x hx).1) (fun x hx=>(hmo x hx).2);have hsl:(fH row).length≤100120:=by omega
    subst hR;clear hout hrow hrow2 hmo hp hd hcp hfit hRP hrP hlt hlt2 htl;refine cO aB aK (fun X1 hX1=>?_)
    repeat' (first|exact ⟨⟩|refine sp ?_|refine zKe hu (by omega) rfl ?_)
    have hlen:(fH row).length=row.length:=zY _;rw [← hlen];clear hu hln hlen hrl hX1 X1;generalize fH row=m at *;cases hd:decide ((120:Int)<(m.length:Int))
    ·rw [if_neg (by decide)];cases hq:jD m
     ·rw [hq] at htr;rw [if_pos (by decide)];refine hD aB aK (fun X1 hX1=>?_)
      repeat' (first|exact ⟨⟩|refine sq ?_|refine uN (htr) ?_|((with_reducible apply aA.frz);exact rfl;exact rfl))
      all_goals exact .inr ⟨_,rfl⟩
     ·rw [hq] at htr;rw [if_neg (by decide)];refine hD aB aK (fun X1 hX1=>?_)
      repeat' (first|exact ⟨⟩|refine sq ?_|refine uN (htr) ?_|((with_reducible apply aA.frz);exact rfl;exact rfl))
    ·rw [if_pos rfl];refine hD aB aK (fun X1 hX1=>?_)
     repeat' (first|exact ⟨⟩|refine sp ?_)
     all_goals exact .inr ⟨_,rfl⟩
end Go.Proofs.YtlbfnbldeefgmaaGreatDoor
end
section
namespace Go.Proofs.YtlbfnbldeefgmaaGreatDoor
open Go Go.Dm Go.Proofs
set_option maxRecDepth 100000
set_option maxHeartbeats 8000000
theorem SG {r:Rm} {s:List UInt8} {l:List Ch} (hr:OkR r) (hl:l.length≤100000) (hp:∀ x∈l,x.p.length≤1000000000∧x.o.t<18446744073709551616∧x.n.t<18446744073709551616) (hd:∀ x∈l,x.n.d.length≤140737488355328)
  (h3:((wsP r s).2 == 0)=true→OkT (treeR r (wsP r s).1.i)∧OkT (treeR r (wsP r s).1.p)∧(((eG (treeR r (wsP r s).1.i) l).2 == 0)=true→OkT (eG (treeR r (wsP r s).1.i) l).1)):
  aA Tryz.prog 30 [.c (.ptr 0 0),.c (.p (.s s)),.c (.p (.sl 10 (pD l)))] (cB r) fun d h=>d=.c (.p (.i .i64 (kC r s l).2))∧h=cB (kC r s l).1:=by
 have hly:=WW (s:=s) hr;have htr:=nY (a:=(wsP r s).1.i) hr;unfold kC;generalize hy:wsP r s=y at *;obtain ⟨⟨yi,yp,yq,yf⟩,e⟩:=y;simp only [Ly.cv] at *;cases he:(e == 0)
 ·have hb:(e != 0)=true:=by rw [bne,he];rfl
  simp only [Bool.not_false,if_true];clear h3 htr hr;refine ent aB aK Tryz.func30 rfl rfl fun X0 hX=>?_;simp only [Tryz.f30,go_sem]
  repeat' (first|simp only [*,go_sem,Nat.reduceLT,Nat.reduceLeDiff,Nat.reduceEqDiff,↓reduceIte,Nat.reduceAdd,]|((with_reducible refine bW [0,1,2,3] (hly) ?_ ?_ ?_ ?_);exact rfl;exact rfl;(focus ((simp only [go_sem];done)))))
 ·have hb:(e != 0)=false:=by rw [bne,he];rfl
  simp only [Bool.not_true,Bool.false_eq_true,if_false];obtain ⟨k1,k2,k3⟩:=h3 he;have hap:=zFk k1 hl hp hd;have hst:=fun h=>NB (i:=yi) (p:=yp) (q:=yq) (f:=yf) (t:=(eG (treeR r yi) l).1) hr h k2;have hsm:=fun h=>DR (a:=treeR r yi) (b:=(eG (treeR r yi) l).1) (by have:=k1.len;omega) h;unfold SY;simp only;generalize fX (treeR r yp) (eG (treeR r yi) l).1=E1 at hst ⊢;generalize eG (treeR r yi) l=T at *;obtain ⟨T1,e2⟩:=T;simp only at *;generalize treeR r yi=T0 at *;cases he2:(e2 == 0)
  ·simp only [Bool.not_false,if_true];clear h3 k1 k2 k3 hr hst hsm;refine ent aB aK Tryz.func30 rfl rfl fun X0 hX=>?_;simp only [Tryz.f30,go_sem]
   repeat' (first|simp only [*,go_sem,Nat.reduceLT,Nat.reduceLeDiff,Nat.reduceEqDiff,↓reduceIte,Nat.reduceAdd,]|((with_reducible refine bW [0,1,2,3] (hly) ?_ ?_ ?_ ?_);exact rfl;exact rfl;(focus ((simp only [go_sem];done))))|((with_reducible refine bW [0,1,2,3] (htr) ?_ ?_ ?_ ?_);exact rfl;exact rfl;(focus ((simp only [go_sem];done))))|((with_reducible refine kM (hap) ?_ ?_ ?_);exact rfl;exact fun _=>rfl))
  ·have k4:=k3 he2;have hst:=hst k4;have hsm:=hsm (by have:=k4.len;omega);obtain rfl:e2=0:=by simpa using he2
   simp only [Bool.not_true,Bool.false_eq_true,if_false];clear h3 k1 k2 k3 k4 hr;cases hs:fT T0 T1
   ·simp only [Bool.false_eq_true,if_false];refine ent aB aK Tryz.func30 rfl rfl fun X0 hX=>?_;simp only [Tryz.f30,go_sem]
    repeat' (first|simp only [*,go_sem,Nat.reduceLT,Nat.reduceLeDiff,Nat.reduceEqDiff,↓reduceIte,Nat.reduceAdd,beq_self_eq_true,Bool.not_false]|((with_reducible refine bW [0,1,2,3] (hly) ?_ ?_ ?_ ?_);exact rfl;exact rfl;(focus ((simp only [go_sem];done))))|((with_reducible refine bW [0,1,2,3] (htr) ?_ ?_ ?_ ?_);exact rfl;exact rfl;(focus ((simp only [go_sem];done))))|((with_reducible refine kM (hap) ?_ ?_ ?_);exact rfl;exact fun _=>rfl)|((with_reducible refine kM (hsm) ?_ ?_ ?_);exact rfl;exact fun _=>rfl)|((with_reducible refine bW [0,1,2,3] (hst) ?_ ?_ ?_ ?_);exact rfl;exact rfl;(focus ((simp only [go_sem];done)))))
   ·simp only [if_true];refine ent aB aK Tryz.func30 rfl rfl fun X0 hX=>?_;simp only [Tryz.f30,go_sem]
    repeat' (first|simp only [*,go_sem,Nat.reduceLT,Nat.reduceLeDiff,Nat.reduceEqDiff,↓reduceIte,Nat.reduceAdd,beq_self_eq_true,Bool.not_true]|((with_reducible refine bW [0,1,2,3] (hly) ?_ ?_ ?_ ?_);exact rfl;exact rfl;(focus ((simp only [go_sem];done))))|((with_reducible refine bW [0,1,2,3] (htr) ?_ ?_ ?_ ?_);exact rfl;exact rfl;(focus ((simp only [go_sem];done))))|((with_reducible refine kM (hap) ?_ ?_ ?_);exact rfl;exact fun _=>rfl)|((with_reducible refine kM (hsm) ?_ ?_ ?_);exact rfl;exact fun _=>rfl))
end Go.Proofs.YtlbfnbldeefgmaaGreatDoor
end
section
namespace Go.Proofs.YtlbfnbldeefgmaaGreatDoor
open Go Go.Dm Go.Proofs
set_option maxRecDepth 100000
set_option maxHeartbeats 8000000
def ZB (id:Int) (l:List Ly) (k:Nat):List Ly:=(l.take k).map (AN id)++l.drop k
theorem zCT (id:Int) (l:List Ly):ZB id l 0=l:=by simp [ZB]
theorem zGw (id:Int) (l:List Ly):ZB id l l.length=mQ l id:=by simp [ZB,mQ]
theorem zGx (id:Int) (l:List Ly) (k:Nat):(ZB id l k).length=l.length:=by simp [ZB];omega
theorem zJu {id:Int} {l:List Ly} {k:Nat} {x:Ly} (h:l[k]? = some x):(ZB id l k)[k]? = some x:=by
 have hlt:=(List.getElem?_eq_some_iff.1 h).1;unfold ZB;rw [List.getElem?_append_right (by simp;omega)];simp [Nat.min_eq_left (Nat.le_of_lt hlt),h]
theorem zGy {id:Int} {l:List Ly} {k:Nat} {x:Ly} (h:l[k]? = some x):(ZB id l k).set k (AN id x)=ZB id l (k+1):=by
 have hlt:=(List.getElem?_eq_some_iff.1 h).1;have hd:l.drop k=x::l.drop (k+1):=by
  rw [List.drop_eq_getElem_cons hlt,(List.getElem?_eq_some_iff.1 h).2]
 unfold ZB;rw [hd,List.set_append_right _ _ (by simp;omega),List.take_add_one,h];simp [Nat.min_eq_left (Nat.le_of_lt hlt)]
theorem MW {r:Rm} {s sn:List UInt8} (hr:OkR r) (hs:sn.length≤1000000000)
  (h3:((wsP r s).2 == 0)=true→(rD r sn == 0)=true→(sZ r (wsP r s).1.i == 0)=true→OkR ⟨cE r.N sn (wsP r s).1.i,mQ r.L (wsP r s).1.i,r.E,r.x⟩ ∧
   OkR ⟨cE (cE r.N sn (wsP r s).1.i) s r.x,mQ r.L (wsP r s).1.i++[⟨r.x,(wsP r s).1.i,0,false⟩],pZ r.E r.x [],r.x+1⟩∧OkG (mQ r.L (wsP r s).1.i++[⟨r.x,(wsP r s).1.i,0,false⟩])):
  aA Tryz.prog 14 [.c (.ptr 0 0),.c (.p (.s s)),.c (.p (.s sn))] (cB r) fun d h=>d=.c (.p (.i .i64 (kH r s sn).2))∧h=BB (kH r s sn).1:=by
 have hws:=WW (s:=s) hr;have hfr:=SQ (s:=sn) hr hs;have hdp:=zAv (a:=(wsP r s).1.i) hr;have hpu:=MY (r:=⟨r.N,mQ r.L (wsP r s).1.i,r.E,r.x⟩) (s:=sn) (n:=(wsP r s).1.i) (by have:=hr.nl;simp only;omega) hr.srt;have had:=fun h0 h1 h2=>zEm (r:=⟨cE r.N sn (wsP r s).1.i,mQ r.L (wsP r s).1.i,r.E,r.x⟩) (s:=s) (i0:=0) (p:=(wsP r s).1.i) (q:=0) (es:=[]) h0 h1 h2;have hll:=hr.ll;unfold kH;generalize wsP r s=y at *;obtain ⟨⟨yi,yp,yq,yf⟩,e⟩:=y;simp only [Ly.cv] at *;generalize rD r sn=e2 at *;generalize sZ r yi=e3 at *;have bad:∀ {c:List CV} {e:Int},aA Tryz.prog 14 [.c (.ptr 0 0),.c (.p (.s s)),.c (.p (.s sn))] (cB r) (fun d h=>d=.c (.p (.i .i64 e))∧h=cB r++[.box c])→aA Tryz.prog 14 [.c (.ptr 0 0),.c (.p (.s s)),.c (.p (.s sn))] (cB r) (fun d h=>d=.c (.p (.i .i64 e))∧h=BB r):=fun {c e} hc =>
  aA.perm [0,5,6,7,1,2,3] hc rfl rfl (by unfold BB cB;exact (by simp only [iD,tL,kW,iC,rH];(repeat' (first|exact rfl|exact True.intro|refine And.intro ?_ ?_))))
 cases he:(e == 0)
 ·have hb:(e != 0)=true:=by rw [bne,he];rfl
  simp only [Bool.not_false,if_true];refine bad (c:=[.p (.i .i64 yi),.p (.i .i64 yp),.p (.i .i64 yq),.p (.b yf)]) ?_;clear had h3 hfr hdp hpu;refine zFe aB aK Tryz.func14 rfl rfl fun X0 hX=>?_;simp only [Tryz.f14,go_sem]
  repeat' (first|exact ⟨⟩|refine sp ?_|refine uS [0,1,2,3] (hws) ?_)
 ·have hb:(e != 0)=false:=by rw [bne,he];rfl
  simp only [Bool.not_true,Bool.false_eq_true,if_false];cases he2:(e2 == 0)
  ·have hb2:(e2 != 0)=true:=by rw [bne,he2];rfl
   simp only [Bool.not_false,if_true];refine bad (c:=[.p (.i .i64 yi),.p (.i .i64 yp),.p (.i .i64 yq),.p (.b yf)]) ?_;clear had h3 hdp hpu;refine zFe aB aK Tryz.func14 rfl rfl fun X0 hX=>?_;simp only [Tryz.f14,go_sem]
   repeat' (first|exact ⟨⟩|refine sp ?_|refine uS [0,1,2,3] (hws) ?_|refine uS [0,1,2,3] (hfr) ?_)
  ·have hb2:(e2 != 0)=false:=by rw [bne,he2];rfl
   simp only [Bool.not_true,Bool.false_eq_true,if_false];cases he3:(e3 == 0)
   ·have hb3:(e3 != 0)=true:=by rw [bne,he3];rfl
    simp only [Bool.not_false,if_true];refine bad (c:=[.p (.i .i64 yi),.p (.i .i64 yp),.p (.i .i64 yq),.p (.b yf)]) ?_;clear had h3 hpu;refine zFe aB aK Tryz.func14 rfl rfl fun X0 hX=>?_;simp only [Tryz.f14,go_sem]
    repeat' (first|exact ⟨⟩|refine sp ?_|refine uS [0,1,2,3] (hws) ?_|refine uS [0,1,2,3] (hfr) ?_|refine uS [0,1,2,3] (hdp) ?_)
   ·have hb3:(e3 != 0)=false:=by rw [bne,he3];rfl
    simp only [Bool.not_true,Bool.false_eq_true,if_false];obtain ⟨k0,k1,k2⟩:=h3 he he2 he3;have hadd:=aA.wkA (args:=[.c (.ptr 0 0),.c (.p (.s s)),.agg [.p (.i .i64 0),.p (.i .i64 yi),.p (.i .i64 0),.p (.b false)],.c (.p .nil)]) (args':=[.c (.ptr 0 0),.c (.p (.s s)),.agg [.p (.i .i64 0),.p (.i .i64 yi),.p (.i .i64 0),.p (.b false)],.c (.p (.sl 7 (fJ [])))]) ⟨rfl,zKJ,⟨wkP.rfl,wkP.rfl,wkP.rfl,wkP.rfl,True.intro⟩,zKI,True.intro⟩ (had k0 k1 k2);clear had h3 k0 k1 k2;have hgl:(mQ r.L yi).length=r.L.length:=by simp [mQ]
    unfold zAx cB at hpu;unfold cB at hadd;simp only [hgl] at hpu hadd;generalize zKW ⟨cE r.N sn yi,mQ r.L yi,r.E,r.x⟩ s yi 0 []=c at hadd ⊢;generalize cE r.N sn yi=M at hpu hadd;refine aA.perm [0,1,2,3,6,7,8] (d1:=.c (.p (.i .i64 0))) (h1:=[.box [.own 6 0 c.N.length,.own 7 0 c.L.length,.mp 8,.p (.i .i64 c.x)],.dead,.dead,.dead,.box [.p (.i .i64 yi),.p (.i .i64 yp),.p (.i .i64 yq),.p (.b yf)],.dead,.arr 2 (bM c.N) false,.arr 4 (cZ c.L) false,.mp (oL c.E)]) ?_ rfl rfl (by unfold BB;exact (by simp only [iD,tL,kW,iC,rH];(repeat' (first|exact rfl|exact True.intro|refine And.intro ?_ ?_))));have hLz:=zCT yi r.L;refine zFe aB aK Tryz.func14 rfl rfl fun X0 hX=>?_;simp only [Tryz.f14,go_sem]
    repeat' (first|exact ⟨⟩|refine sp ?_|refine uS [0,1,2,3] (hws) ?_|refine uS [0,1,2,3] (hfr) ?_|refine uS [0,1,2,3] (hdp) ?_)
    refine dS aB aK (α:=Nat) (fun k=>⟨82,[(0,.c (.ptr 0 0)),(1,.c (.p (.s s))),(2,.c (.p (.s sn))),(7,.c (.ptr 4 0)),(38,.c (.p (.i .i64 r.L.length))),(39,.c (.p (.i .i64 k)))],[.box [.own 1 0 r.N.length,.own 2 0 r.L.length,.mp 3,.p (.i .i64 r.x)],.arr 2 (bM r.N) false,.arr 4 (cZ (ZB yi r.L k)) false,.mp (oL r.E),.box [.p (.i .i64 yi),.p (.i .i64 yp),.p (.i .i64 yq),.p (.b yf)]]⟩)
     (fun k=>k≤r.L.length) (fun k=>r.L.length-k) 0 (Nat.zero_le _) (cJ (by rw [hLz];exact aI (by rw [hX];rfl) rfl rfl (by simp only [aH,aL];(repeat' (first|exact rfl|exact True.intro|refine And.intro ?_ ?_))))) ?_
    intro k hk;have hkl:=zGx yi r.L k;by_cases hlt:k<r.L.length
    ·have hx:r.L[k]? = some r.L[k]:=List.getElem?_eq_getElem hlt;have hg:=lK (zJu (id:=yi) hx);have hst:=zGy (id:=yi) hx;have h1:decide ((k:Int)<(r.L.length:Int))=true:=decide_eq_true (by omega);have h2:(k:Int)<(r.L.length:Int):=by omega
     have h4:(0:Int)≤k:=by omega
     have w1:IntKind.i64.wrap ((k:Int)+1)=k+1:=wrap_i64 (by omega) (by omega);generalize r.L[k]=x at hx hg hst;obtain ⟨xi,xp,xs,xf⟩:=x;simp only [AN] at hg hst;clear hx hpu hadd hws hfr hdp hLz;have b1:k<(ZB yi r.L k).length:=by omega
     cases xf
     ·cases hq:(xi == yi)
      all_goals rw [hq] at hst
      all_goals simp only [Bool.or_false,Bool.false_or] at hst
      all_goals have hst:=PLift.up hst
      all_goals clear b1
      all_goals repeat' (first|exact ⟨⟩|refine sp ?_|((refine aN (id:=13) aB aK [28] [0,1,2,3,4,5,6,7,8,9,10,11,12,13,14,15,16,17,18,19,20,21,22,23,24,25,26,27,28] (by decide +kernel) ?_);(repeat' (first|(refine aT ?_)|((refine cV ?_ ?_ rfl rfl rfl ?_ ?_);(rotate_left 2);(focus ((repeat' (first|exact ⟨⟩|refine sp ?_));((refine And.intro ?_ ?_ <;> exact rfl))));(simp only [bI]))|((refine cU ?_ rfl rfl rfl ?_ ?_);(rotate_left 1);(focus ((repeat' (first|exact bG|refine aZ ?_ ?_));(all_goals ((repeat' (first|exact ⟨⟩|refine sp ?_));(try (exact rfl))))));(simp only [aG]))))))
      all_goals exact qB (k+1) (by omega) (by omega) (by rw [← hst.down];exact cJ (aI rfl rfl rfl (by simp only [aH,aL];(repeat' (first|exact rfl|exact True.intro|refine And.intro ?_ ?_)))))
     ·simp only [Bool.true_or] at hst;have hst:=PLift.up hst;clear b1
      repeat' (first|exact ⟨⟩|refine sp ?_|((refine aN (id:=13) aB aK [28] [0,1,2,3,4,5,6,7,8,9,10,11,12,13,14,15,16,17,18,19,20,21,22,23,24,25,26,27,28] (by decide +kernel) ?_);(repeat' (first|(refine aT ?_)|((refine cV ?_ ?_ rfl rfl rfl ?_ ?_);(rotate_left 2);(focus ((repeat' (first|exact ⟨⟩|refine sp ?_));((refine And.intro ?_ ?_ <;> exact rfl))));(simp only [bI]))|((refine cU ?_ rfl rfl rfl ?_ ?_);(rotate_left 1);(focus ((repeat' (first|exact bG|refine aZ ?_ ?_));(all_goals ((repeat' (first|exact ⟨⟩|refine sp ?_));(try (exact rfl))))));(simp only [aG]))))))
      exact qB (k+1) (by omega) (by omega) (by rw [← hst.down];exact cJ (aI rfl rfl rfl (by simp only [aH,aL];(repeat' (first|exact rfl|exact True.intro|refine And.intro ?_ ?_)))))
    ·have hke:k=r.L.length:=by omega
     subst hke;rw [zGw];have h1:decide ((r.L.length:Int)<(r.L.length:Int))=false:=decide_eq_false (by omega);clear hws hfr hdp hkl hLz;generalize mQ r.L yi=G at hpu hadd
     repeat' (first|exact ⟨⟩|refine sp ?_|refine uS [0,1,2,3] (hpu) ?_|refine uS [0,5,2,3] (hadd) ?_)
end Go.Proofs.YtlbfnbldeefgmaaGreatDoor
end
