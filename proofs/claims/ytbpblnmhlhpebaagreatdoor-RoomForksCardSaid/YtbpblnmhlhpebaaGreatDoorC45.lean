/- Part 46 of the proof of roomForks_card, set without needless blanks. No condition. -/
import Derived.Test.YtbpblnmhlhpebaaGreatDoorC44
set_option linter.unusedSimpArgs false
set_option linter.unusedVariables false
set_option maxRecDepth 100000
set_option maxHeartbeats 8000000
namespace Go.Proofs.YtbpblnmhlhpebaaGreatDoor
open Go Go.Dm Go.Proofs
section
theorem zIT {h:aD} {id:Nat} {l:List It} {K:DV→aD→Prop} (hu:∀ x∈l,∀ y∈l,x.p=y.p→x=y) (hsz:l.length<4611686018427387904) (hid:h[id]? = some (.arr 5 (aT l) false)) (hk:K (.tup []) (h.set id (.arr 5 (aT (fB l)) false))):
  aA Tryz.prog 100 [.c (.own id 0 l.length),.c (.clo 101 [])] h K :=
 aA.mono (zIt hu hid hsz) (by rintro _ _ ⟨rfl,rfl⟩;exact hk)
theorem zFn {t:List It} {l:List Ch} (ht:OkT t) (hl:l.length≤100000) (hp:∀ x∈l,x.p.length≤1000000000∧x.o.t<18446744073709551616∧x.n.t<18446744073709551616) (hd:∀ x∈l,x.n.d.length≤140737488355328):
  aA Tryz.prog 42 [.c (.p (.sl 5 (aT t))),.c (.p (.sl 10 (oX l)))] [] fun r h=>r=.tup [.c (.p (.sl 5 (aT (eL t l).1))),.c (.p (.i .i64 (eL t l).2))]∧h=[]:=by
 refine bJ ?_
 have hright:=MY (l:=l) (by omega) hp
 unfold eL
 cases hr:gQ l
 ·rw [hr] at hright
  refine zL0 aB Tryz.func42 rfl rfl fun X0 hX=>?_
  simp only [Tryz.f42,go_sem]
  refine cV aB aK ?_
  repeat' (simp only [*,go_sem,Nat.reduceLT,↓reduceIte])
  refine cV aB aK ?_
  repeat' (first|simp only [*,go_sem,Nat.reduceLT,Nat.reduceEqDiff,↓reduceIte,Bool.not_false]|((with_reducible refine bK (hright) ?_ ?_ ?_);exact rfl;exact fun _=>rfl))
  all_goals exact .inr ⟨_,rfl⟩
 ·rw [hr] at hright
  rw [if_neg (by decide)]
  have hrP:=PLift.up hr
  obtain ⟨R,hR⟩:∃ R,(if !(l.all (rC t)) then (([],17):List It × Int) else if decide ((120:Int)<((fB (FZ t l)).length:Int)) then ([],16) else if !iV (fB (FZ t l)) then ([],17) else (fB (FZ t l),0))=R:=⟨_,rfl⟩
  rw [hR]
  have hRP:=PLift.up hR
  clear hR
  refine zL0 aB Tryz.func42 rfl rfl fun X0 hX=>?_
  simp only [Tryz.f42,go_sem]
  refine cV aB aK ?_
  repeat' (simp only [*,go_sem,Nat.reduceLT])
  refine cV aB aK ?_
  repeat' (first|simp only [*,go_sem,Nat.reduceLT,Nat.reduceEqDiff,↓reduceIte,Bool.not_true]|((with_reducible refine bK (hright) ?_ ?_ ?_);exact rfl;exact fun _=>rfl))
  refine zDc aB rfl rfl rfl (by decide) (fun b K hK=>?_)
  repeat' (simp only [*,go_sem,Nat.reduceLT,↓reduceIte])
  refine hK _ ?_
  clear hK K hright hr
  refine cN aB aK (fun X1 hX1=>?_)
  repeat' (simp only [*,go_sem,Nat.reduceLT])
  clear hX1 X1
  refine zC2 7 5 rfl ?_
  refine lX ?_
  refine cN aB aK (fun X1 hX1=>?_)
  repeat' (simp only [*,go_sem,Nat.reduceLT,Nat.reduceEqDiff,↓reduceIte])
  clear hX1 X1
  refine oJ ?_
  refine NS (α:=Nat × List It) (fun x=>⟨70,[(0,.c (.p (.sl 5 (aT t)))),(6,.c (.p (.o (.map (some b))))),(7,.c (.own 0 0 x.2.length)),(16,.c (.p (.sl 10 (oX l)))),(17,.c (.p (.i .i64 l.length))),(18,.c (.p (.i .i64 x.1)))],[.arr 5 (aT x.2) false]⟩)
   (fun x=>nU (l.take x.1)) (fun x=>x.1≤l.length∧sW (l.take x.1)=x.2∧(l.take x.1).all (rC t)=true) (fun x=>l.length-x.1) (0,[]) ⟨Nat.zero_le _,rfl,rfl⟩ rfl (.inl (aI (by rw [hX];rfl) rfl rfl (by simp [aH,aL,aC,aG,aF,dR]))) ?_
  rintro ⟨i,out⟩ ⟨hi,hout,hfit⟩
  simp only at hi hout hfit
  have hol:out.length≤i:=by rw [← hout];exact Nat.le_trans (zA8 _) (List.length_take_le ..)
  by_cases hlt:i<l.length
  ·have hx:l[i]? = some l[i]:=List.getElem?_eq_getElem hlt
   have hg:=EW hx
   have hnw:=YE hx
   have hky:=YH hx
   have hft:(l.take (i+1)).all (rC t)=rC t l[i]:=by
    rw [List.take_add_one,hx,List.all_append,hfit,Bool.true_and]
    simp only [Option.toList_some,List.all_cons,List.all_nil,Bool.and_true]
   have hno:rC t l[i]=false→l.all (rC t)=false:=fun h=>by
    rw [Bool.eq_false_iff]
    intro h2
    have:=List.all_eq_true.1 h2 _ (List.getElem_mem hlt)
    rw [h] at this;cases this
   have h1:decide ((i:Int)<(l.length:Int))=true:=decide_eq_true (by omega)
   have w1:IntKind.i64.wrap ((i:Int)+1)=i+1:=wrap_i64 (by omega) (by omega)
   have hpx:=hp _ (List.getElem_mem hlt)
   have hdx:=hd _ (List.getElem_mem hlt)
   generalize l[i]=c at *
   rw [hout] at hnw
   have hfc:=zJ9 (t:=t) (p:=c.p) (kk:=c.k) (k:=c.o.k) (m:=c.o.m) (tt:=c.o.t) (d:=c.o.d) (k':=c.n.k) (m':=c.n.m) (tt':=c.n.t) (d':=c.n.d) ht
   rw [show rC t ⟨c.p,c.k,⟨c.o.k,c.o.m,c.o.t,c.o.d⟩,⟨c.n.k,c.n.m,c.n.t,c.n.d⟩⟩=rC t c from rfl] at hfc
   refine cN aB aK (fun X1 hX1=>?_)
   repeat' (simp only [*,go_sem,Nat.reduceLT,Nat.reduceEqDiff,↓reduceIte])
   clear hX1 X1
   refine cN aB aK (fun X1 hX1=>?_)
   repeat' (simp only [*,go_sem,↓reduceIte])
   clear hX1 X1
   refine lX ?_
   refine oJ ?_
   refine cN aB aK (fun X1 hX1=>?_)
   repeat' (first|simp only [*,go_sem,Nat.reduceLT,Nat.reduceLeDiff,Nat.reduceEqDiff,↓reduceIte,Nat.reduceAdd]|((with_reducible refine And.intro ?_ ?_);(focus (omega))))
   clear hX1 X1
   cases hf:rC t c
   ·rw [hf] at hfc
    obtain rfl:([],17)=R:=by rw [← hRP.down,hno hf];rfl
    refine cN aB aK (fun X1 hX1=>?_)
    repeat' (first|simp only [*,go_sem,Nat.reduceLT,Nat.reduceLeDiff,Nat.reduceEqDiff,↓reduceIte,Nat.reduceAdd,Bool.not_false]|((with_reducible refine bK (hfc) ?_ ?_ ?_);exact rfl;exact fun _=>rfl))
    all_goals exact .inr ⟨_,rfl⟩
   ·rw [hf] at hfc hft
    have hJ:=PLift.up hft
    clear hft hno
    refine cN aB aK (fun X1 hX1=>?_)
    repeat' (first|simp only [*,go_sem,Nat.reduceLT,Nat.reduceLeDiff,Nat.reduceEqDiff,↓reduceIte,Nat.reduceAdd,Bool.not_true]|((with_reducible refine bK (hfc) ?_ ?_ ?_);exact rfl;exact fun _=>rfl))
    clear hX1 X1
    refine lX (zCD aB 3 c.p rfl Tryz.underlying167 Tryz.underlying9 rfl rfl rfl (Nat.le_trans hpx.1 (by decide)) fun K hK=>?_)
    repeat' (simp only [*,go_sem,Nat.reduceLT,Nat.reduceEqDiff,↓reduceIte])
    refine hK _ _ _ rfl rfl rfl ?_
    clear hK K
    rw [zLD]
    cases hk2:(c.k != 2)
    ·rw [show uY c=[] by unfold uY;rw [hk2];rfl,List.append_nil] at hnw
     have hN:=PLift.up hnw
     have hY:=PLift.up hky
     clear hnw hky
     refine gM aB aK (fun X1 hX1=>?_)
     repeat' (simp only [*,go_sem,Nat.reduceLT,Nat.reduceEqDiff,↓reduceIte])
     refine gM aB aK (fun X1 hX1=>?_)
     repeat' (simp only [*,go_sem,Nat.reduceLT,Nat.reduceEqDiff,↓reduceIte])
     exact zGO (i+1,out) ⟨by omega,hN.down,hJ.down⟩ (by simp only;omega) hY.down.symm (.inl (aI rfl rfl rfl (by simp [aH,aL,aC,aG,aF])))
    ·rw [show uY c=[⟨c.p,c.n⟩] by unfold uY;rw [hk2];rfl] at hnw
     have hN:=PLift.up hnw
     have hY:=PLift.up hky
     clear hnw hky
     refine gM aB aK (fun X1 hX1=>?_)
     repeat' (first|simp only [*,go_sem,Nat.reduceLT,Nat.reduceEqDiff,↓reduceIte]|((refine aP (id:=12) aB aK [7,8] [1,2,3,4,5,6,7,0,8,9] (by decide +kernel) ?_);(repeat' (first|(refine bA ?_)|((refine dB ?_ ?_ rfl rfl rfl ?_ ?_);(rotate_left 2);(focus ((repeat' (first|simp only [*,go_sem,Nat.reduceLT,Nat.reduceLeDiff,Nat.reduceEqDiff,↓reduceIte,Nat.reduceAdd,Nat.reduceMul,Nat.reduceBEq]|((with_reducible refine And.intro ?_ ?_);(focus (first|omega|decide)))));((refine And.intro ?_ ?_ <;> exact rfl))));(simp only [aJ]))|((refine dC ?_ rfl rfl rfl ?_ ?_);(rotate_left 1);(focus ((repeat' (first|exact bP|refine bE ?_ ?_));(all_goals ((repeat' (first|simp only [*,go_sem,Nat.reduceLT,Nat.reduceLeDiff,Nat.reduceEqDiff,↓reduceIte,Nat.reduceAdd]|((with_reducible refine bK (zK hdx) ?_ ?_ ?_);exact rfl;exact fun _=>rfl)));(try (exact rfl))))));(simp only [aJ]))))))
     refine gM aB aK (fun X1 hX1=>?_)
     repeat' (simp only [*,go_sem,Nat.reduceLT,Nat.reduceEqDiff,↓reduceIte])
     exact zGO (i+1,out++[⟨c.p,c.n⟩]) ⟨by omega,hN.down,hJ.down⟩ (by simp only;omega) hY.down.symm (.inr ⟨0,3,5,_,by decide,Nat.le_refl _,Nat.zero_le _,Nat.zero_lt_succ _,rfl,aI rfl rfl rfl (by simp [aH,aL,aC,aG,aF,tG,sF,sU])⟩)
  ·have h1:decide ((i:Int)<(l.length:Int))=false:=decide_eq_false (by omega)
   rw [List.take_of_length_le (by omega)] at hout hfit
   rw [List.take_of_length_le (by omega)]
   have hcp:=zG9 (t:=t) (Nat.le_trans ht.len (by decide)) (fun x hx=>Nat.le_trans (ht.dlen x hx) (by decide))
   have htl:=ht.len
   refine cN aB aK (fun X1 hX1=>?_)
   repeat' (simp only [*,go_sem,Nat.reduceLT,Nat.reduceEqDiff,↓reduceIte])
   clear hX1 X1
   refine cN aB aK (fun X1 hX1=>?_)
   repeat' (simp only [*,go_sem,↓reduceIte])
   clear hX1 X1 h1
   refine lX ?_
   refine cN aB aK (fun X1 hX1=>?_)
   repeat' (first|simp only [*,go_sem,Nat.reduceLT,Nat.reduceEqDiff,↓reduceIte]|((with_reducible refine bK (hcp) ?_ ?_ ?_);exact rfl;exact fun _=>rfl))
   clear hX1 X1
   refine oJ ?_
   refine NS (α:=Nat × List It) (fun x=>⟨70,[(6,.c (.p (.o (.map (some b))))),(7,.c (.own 0 0 x.2.length)),(43,.c (.p (.sl 5 (aT t)))),(44,.c (.p (.i .i64 t.length))),(45,.c (.p (.i .i64 x.1)))],[.arr 5 (aT x.2) false]⟩)
    (fun _=>nU l) (fun x=>x.1≤t.length∧out++rG (t.take x.1) (nU l)=x.2) (fun x=>t.length-x.1) (0,out) ⟨Nat.zero_le _,by simp [rG]⟩ rfl (.inl (aI (by rw [hX];rfl) rfl rfl (by simp [aH,aL,aC,aG,aF]))) ?_
   rintro ⟨k,row⟩ ⟨hk,hrow⟩
   simp only at hk hrow
   have hrl:row.length≤100000+120:=by
    have:=zCW (t.take k) (nU l)
    rw [← hrow,List.length_append]
    rw [List.length_take] at this
    omega
   by_cases hlt2:k<t.length
   ·have hx:t[k]? = some t[k]:=List.getElem?_eq_getElem hlt2
    have hg:=cB hx
    have hrt:=zAb (ks:=nU l) hx
    have h1:decide ((k:Int)<(t.length:Int))=true:=decide_eq_true (by omega)
    have w1:IntKind.i64.wrap ((k:Int)+1)=k+1:=wrap_i64 (by omega) (by omega)
    have hpx:=ht.plen _ (List.getElem_mem hlt2)
    generalize t[k]=x at *
    have hrt2:out++rG (t.take (k+1)) (nU l)=row++EY (nU l) x:=by rw [hrt,← List.append_assoc,hrow]
    clear hrt hrow
    unfold EY at hrt2
    refine cN aB aK (fun X1 hX1=>?_)
    repeat' (simp only [*,go_sem,Nat.reduceLT,Nat.reduceEqDiff,↓reduceIte])
    clear hX1 X1
    refine cN aB aK (fun X1 hX1=>?_)
    repeat' (simp only [*,go_sem,↓reduceIte])
    clear hX1 X1
    refine lX ?_
    refine oJ ?_
    refine cN aB aK (fun X1 hX1=>?_)
    repeat' (first|simp only [*,go_sem,Nat.reduceLT,Nat.reduceLeDiff,Nat.reduceEqDiff,↓reduceIte,Nat.reduceAdd]|((with_reducible refine And.intro ?_ ?_);(focus (omega))))
    clear hX1 X1
    refine lX (WL aB 3 x.p rfl Tryz.underlying167 Tryz.underlying9 Tryz.zeroValue4 rfl rfl rfl (Nat.le_trans hpx (by decide)) fun K hK=>?_)
    repeat' (simp only [*,go_sem,Nat.reduceLT,Nat.reduceEqDiff,↓reduceIte])
    refine hK _ _ _ (by decide) rfl rfl (fun K2 hK2=>?_)
    clear hK K
    cases hc:(nU l).contains x.p
    ·rw [hc,if_pos (by decide)] at hrt2
     have hN:=PLift.up hrt2
     clear hrt2
     repeat' (simp only [*,go_sem,Nat.reduceLT,↓reduceIte,Bool.not_false])
     refine hK2 _ ?_
     clear hK2 K2 hc
     rw [zLD]
     refine gM aB aK (fun X1 hX1=>?_)
     repeat' (first|simp only [*,go_sem,Nat.reduceLT,Nat.reduceLeDiff,Nat.reduceEqDiff,↓reduceIte,Nat.reduceAdd,Nat.reduceMul,Nat.reduceBEq]|((with_reducible refine And.intro ?_ ?_);(focus (first|omega|decide))))
     refine gM aB aK (fun X1 hX1=>?_)
     repeat' (simp only [*,go_sem,Nat.reduceLT,Nat.reduceEqDiff,↓reduceIte])
     exact zGO (k+1,row++[x]) ⟨by omega,hN.down⟩ (by simp only;omega) rfl (.inr ⟨0,3,5,_,by decide,Nat.le_refl _,Nat.zero_le _,Nat.zero_lt_succ _,rfl,aI rfl rfl rfl (by simp [aH,aL,aC,aG,aF,tG,sF,sU])⟩)
    ·rw [hc,if_neg (by decide),List.append_nil] at hrt2
     have hN:=PLift.up hrt2
     clear hrt2
     repeat' (simp only [*,go_sem,Nat.reduceLT,↓reduceIte,Bool.not_true])
     refine hK2 _ ?_
     clear hK2 K2 hc
     rw [zLD]
     refine gM aB aK (fun X1 hX1=>?_)
     repeat' (simp only [*,go_sem,↓reduceIte])
     refine gM aB aK (fun X1 hX1=>?_)
     repeat' (simp only [*,go_sem,Nat.reduceLT,Nat.reduceEqDiff,↓reduceIte])
     exact zGO (k+1,row) ⟨by omega,hN.down⟩ (by simp only;omega) rfl (.inl (aI rfl rfl rfl (by simp [aH,aL,aC,aG,aF])))
   ·have h1:decide ((k:Int)<(t.length:Int))=false:=decide_eq_false (by omega)
    rw [List.take_of_length_le (by omega),← hout] at hrow
    refine cN aB aK (fun X1 hX1=>?_)
    repeat' (simp only [*,go_sem,Nat.reduceLT,Nat.reduceEqDiff,↓reduceIte])
    clear hX1 X1
    refine cN aB aK (fun X1 hX1=>?_)
    repeat' (simp only [*,go_sem,↓reduceIte])
    clear hX1 X1 h1
    have hrow2:FZ t l=row:=hrow
    have hR:=hRP.down
    rw [hfit,if_neg (by decide)] at hR
    have hu:=zEA ht.srt hrP.down
    have hmo:∀ x∈fB (FZ t l),x.p.length≤1000000000∧x.n.t<18446744073709551616:=fun x hx=>by
     rcases zDH hx with ⟨c,hc,rfl⟩|hx
     ·exact ⟨(hp c hc).1,(hp c hc).2.2⟩
     ·exact ⟨Nat.le_trans (ht.plen x hx) (by decide),ht.tlen x hx⟩
    have hln:(fB (FZ t l)).length=(FZ t l).length:=wZ _
    rw [hrow2] at hR hu hmo hln
    have htr:=uL (t:=fB row) (by omega) (fun x hx=>(hmo x hx).1) (fun x hx=>(hmo x hx).2)
    have hsl:(fB row).length≤100120:=by omega
    subst hR
    clear hout hrow hrow2 hmo hp hd hcp hfit hRP hrP hlt hlt2 htl
    refine cN aB aK (fun X1 hX1=>?_)
    repeat' (first|simp only [*,go_sem,Nat.reduceLT,Nat.reduceEqDiff,↓reduceIte]|refine zIT hu (by omega) rfl ?_)
    have hlen:(fB row).length=row.length:=wZ _
    rw [← hlen]
    clear hu hln hlen hrl hX1 X1
    generalize fB row=m at *
    cases hd:decide ((120:Int)<(m.length:Int))
    ·rw [if_neg (by decide)]
     cases hq:iV m
     ·rw [hq] at htr
      rw [if_pos (by decide)]
      refine gM aB aK (fun X1 hX1=>?_)
      repeat' (first|simp only [*,go_sem,Nat.reduceLT,Nat.reduceEqDiff,↓reduceIte,Bool.not_false]|((with_reducible refine bK (htr) ?_ ?_ ?_);exact rfl;exact fun _=>rfl)|((with_reducible apply aA.frz);exact rfl;exact rfl))
      all_goals exact .inr ⟨_,rfl⟩
     ·rw [hq] at htr
      rw [if_neg (by decide)]
      refine gM aB aK (fun X1 hX1=>?_)
      repeat' (first|simp only [*,go_sem,Nat.reduceLT,Nat.reduceEqDiff,↓reduceIte,Bool.not_true]|((with_reducible refine bK (htr) ?_ ?_ ?_);exact rfl;exact fun _=>rfl)|((with_reducible apply aA.frz);exact rfl;exact rfl))
    ·rw [if_pos rfl]
     refine gM aB aK (fun X1 hX1=>?_)
     repeat' (simp only [*,go_sem,Nat.reduceLT,Nat.reduceEqDiff,↓reduceIte])
     all_goals exact .inr ⟨_,rfl⟩
end
section
theorem QN {r:Rm} {s:List UInt8} {l:List Ch} (hr:OkR r) (hl:l.length≤100000) (hp:∀ x∈l,x.p.length≤1000000000∧x.o.t<18446744073709551616∧x.n.t<18446744073709551616) (hd:∀ x∈l,x.n.d.length≤140737488355328)
  (h3:((wsP r s).2 == 0)=true→OkT (treeR r (wsP r s).1.i)∧OkT (treeR r (wsP r s).1.p)∧(((eL (treeR r (wsP r s).1.i) l).2 == 0)=true→OkT (eL (treeR r (wsP r s).1.i) l).1)):
  aA Tryz.prog 10 [.c (.ptr 0 0),.c (.p (.s s)),.c (.p (.sl 10 (oX l)))] (bX r) fun d h=>d=.c (.p (.i .i64 (gP r s l).2))∧h=bX (gP r s l).1:=by
 have hly:=WD (s:=s) hr
 have htr:=jM (a:=(wsP r s).1.i) hr
 unfold gP
 generalize hy:wsP r s=y at *
 obtain ⟨⟨yi,yp,yq,yf⟩,e⟩:=y
 simp only [Ly.cv] at *
 cases he:(e == 0)
 ·have hb:(e != 0)=true:=by rw [bne,he];rfl
  simp only [Bool.not_false,if_true]
  clear h3 htr hr
  refine ent aB aK Tryz.func10 rfl rfl fun X0 hX=>?_
  simp only [Tryz.f10,go_sem]
  repeat' (first|simp only [*,go_sem,Nat.reduceLT,Nat.reduceLeDiff,Nat.reduceEqDiff,↓reduceIte,Nat.reduceAdd]|((with_reducible refine aV [0,1,2,3] (hly) ?_ ?_ ?_ ?_);exact rfl;exact rfl;(focus ((simp only [go_sem];done)))))
 ·have hb:(e != 0)=false:=by rw [bne,he];rfl
  simp only [Bool.not_true,Bool.false_eq_true,if_false]
  obtain ⟨k1,k2,k3⟩:=h3 he
  have hap:=zFn k1 hl hp hd
  have hst:=fun h=>MH (i:=yi) (p:=yp) (q:=yq) (f:=yf) (t:=(eL (treeR r yi) l).1) hr h k2
  have hsm:=fun h=>AY (a:=treeR r yi) (b:=(eL (treeR r yi) l).1) (by have:=k1.len;omega) h
  unfold YT
  simp only
  generalize fM (treeR r yp) (eL (treeR r yi) l).1=E1 at hst ⊢
  generalize eL (treeR r yi) l=T at *
  obtain ⟨T1,e2⟩:=T
  simp only at *
  generalize treeR r yi=T0 at *
  cases he2:(e2 == 0)
  ·simp only [Bool.not_false,if_true]
   clear h3 k1 k2 k3 hr hst hsm
   refine ent aB aK Tryz.func10 rfl rfl fun X0 hX=>?_
   simp only [Tryz.f10,go_sem]
   repeat' (first|simp only [*,go_sem,Nat.reduceLT,Nat.reduceLeDiff,Nat.reduceEqDiff,↓reduceIte,Nat.reduceAdd]|((with_reducible refine aV [0,1,2,3] (hly) ?_ ?_ ?_ ?_);exact rfl;exact rfl;(focus ((simp only [go_sem];done))))|((with_reducible refine aV [0,1,2,3] (htr) ?_ ?_ ?_ ?_);exact rfl;exact rfl;(focus ((simp only [go_sem];done))))|((with_reducible refine bK (hap) ?_ ?_ ?_);exact rfl;exact fun _=>rfl))
  ·have k4:=k3 he2
   have hst:=hst k4
   have hsm:=hsm (by have:=k4.len;omega)
   obtain rfl:e2=0:=by simpa using he2
   simp only [Bool.not_true,Bool.false_eq_true,if_false]
   clear h3 k1 k2 k3 k4 hr
   cases hs:fJ T0 T1
   ·simp only [Bool.false_eq_true,if_false]
    refine ent aB aK Tryz.func10 rfl rfl fun X0 hX=>?_
    simp only [Tryz.f10,go_sem]
    repeat' (first|simp only [*,go_sem,Nat.reduceLT,Nat.reduceLeDiff,Nat.reduceEqDiff,↓reduceIte,Nat.reduceAdd,beq_self_eq_true,Bool.not_false]|((with_reducible refine aV [0,1,2,3] (hly) ?_ ?_ ?_ ?_);exact rfl;exact rfl;(focus ((simp only [go_sem];done))))|((with_reducible refine aV [0,1,2,3] (htr) ?_ ?_ ?_ ?_);exact rfl;exact rfl;(focus ((simp only [go_sem];done))))|((with_reducible refine bK (hap) ?_ ?_ ?_);exact rfl;exact fun _=>rfl)|((with_reducible refine bK (hsm) ?_ ?_ ?_);exact rfl;exact fun _=>rfl)|((with_reducible refine aV [0,1,2,3] (hst) ?_ ?_ ?_ ?_);exact rfl;exact rfl;(focus ((simp only [go_sem];done)))))
   ·simp only [if_true]
    refine ent aB aK Tryz.func10 rfl rfl fun X0 hX=>?_
    simp only [Tryz.f10,go_sem]
    repeat' (first|simp only [*,go_sem,Nat.reduceLT,Nat.reduceLeDiff,Nat.reduceEqDiff,↓reduceIte,Nat.reduceAdd,beq_self_eq_true,Bool.not_true]|((with_reducible refine aV [0,1,2,3] (hly) ?_ ?_ ?_ ?_);exact rfl;exact rfl;(focus ((simp only [go_sem];done))))|((with_reducible refine aV [0,1,2,3] (htr) ?_ ?_ ?_ ?_);exact rfl;exact rfl;(focus ((simp only [go_sem];done))))|((with_reducible refine bK (hap) ?_ ?_ ?_);exact rfl;exact fun _=>rfl)|((with_reducible refine bK (hsm) ?_ ?_ ?_);exact rfl;exact fun _=>rfl))
end
end Go.Proofs.YtbpblnmhlhpebaaGreatDoor
