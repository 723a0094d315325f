/- Part 36 of the proof of roomForks_card, set without needless blanks. No condition. -/
import Derived.Test.YtbpblnmhlhpebaaGreatDoorC34
set_option linter.unusedSimpArgs false
set_option linter.unusedVariables false
set_option maxRecDepth 100000
set_option maxHeartbeats 8000000
namespace Go.Proofs.YtbpblnmhlhpebaaGreatDoor
open Go Go.Dm Go.Proofs
section
def GZ (l:List Ly) (ids:List Int):List Int:=ids.flatMap (sH l)
theorem VJ {l:List Ly}:∀ (ids:List Int),(GZ l ids).length≤ids.length*l.length
 | []=>by simp [GZ]
 | a::ids=>by
  have h1:=VZ l a
  have h2:=VJ (l:=l) ids
  simp only [GZ,List.flatMap_cons,List.length_append,List.length_cons,Nat.succ_mul] at h2 ⊢
  omega
theorem zGS (l:List Ly) (ids:List Int):(l.filter fun x=>!goK (GZ l ids) x)=iN l ids:=by
 unfold iN
 congr 1
 funext x
 simp only [goK,Bool.not_not,GZ]
 rw [Bool.eq_iff_iff]
 simp [List.mem_flatMap]
theorem zJ8 {l:List Ly} {ids:List Int} (hl:l.length≤900) (hi:ids.length≤900) (hgr:OkG l):aA Tryz.prog 138 [.c (.p (.sl 4 (dZ l))),.c (.p (.sl 1 (cW ids)))] [] fun r h=>r=.c (.own 0 0 (dZ (iN l ids)).length)∧h=[.arr 4 (dZ (iN l ids)) false]:=by
 refine aA.rowP ?_
 have hcl:=zG4 (l:=l) (by omega)
 rw [lL] at hcl
 have hA:=fun a=>RO (l:=l) (a:=a) (by omega) hgr
 have hbd:∀ k,(GZ l (ids.take k)).length≤810000:=fun k=>by
  have h1:(ids.take k).length≤900:=by rw [List.length_take];omega
  have h2:=VJ (l:=l) (ids.take k)
  have h3:(ids.take k).length*l.length≤900*900:=Nat.mul_le_mul h1 hl
  omega
 have hfin:∀ {K:DV→aD→Prop},(∀ es:List (List PV),es.take (iN l ids).length=dZ (iN l ids)→K (.c (.own 2 0 (iN l ids).length)) [.box [.own 1 0 (GZ l ids).length],.arr 1 (cW (GZ l ids)) false,.arr 4 es false]) →
   aA Tryz.prog 209 [.c (.own 2 0 l.length),.c (.clo 210 [.ptr 0 0])] [.box [.own 1 0 (GZ l ids).length],.arr 1 (cW (GZ l ids)) false,.arr 4 (dZ l) false] K:=fun hk=>by
  have h0:=hbd ids.length
  rw [List.take_length] at h0
  refine zCl (by omega) (by omega) ?_
  rw [zGS];exact hk
 generalize iN l ids=G at hfin ⊢
 refine TM aB aK Tryz.func138 rfl rfl fun X0 hX=>?_
 simp only [Tryz.f138,go_sem]
 repeat' (simp only [*,go_sem,Nat.reduceLT,Nat.reduceEqDiff,↓reduceIte])
 refine fZ aB aK (α:=Nat) (fun k=>⟨24,[(0,.c (.p (.sl 4 (dZ l)))),(5,.c (.ptr 0 0)),(8,.c (.p (.sl 1 (cW ids)))),(9,.c (.p (.i .i64 ids.length))),(10,.c (.p (.i .i64 k)))],[.box [.own 1 0 (GZ l (ids.take k)).length],.arr 1 (cW (GZ l (ids.take k))) false]⟩)
  (fun k=>k≤ids.length) (fun k=>ids.length-k) 0 (Nat.zero_le _) ((WO 0 0 1 rfl rfl (by rw [hX];exact Nat.le_refl _)).trans (eZ (aI (by rw [hX];rfl) rfl rfl (by simp only [aH,aL];(repeat' (first|exact rfl|exact True.intro|refine And.intro ?_ ?_)))))) ?_
 intro k hkl
 have hbk:=hbd k
 by_cases hlt:k<ids.length
 ·have hx:ids[k]? = some ids[k]:=List.getElem?_eq_getElem hlt
  have hg:=sM hx
  have h1:decide ((k:Int)<(ids.length:Int))=true:=decide_eq_true (by omega)
  have h2:(k:Int)<(ids.length:Int):=by omega
  have h3:(0:Int)≤k:=by omega
  have w1:IntKind.i64.wrap ((k:Int)+1)=k+1:=wrap_i64 (by omega) (by omega)
  have ht:GZ l (ids.take (k+1))=GZ l (ids.take k)++sH l ids[k]:=by
   unfold GZ
   rw [List.take_add_one,hx,List.flatMap_append]
   simp
  have hAk:=hA ids[k]
  have hal:=VZ l ids[k]
  rw [eT] at hAk
  generalize ids[k]=x at hx hg ht hAk hal
  generalize sH l x=A at hAk ht hal
  generalize GZ l (ids.take k)=S at hbk ht
  have hlen:(GZ l (ids.take (k+1))).length=S.length+A.length:=by rw [ht,List.length_append]
  have ht:=PLift.up ht
  have hlen:=PLift.up hlen
  have htk:(cW A).take A.length=cW A:=by rw [← eT A,List.take_length]
  have hak:∀ {h:aD} {K:DV→aD→Prop},K (.c (.own h.length 0 A.length)) (h++[.arr 1 (cW A) false])→aA Tryz.prog 125 [.c (.p (.sl 4 (dZ l))),.c (.p (.i .i64 x))] h K:=fun {h K} hk=>aV [] hAk rfl rfl (by simp only [go_sem]) (by simpa [DV.rn,CV.rn,Dm.rn,jG,DB.rn] using hk)
  clear hx hA hfin hbd hcl hAk
  repeat' (first|simp only [*,go_sem,Nat.reduceLT,Nat.reduceEqDiff,↓reduceIte]|((refine aP (id:=5) aB aK [3,4,5] [1,2,3,0,4,5] (by decide +kernel) ?_);(repeat' (first|(refine bA ?_)|((refine dB ?_ ?_ rfl rfl rfl ?_ ?_);(rotate_left 2);(focus ((repeat' (first|simp only [*,go_sem,Nat.reduceLT,Nat.reduceLeDiff,Nat.reduceEqDiff,↓reduceIte,Nat.reduceAdd,Nat.reduceBEq]|refine hak ?_|((with_reducible refine And.intro ?_ ?_);(focus (omega)))));((refine And.intro ?_ ?_ <;> exact rfl))));(simp only [aJ,bQ]))|((refine dC ?_ rfl rfl rfl ?_ ?_);(rotate_left 1);(focus ((repeat' (first|exact bP|refine bE ?_ ?_));(all_goals ((repeat' (simp only [*,go_sem,Nat.reduceLT,Nat.reduceEqDiff,↓reduceIte]));(try (exact rfl))))));(simp only [aJ]))))))
  exact AJ (k+1) (by omega) (by omega) (by rw [hlen.down,ht.down];exact gD (lI [0,3] rfl (by simp only [gU,kO,gS];(repeat' (first|exact rfl|exact True.intro|refine And.intro ?_ ?_))) rfl (by simp only [pY,wS];(repeat' (first|exact rfl|exact True.intro|refine And.intro ?_ ?_)))))
 ·have hke:k=ids.length:=by omega
  subst hke
  rw [List.take_length] at hbk ⊢
  have h1:decide ((ids.length:Int)<(ids.length:Int))=false:=decide_eq_false (by omega)
  clear hA hbd
  generalize GZ l ids=S at hbk hfin
  repeat' (first|simp only [*,go_sem,Nat.reduceLT,Nat.reduceEqDiff,↓reduceIte,Nat.reduceAdd]|((with_reducible refine aV [] (hcl) ?_ ?_ ?_ ?_);exact rfl;exact rfl;(focus ((simp only [go_sem];done)))))
  refine aA.sub [0,1,2] (hfin (K:=fun d h'=>∃ es:List (List PV),es.take G.length=dZ G∧d=.c (.own 2 0 G.length)∧h'=[.box [.own 1 0 S.length],.arr 1 (cW S) false,.arr 4 es false]) fun es he=>⟨es,he,rfl,rfl⟩) rfl (by simp only [go_sem];done) ?_
  rintro d h' - ⟨es,he,rfl,rfl⟩
  simp only [go_sem]
  repeat' (simp only [*,go_sem,Nat.reduceLT,↓reduceIte])
  exact .inr ⟨2,0,es,rfl,rfl,he⟩
end
section
theorem WD {r:Rm} {s:List UInt8} (hr:OkR r):aA Tryz.prog 40 [.c (.ptr 0 0),.c (.p (.s s))] (bX r) fun d h=>d=.tup [.agg (wsP r s).1.cv,.c (.p (.i .i64 (wsP r s).2))]∧h=bX r:=by
 have hl:=lZ (s:=s) hr
 unfold wsP
 generalize cP r s=ye at hl ⊢
 obtain ⟨⟨yi,yp,yq,yf⟩,e⟩:=ye
 simp only at hl ⊢
 cases he:(e == 0) <;> cases yf
 all_goals simp only [Bool.false_and,Bool.true_and,if_true,Bool.false_eq_true,if_false]
 all_goals
  refine ent aB aK Tryz.func40 rfl rfl fun X0 hX=>?_
  simp only [Tryz.f40,go_sem]
  repeat' (first|simp only [*,go_sem,Nat.reduceLT,Nat.reduceLeDiff,Nat.reduceEqDiff,↓reduceIte,Nat.reduceAdd]|((with_reducible refine aV [0,1,2,3] (hl) ?_ ?_ ?_ ?_);exact rfl;exact rfl;(focus ((simp only [go_sem];done)))))
 all_goals simp [ly0]
theorem zF1 {r:Rm} {s:List UInt8} (hr:OkR r):aA Tryz.prog 52 [.c (.ptr 0 0),.c (.p (.s s))] (bX r) fun d h=>d=.tup [.agg (snP r s).1.cv,.c (.p (.i .i64 (snP r s).2))]∧h=bX r:=by
 have hl:=lZ (s:=s) hr
 unfold snP
 generalize cP r s=ye at hl ⊢
 obtain ⟨⟨yi,yp,yq,yf⟩,e⟩:=ye
 simp only at hl ⊢
 cases he:(e == 0) <;> cases yf
 all_goals simp only [Bool.false_and,Bool.true_and,Bool.not_true,Bool.not_false,if_true,Bool.false_eq_true,if_false]
 all_goals
  refine ent aB aK Tryz.func52 rfl rfl fun X0 hX=>?_
  simp only [Tryz.f52,go_sem]
  repeat' (first|simp only [*,go_sem,Nat.reduceLT,Nat.reduceLeDiff,Nat.reduceEqDiff,↓reduceIte,Nat.reduceAdd,Bool.not_true,Bool.not_false]|((with_reducible refine aV [0,1,2,3] (hl) ?_ ?_ ?_ ?_);exact rfl;exact rfl;(focus ((simp only [go_sem];done)))))
 all_goals simp [ly0]
theorem zB1 {h:aD} {i n:Nat} {l:List Ly} {a:Int} {K:DV→aD→Prop} (hl:l.length≤100000) (hn:n=l.length) (h0:h[i]? = some (.arr 4 (dZ l) false)) (hk:K (.c (.own h.length 0 (bS l a).length)) (h++[.arr 1 (cW (bS l a)) false])):
  aA Tryz.prog 110 [.c (.own i 0 n),.c (.p (.i .i64 a))] h K:=by
 refine zHv rfl (by rw [hn,← lL,List.take_length]) (zIn hl) h0 (by simp [wP,oW,jD,cW,tU]) ?_
 simpa [DV.sh,CV.sh,DB.sh,eT] using hk
theorem CZ {r:Rm} {a:Int} (hr:OkR r):aA Tryz.prog 49 [.c (.ptr 0 0),.c (.p (.i .i64 a))] (bX r) fun d h=>d=.c (.p (.i .i64 (mL r a)))∧h=bX r:=by
 have hl:=hr.ll
 have hk:∀ {h:aD} {i:Nat} {K:DV→aD→Prop},h[i]? = some (.arr 4 (dZ r.L) false)→K (.c (.own h.length 0 (bS r.L a).length)) (h++[.arr 1 (cW (bS r.L a)) false])→aA Tryz.prog 110 [.c (.own i 0 r.L.length),.c (.p (.i .i64 a))] h K:=fun h0 hk=>zB1 (by omega) rfl h0 hk
 unfold mL
 generalize bS r.L a=C at hk ⊢
 cases hd:decide (12≤(C.length:Int))
 all_goals simp only [if_true,Bool.false_eq_true,if_false]
 all_goals
  refine ent aB aK Tryz.func49 rfl rfl fun X0 hX=>?_
  simp only [Tryz.f49,go_sem]
  repeat' (simp only [*,go_sem,Nat.reduceLT,Nat.reduceEqDiff,↓reduceIte,Nat.reduceAdd])
theorem wQ {r:Rm} {s:List UInt8} (hr:OkR r) (hs:s.length≤1000000000):aA Tryz.prog 48 [.c (.ptr 0 0),.c (.p (.s s))] (bX r) fun d h=>d=.c (.p (.i .i64 (jH r s)))∧h=bX r:=by
 have hf:=tF (r:=r) (s:=s) (by have:=hr.nl;omega) hr.srt
 have hn:=pA hs
 have hnl:=hr.nl
 have hll:=hr.ll
 unfold jH
 generalize aX s=a at hn ⊢
 generalize TX r.N s=b at hf ⊢
 cases a
 ·simp only [Bool.not_false,if_true]
  refine ent aB aK Tryz.func48 rfl rfl fun X0 hX=>?_
  simp only [Tryz.f48,go_sem]
  repeat' (first|simp only [*,go_sem,Nat.reduceLT,Nat.reduceEqDiff,↓reduceIte,Nat.reduceAdd,Bool.not_false]|((with_reducible refine aV [0,1,2,3] (hf) ?_ ?_ ?_ ?_);exact rfl;exact rfl;(focus ((simp only [go_sem];done))))|((with_reducible refine aQ (hn) ?_ ?_ ?_);exact rfl;exact rfl))
 ·cases b
  ·simp only [Bool.not_true,Bool.false_eq_true,if_false]
   cases h1:decide (20≤(r.N.length:Int)) <;> cases h2:decide (40≤(r.L.length:Int)) <;> cases h3:decide (2147483647≤r.x)
   all_goals simp only [Bool.or_true,Bool.or_false,if_true,Bool.false_eq_true,if_false]
   all_goals
    refine ent aB aK Tryz.func48 rfl rfl fun X0 hX=>?_
    simp only [Tryz.f48,go_sem]
    repeat' (first|simp only [*,go_sem,Nat.reduceLT,Nat.reduceEqDiff,↓reduceIte,Nat.reduceAdd,Bool.not_true]|((with_reducible refine aV [0,1,2,3] (hf) ?_ ?_ ?_ ?_);exact rfl;exact rfl;(focus ((simp only [go_sem];done))))|((with_reducible refine aQ (hn) ?_ ?_ ?_);exact rfl;exact rfl))
  ·simp only [Bool.not_true,Bool.false_eq_true,if_false,if_true]
   refine ent aB aK Tryz.func48 rfl rfl fun X0 hX=>?_
   simp only [Tryz.f48,go_sem]
   repeat' (first|simp only [*,go_sem,Nat.reduceLT,Nat.reduceEqDiff,↓reduceIte,Nat.reduceAdd,Bool.not_true]|((with_reducible refine aV [0,1,2,3] (hf) ?_ ?_ ?_ ?_);exact rfl;exact rfl;(focus ((simp only [go_sem];done))))|((with_reducible refine aQ (hn) ?_ ?_ ?_);exact rfl;exact rfl))
theorem WW {r:Rm} {a:Int} (hr:OkR r):aA Tryz.prog 95 [.c (.ptr 0 0),.c (.p (.i .i64 a))] (bX r) fun d h=>d=.tup [.c (.p (.sl 5 (aT (FB r a).1))),.c (.p (.b (FB r a).2))]∧h=bX r:=by
 have hl:=hr.ll
 have hk:∀ {h:aD} {i:Nat} {K:DV→aD→Prop},h[i]? = some (.arr 4 (dZ r.L) false)→K (.c (.own h.length 0 (bS r.L a).length)) (h++[.arr 1 (cW (bS r.L a)) false])→aA Tryz.prog 110 [.c (.own i 0 r.L.length),.c (.p (.i .i64 a))] h K:=fun h0 hk=>zB1 (by omega) rfl h0 hk
 have hcl:=ZO r.L a
 have hfo:=QI (ls:=lM r a) (by unfold lM;rw [List.length_map];omega) (hr.layers a)
 rw [show FB r a=nE [] (lM r a) from rfl]
 generalize nE [] (lM r a)=T at hfo ⊢
 obtain ⟨T1,T2⟩:=T
 unfold lM at hfo
 simp only at hfo ⊢
 generalize bS r.L a=C at hk hcl hfo ⊢
 refine ent aB aK Tryz.func95 rfl rfl fun X0 hX=>?_
 simp only [Tryz.f95,go_sem]
 repeat' (first|simp only [*,go_sem,Nat.reduceLT,Nat.reduceEqDiff,↓reduceIte,Nat.reduceAdd]|refine hk rfl ?_)
 refine fZ aB aK (α:=Nat) (fun k=>⟨34,[(0,.c (.ptr 0 0)),(14,.c (.own 4 0 C.length)),(15,.c (.p (.i .i64 C.length))),(16,.c (.p (.i .i64 k))),(6,.c (.own 5 0 k))],[.box [.own 1 0 r.N.length,.own 2 0 r.L.length,.mp 3,.p (.i .i64 r.x)],.arr 2 (cR r.N) false,.arr 4 (dZ r.L) false,.mp (BT r.E),.arr 1 (cW C) false,.arr 1 (zV ((C.take k).map (jU r.E))) false]⟩)
  (fun k=>k≤C.length) (fun k=>C.length-k) 0 (Nat.zero_le _) ((qW 6 1 rfl).trans (eZ (aI (by rw [hX];rfl) rfl rfl (by simp only [aH,aL];(repeat' (first|exact rfl|exact True.intro|refine And.intro ?_ ?_)))))) ?_
 intro k hkl
 by_cases hlt:k<C.length
 ·have hx:C[k]? = some C[k]:=List.getElem?_eq_getElem hlt
  have hg:=sM hx
  have h1:decide ((k:Int)<(C.length:Int))=true:=decide_eq_true (by omega)
  have h2:(k:Int)<(C.length:Int):=by omega
  have h3:(0:Int)≤k:=by omega
  have w1:IntKind.i64.wrap ((k:Int)+1)=k+1:=wrap_i64 (by omega) (by omega)
  have ht:(C.take (k+1)).map (jU r.E)=(C.take k).map (jU r.E)++[jU r.E C[k]]:=by rw [List.take_add_one,hx,List.map_append];rfl
  have htl:((C.take k).map (jU r.E)).length=k:=by rw [List.length_map,List.length_take];omega
  have ht:=PLift.up ht
  have hLl:(zV ((C.take k).map (jU r.E))).length=k:=by rw [TP,htl]
  generalize C[k]=c at hx hg ht
  clear hx hk hfo
  repeat' (first|simp only [*,go_sem,Nat.reduceLT,Nat.reduceLeDiff,Nat.reduceEqDiff,↓reduceIte,Nat.reduceAdd,Nat.reduceBEq]|((with_reducible refine And.intro ?_ ?_);(focus (first|omega|decide))))
  exact AJ (k+1) (by omega) (by omega) (by rw [ht.down];exact gD (lI [0,1,2,3,4,7] rfl (by simp only [gU,kO,gS,qT];(repeat' (first|exact rfl|exact True.intro|refine And.intro ?_ ?_))) rfl (by simp only [pY,wS];(repeat' (first|exact rfl|exact True.intro|refine And.intro ?_ ?_)))))
 ·have hke:k=C.length:=by omega
  subst hke
  rw [List.take_length]
  have h1:decide ((C.length:Int)<(C.length:Int))=false:=decide_eq_false (by omega)
  have htk:(C.map (jU r.E)).take C.length=C.map (jU r.E):=List.take_of_length_le (by rw [List.length_map];exact Nat.le_refl _)
  repeat' (first|simp only [*,go_sem,Nat.reduceLT,Nat.reduceEqDiff,↓reduceIte,Nat.reduceAdd]|((with_reducible refine bK (hfo) ?_ ?_ ?_);exact rfl;exact fun _=>rfl)|((with_reducible apply aA.frz);exact rfl;exact rfl))
theorem jM {r:Rm} {a:Int} (hr:OkR r):aA Tryz.prog 41 [.c (.ptr 0 0),.c (.p (.i .i64 a))] (bX r) fun d h=>d=.c (.p (.sl 5 (aT (treeR r a))))∧h=bX r:=by
 have hf:=WW (a:=a) hr
 unfold treeR
 generalize FB r a=T at hf ⊢
 obtain ⟨T1,T2⟩:=T
 simp only at hf ⊢
 refine ent aB aK Tryz.func41 rfl rfl fun X0 hX=>?_
 simp only [Tryz.f41,go_sem]
 repeat' (first|simp only [*,go_sem,Nat.reduceLT,Nat.reduceEqDiff,↓reduceIte,Nat.reduceAdd]|((with_reducible refine aV [0,1,2,3] (hf) ?_ ?_ ?_ ?_);exact rfl;exact rfl;(focus ((simp only [go_sem];done)))))
end
end Go.Proofs.YtbpblnmhlhpebaaGreatDoor
namespace Go.Dm
open Go
section
theorem aA.frzB {P:Program} {f:FuncId} {h:aD} {x a a':DV} {K:DV→aD→Prop} (hne:(kR [a]).isEmpty=false) (hp:gT h [a]=some [a'])
  (hd:aA P f [x,a'] (vI h (kR [a])) K):aA P f [x,a] h K:=by
 intro X vals hh hi gd hr
 obtain ⟨X',h1,h2,h3,h4,h5,h6⟩:=jY (kR [a]) hi
 rw [← hh] at hp hd
 match vals,hr with
 | [v0,va],⟨hrp,hra,_⟩ =>
  have hr1:dD X' [a'] [va]:=kQ (Y:=X') (ds:=[a]) hi h4 h1 rfl rfl (show dD X [a] [va] from ⟨hra,True.intro⟩) hp h6
  have hrq:bB X' x v0:=bB.step h4 hrp
  have key:∀ v w',Ret X' K v w'→Ret X K v w':=fun v w' ⟨d,Y,k1,k2,k3,k4,k5⟩=>⟨d,Y,k1,k2,h4.trans h5 k3,k4,k5⟩
  rw [← h1]
  rcases hd X' [v0,va] h2 h5 (gd.step h4) ⟨hrq,hr1.1,True.intro⟩ with ⟨h7,h8⟩|⟨v,w',h7,h8⟩
  ·exact .inl ⟨h7,h8.mono fun e w' ⟨v,he,hv⟩=>⟨v,he,key _ _ hv⟩⟩
  ·exact .inr ⟨v,w',h7,key _ _ h8⟩
def pW (r:Rm):aD:=[.box [.own 4 0 r.N.length,.own 5 0 r.L.length,.mp 6,.p (.i .i64 r.x)],.dead,.dead,.dead,.arr 2 (cR r.N) false,.arr 4 (dZ r.L) false,.mp (BT r.E)]
attribute [go_sem] pW
def tW (T:Tab) (t:Fr) (h:aD) (R:DV→aD→Prop):List ResultVar→List EV→Prop
 | [],es=>R (GV es.reverse) h
 | .tmp i::rs,es =>
  match look t i with
  | .c x=>tW T t h R rs (.c x::es)
  | .agg xs=>tW T t h R rs (.agg xs::es)
  | _=>False
 | .cell a ty::rs,es=>(T ty).size≠0∧tE (T ty) h (look t a) fun d =>
  match d with
  | .c x=>tW T t h R rs (.c x::es)
  | .agg xs=>tW T t h R rs (.agg xs::es)
  | _=>False
def VX (T:Tab) (rs:List ResultVar) (R:DV→aD→Prop):Exit→DS→Prop
 | .normal,s=>tW T s.t s.h R rs []
 | .ret,s=>tW T s.t s.h R rs []
 | _,_=>False
theorem zFX {T:Tab} {rs:List ResultVar} {R:DV→aD→Prop} {s:DS}:VX T rs R .normal s=tW T s.t s.h R rs []:=nr rfl
theorem zE8 {T:Tab} {rs:List ResultVar} {R:DV→aD→Prop} {s:DS}:VX T rs R .ret s=tW T s.t s.h R rs []:=nr rfl
theorem iB {T:Tab} {s:DS} {R:DV→aD→Prop}:∀ (rs:List ResultVar) (es:List EV) {K:List EV→Prop},(∀ l,R (GV (es.reverse++l)) s.h→K l)→tW T s.t s.h R rs es→lJ T s rs K
 | [],es,K,hk,h=>hk [] (by simpa [tW] using h)
 | .tmp i::rs,es,K,hk,h=>by
  simp only [tW,lJ] at h ⊢
  generalize look s.t i=d at h ⊢
  cases d <;> simp only at h ⊢
  ·exact iB rs _ (fun l hl=>hk _ (by simpa using hl)) h
  ·exact iB rs _ (fun l hl=>hk _ (by simpa using hl)) h
 | .cell a ty::rs,es,K,hk,h=>by
  simp only [tW,lJ] at h ⊢
  refine ⟨h.1,CD (fun d hd=>?_) h.2⟩
  cases d <;> simp only at hd ⊢
  ·exact iB rs _ (fun l hl=>hk _ (by simpa using hl)) hd
  ·exact iB rs _ (fun l hl=>hk _ (by simpa using hl)) hd
theorem WC {P:Program} {T:Tab} (hT:bL P T) (hm:P.follows .mixedOrders=true) {f:FuncId} {fn:Func} {c:Code} {args:List DV} {h:aD} {R:DV→aD→Prop} (hf:P.funcs[f]? = some fn) (hb:fn.body=some c)
  (hc:(Nat.ble args.length fn.ntmps && !(fn.name == "runtime.NumGoroutine"))=true)
  (hs:∀ X0:Ctx,X0.h=h→vc P T X0 c ⟨fn.ntmps,kG 0 args,h⟩ (VX T fn.results.toList R)):aA P f args h R:=by
 simp only [Bool.and_eq_true,Bool.not_eq_true'] at hc
 refine eN hT hf hb (Nat.le_of_ble_eq_true hc.1) hc.2 fun X0 hX=>?_
 rw [fH]
 refine fE (dI hT hm c (hs X0 hX)) fun e s hv=>?_
 cases e <;> simp only [VX,dpost] at hv ⊢
 case normal=>exact iB _ [] (fun l hl=>.inl (by simpa using hl)) hv
 case ret=>exact iB _ [] (fun l hl=>.inl (by simpa using hl)) hv
attribute [go_sem] zFX zE8 tW List.getElem?_nil
end
end Go.Dm
namespace Go.Proofs.YtbpblnmhlhpebaaGreatDoor
open Go Go.Dm Go.Proofs
section
theorem zLS {r:Rm} (hr:OkR r):aA Tryz.prog 139 [.c (.ptr 0 0)] (bX r) fun d h=>d=.c (.own 4 0 (mI r.N).length)∧h=bX r++[.arr 1 (cW (mI r.N)) false]:=by
 have hnl:=hr.nl
 have hil:(mI r.N).length=r.N.length:=by simp [mI]
 rw [hil]
 refine TM aB aK Tryz.func139 rfl rfl fun X0 hX=>?_
 simp only [Tryz.f139,go_sem]
 repeat' (simp only [*,go_sem,Nat.reduceLT,Nat.reduceEqDiff,↓reduceIte])
 refine fZ aB aK (α:=Nat) (fun k=>⟨22,[(9,.c (.own 1 0 r.N.length)),(10,.c (.p (.i .i64 r.N.length))),(11,.c (.p (.i .i64 k))),(3,.c (.own 4 0 k))],[.box [.own 1 0 r.N.length,.own 2 0 r.L.length,.mp 3,.p (.i .i64 r.x)],.arr 2 (cR r.N) false,.arr 4 (dZ r.L) false,.mp (BT r.E),.arr 1 (cW (mI (r.N.take k))) false]⟩)
  (fun k=>k≤r.N.length) (fun k=>r.N.length-k) 0 (Nat.zero_le _) ((qW 3 1 rfl).trans (eZ (aI (by rw [hX];rfl) rfl rfl (by simp only [aH,aL];(repeat' (first|exact rfl|exact True.intro|refine And.intro ?_ ?_)))))) ?_
 intro k hkl
 by_cases hlt:k<r.N.length
 ·have hx:r.N[k]? = some r.N[k]:=List.getElem?_eq_getElem hlt
  have hg:=rI hx
  have h1:decide ((k:Int)<(r.N.length:Int))=true:=decide_eq_true (by omega)
  have h2:(k:Int)<(r.N.length:Int):=by omega
  have h3:(0:Int)≤k:=by omega
  have w1:IntKind.i64.wrap ((k:Int)+1)=k+1:=wrap_i64 (by omega) (by omega)
  have ht:mI (r.N.take (k+1))=mI (r.N.take k)++[r.N[k].l]:=by unfold mI;rw [List.take_add_one,hx,List.map_append];rfl
  have htl:(mI (r.N.take k)).length=k:=by unfold mI;rw [List.length_map,List.length_take];omega
  generalize r.N[k]=x at hx hg ht
  generalize mI (r.N.take k)=S at ht htl
  have ht:=PLift.up ht
  clear hx
  repeat' (first|simp only [*,go_sem,Nat.reduceLT,Nat.reduceLeDiff,Nat.reduceEqDiff,↓reduceIte,Nat.reduceAdd,Nat.reduceBEq]|((with_reducible refine And.intro ?_ ?_);(focus (first|omega|decide))))
  exact AJ (k+1) (by omega) (by omega) (by rw [ht.down];exact gD (lI [0,1,2,3,7] rfl (by simp only [gU,kO,gS,qT];(repeat' (first|exact rfl|exact True.intro|refine And.intro ?_ ?_))) rfl (by simp only [pY,wS];(repeat' (first|exact rfl|exact True.intro|refine And.intro ?_ ?_)))))
 ·have hke:k=r.N.length:=by omega
  subst hke
  rw [List.take_length]
  have h1:decide ((r.N.length:Int)<(r.N.length:Int))=false:=decide_eq_false (by omega)
  repeat' (simp only [*,go_sem,Nat.reduceLT,Nat.reduceEqDiff,↓reduceIte,Nat.reduceAdd])
theorem zJ2 {h:aD} {i j n m:Nat} {l:List Ly} {ids:List Int} {K:DV→aD→Prop} (hl:l.length≤900) (hi:ids.length≤900) (hgr:OkG l) (hn:n=l.length) (hm:m=ids.length) (hij:i≠j) (h0:h[i]? = some (.arr 4 (dZ l) false)) (h1:h[j]? = some (.arr 1 (cW ids) false))
  (hk:K (.c (.own h.length 0 (iN l ids).length)) (h.set j (.arr 1 (cW ids) true)++[.arr 4 (dZ (iN l ids)) false])):aA Tryz.prog 138 [.c (.own i 0 n),.c (.own j 0 m)] h K:=by
 have hm2:(cW ids).take m=cW ids:=by rw [hm,← eT ids,List.take_length]
 refine aA.frzB (a':=.c (.p (.sl 1 (cW ids)))) rfl (by simp [gT,RL,QY,zFs,h1,hm2]) ?_
 have hf:vI h (kR [.c (.own j 0 m)])=h.set j (.arr 1 (cW ids) true):=by simp [kR,zKh,zDd,vI,zFO,h1]
 rw [hf]
 refine zHv rfl (by rw [hn,← lL,List.take_length]) (zJ8 hl hi hgr) (by rw [List.getElem?_set_ne (Ne.symm hij)];exact h0) (by simp [wP,oW,jD,dZ,tU,Ly.cs]) ?_
 simpa [DV.sh,CV.sh,DB.sh,lL] using hk
theorem zJa {r:Rm} (hr:OkR r) (hgr:OkG r.L):aA Tryz.prog 69 [.c (.ptr 0 0)] (bX r) fun d h=>d=.tup []∧h=pW (VA r):=by
 have hnl:=hr.nl
 have hll:=hr.ll
 have hil:(mI r.N).length=r.N.length:=by simp [mI]
 have hids:=zLS hr
 have hik:∀ {K:DV→aD→Prop},K (.c (.own 4 0 r.N.length)) (bX r++[.arr 1 (cW (mI r.N)) false])→aA Tryz.prog 139 [.c (.ptr 0 0)] (bX r) K:=fun hk=>aA.mono hids (by rintro d h' ⟨rfl,rfl⟩;rw [hil];exact hk)
 unfold bX at hik
 have hkk:∀ {h:aD} {K:DV→aD→Prop},h[2]? = some (.arr 4 (dZ r.L) false)→h[4]? = some (.arr 1 (cW (mI r.N)) false)→K (.c (.own h.length 0 (iN r.L (mI r.N)).length)) (h.set 4 (.arr 1 (cW (mI r.N)) true)++[.arr 4 (dZ (iN r.L (mI r.N))) false])→aA Tryz.prog 138 [.c (.own 2 0 r.L.length),.c (.own 4 0 r.N.length)] h K:=fun h0 h1 hk=>zJ2 hll (by omega) hgr rfl hil.symm (by decide) h0 h1 hk
 unfold VA AZ
 have hGl:(iN r.L (mI r.N)).length≤900:=Nat.le_trans (List.length_filter_le ..) hll
 generalize iN r.L (mI r.N)=G at hkk hGl ⊢
 generalize mI r.N=I at hik hkk
 refine aA.perm [0,2,3,4,1,5,6] (d1:=.tup []) (h1:=[.box [.own 1 0 r.N.length,.own 5 0 G.length,.mp 6,.p (.i .i64 r.x)],.arr 2 (cR r.N) false,.arr 4 (dZ r.L) false,.mp (BT r.E),.arr 1 (cW I) true,.arr 4 (dZ G) false,.mp (BT (G.foldl (fun k l=>oQ k l.i (jU r.E l.i)) []))]) ?_ rfl rfl (by unfold pW;exact (by simp only [gU,nR,kO,gS,qT];(repeat' (first|exact rfl|exact True.intro|refine And.intro ?_ ?_))))
 clear hids
 refine WC aB aK Tryz.func69 rfl rfl fun X0 hX=>?_
 simp only [Tryz.f69,go_sem]
 repeat' (first|simp only [*,go_sem,Nat.reduceLT,Nat.reduceEqDiff,↓reduceIte,Nat.reduceAdd]|((refine aP (id:=0) aB aK [6,7,10] [5,6,1,2,3,4,7,0,8,9,10] (by decide +kernel) ?_);(repeat' (first|(refine bA ?_)|((refine dB ?_ ?_ rfl rfl rfl ?_ ?_);(rotate_left 2);(focus ((repeat' (first|simp only [*,go_sem,Nat.reduceLT,Nat.reduceLeDiff,Nat.reduceEqDiff,↓reduceIte,Nat.reduceAdd]|refine hik ?_|refine hkk rfl rfl ?_));((refine And.intro ?_ ?_ <;> exact rfl))));(simp only [aJ,bQ]))|((refine dC ?_ rfl rfl rfl ?_ ?_);(rotate_left 1);(focus ((repeat' (first|exact bP|refine bE ?_ ?_));(all_goals ((repeat' (simp only [*,go_sem,Nat.reduceLT,Nat.reduceEqDiff,↓reduceIte]));(try (exact rfl))))));(simp only [aJ]))))))
 clear hik hkk
 refine fZ aB aK (α:=Nat) (fun k=>⟨40,[(0,.c (.ptr 0 0)),(2,.c (.mp 6)),(19,.c (.own 5 0 G.length)),(20,.c (.p (.i .i64 G.length))),(21,.c (.p (.i .i64 k)))],[.box [.own 1 0 r.N.length,.own 5 0 G.length,.mp 3,.p (.i .i64 r.x)],.arr 2 (cR r.N) false,.arr 4 (dZ r.L) false,.mp (BT r.E),.arr 1 (cW I) true,.arr 4 (dZ G) false,.mp (BT ((G.take k).foldl (fun k l=>oQ k l.i (jU r.E l.i)) []))]⟩)
  (fun k=>k≤G.length) (fun k=>G.length-k) 0 (Nat.zero_le _) (eZ (aI (by rw [hX];rfl) rfl rfl (by simp only [aH,aL];(repeat' (first|exact rfl|exact True.intro|refine And.intro ?_ ?_))))) ?_
 intro k hkl
 by_cases hlt:k<G.length
 ·have hx:G[k]? = some G[k]:=List.getElem?_eq_getElem hlt
  have hg:=pC hx
  have h1:decide ((k:Int)<(G.length:Int))=true:=decide_eq_true (by omega)
  have h2:(k:Int)<(G.length:Int):=by omega
  have h3:(0:Int)≤k:=by omega
  have w1:IntKind.i64.wrap ((k:Int)+1)=k+1:=wrap_i64 (by omega) (by omega)
  have ht:(G.take (k+1)).foldl (fun k l=>oQ k l.i (jU r.E l.i)) []=oQ ((G.take k).foldl (fun k l=>oQ k l.i (jU r.E l.i)) []) G[k].i (jU r.E G[k].i):=by rw [List.take_add_one,hx,List.foldl_append];rfl
  generalize G[k]=x at hx hg ht
  generalize (G.take k).foldl (fun k l=>oQ k l.i (jU r.E l.i)) []=M at ht
  have ht:=PLift.up ht
  clear hx
  repeat' (first|simp only [*,go_sem,Nat.reduceLT,Nat.reduceLeDiff,Nat.reduceEqDiff,↓reduceIte,Nat.reduceAdd]|((refine aP (id:=5) aB aK [10] [0,1,2,3,4,5,6,7,8,9,10] (by decide +kernel) ?_);(repeat' (first|(refine bA ?_)|((refine dB ?_ ?_ rfl rfl rfl ?_ ?_);(rotate_left 2);(focus ((repeat' (simp only [*,go_sem,Nat.reduceEqDiff,↓reduceIte]));((refine And.intro ?_ ?_ <;> exact rfl))));(simp only [bQ]))|((refine dC ?_ rfl rfl rfl ?_ ?_);(rotate_left 1);(focus ((repeat' (first|exact bP|refine bE ?_ ?_));(all_goals ((repeat' (simp only [*,go_sem,Nat.reduceLT,Nat.reduceEqDiff,↓reduceIte]));(try (exact rfl))))));(simp only [aJ]))))))
  exact AJ (k+1) (by omega) (by omega) (by rw [ht.down];exact eZ (aI rfl rfl rfl (by simp only [aH,aL];(repeat' (first|exact rfl|exact True.intro|refine And.intro ?_ ?_)))))
 ·have hke:k=G.length:=by omega
  subst hke
  rw [List.take_length]
  have h1:decide ((G.length:Int)<(G.length:Int))=false:=decide_eq_false (by omega)
  repeat' (simp only [*,go_sem,Nat.reduceLT,Nat.reduceLeDiff,Nat.reduceEqDiff,↓reduceIte,Nat.reduceAdd])
end
end Go.Proofs.YtbpblnmhlhpebaaGreatDoor
namespace Go.Proofs.YtbpblnmhlhpebaaGreatDoor
open Go Go.Dm Go.Shelf
section
def SC:Go.Shelf.Ren:=⟨fun | 22=>111 | 29=>178 | 30=>179|n=>n,fun | 24=>69 | 9=>76 | 3=>3 | 4=>4 | 0=>0|n=>n,fun|n=>n⟩
theorem zI3:InsL Tryz.prog SC:={
 mixed:=by kernel_rfl
 f22:=⟨Tryz.f111.name,by decide,Tryz.func111.trans (congrArg some (by kernel_rfl))⟩
 ov:=fun xs w w' v h=>by
  have:=run_callFunc_extern Tryz.func178 (by kernel_rfl) (by kernel_rfl) (by kernel_rfl) (e:=Extern.SlicesOverlaps.overlaps #[69,69] #[4]) (by kernel_rfl) xs w
  refine this.trans ?_
  rw [show (Extern.SlicesOverlaps.overlaps #[69,69] #[4] xs).run Tryz.prog w=.ok v w' from h]
  rfl
 t0:=Tryz.underlying0
 a0:=Tryz.isAgg0
 z0:=Tryz.sizeOf0
 v0:=Tryz.zeroValue0
 t3:=Tryz.underlying3
 a3:=Tryz.isAgg3
 z3:=Tryz.sizeOf3
 v3:=Tryz.zeroValue3
 t4:=Tryz.underlying4
 a4:=Tryz.isAgg4
 z4:=Tryz.sizeOf4
 v4:=Tryz.zeroValue4
 t24:=Tryz.underlying69
 a24:=Tryz.isAgg69
 z24:=Tryz.sizeOf69
 v24:=Tryz.zeroValue69 }
theorem zH2 {h:aD} {id jd n i:Nat} {es:List (List PV)} {x:List PV} (hid:h[id]? = some (.arr 2 es false)) (hjd:h[jd]? = some (.arr 2 [x] false)) (hne:id≠jd) (hn:n≤es.length) (hin:i≤n) (hn2:n≤1000000):
  aA Tryz.prog 111 [.c (.own id 0 n),.c (.p (.i .i64 i)),.c (.own jd 0 1)] h fun d h'=>d=.c (.own (h.length+1) 0 (n+1))∧h'=h.set id .dead++[.dead,.arr 2 (eW i x (es.take n)) false] :=
 rY (k:=2) aB zI3 (enters Tryz.func111 rfl rfl) (by show (tab 76).size=2;rw [tab76]) (by decide) (by show (tab 69).k=_;rw [tab69];rfl)
  hid hjd hne hn hin (by show (n+1)*(tab 76).bytes≤_;rw [tab76];simp only;omega) (by omega)
end
end Go.Proofs.YtbpblnmhlhpebaaGreatDoor
