/- Part 49 of the proof of roomForks_card, set without needless blanks. No condition. -/
import Derived.Test.YtbpblnmhlhpebaaGreatDoorC47
set_option linter.unusedSimpArgs false
set_option linter.unusedVariables false
set_option maxRecDepth 100000
set_option maxHeartbeats 16000000
namespace Go.Proofs.YtbpblnmhlhpebaaGreatDoor
open Go Go.Dm
section
theorem zAi {t0:List It} {l:List RU} (ht0:OkT t0) (hl:l.length≤9223372036854775807) (hd:∀ x∈l,x.n.d.length≤9223372036854775807) (hdx:∀ x∈l,x.n.x<18446744073709551616):
  aA Tryz.prog 14 [.c (.p (.sl 5 (aT t0))),.c (.p (.sl 8 (encU l)))] [] fun r h=>r=.c (.p (.sl 5 (aT (YB t0 l))))∧h=[]:=by
 refine bJ ?_
 refine ent aB aK Tryz.func14 rfl rfl fun X0 hX=>?_
 simp only [Tryz.f14,go_sem]
 repeat' (simp only [*,go_sem,Nat.reduceLT])
 refine aY aB aK (α:=Nat × List It) (fun x=>⟨141,[(0,.c (.p (.sl 5 (aT x.2)))),(1,.c (.p (.sl 8 (encU l)))),(5,.c (.p (.i .i64 x.1)))],[]⟩)
  (fun x=>x.1≤l.length∧x.1≤14∧(l.take x.1).foldl uS t0=x.2) (fun x=>l.length-x.1) (0,t0) ⟨Nat.zero_le _,Nat.zero_le _,rfl⟩ (.inl (aI (by rw [hX];rfl) rfl rfl (by simp [aH,aL,aC,aG,aF]))) ?_
 rintro ⟨i,t⟩ ⟨hi,hi2,htq⟩
 simp only at hi hi2 htq
 have ht:OkT t:=htq▸GO ht0 fun x hm=>hdx x (List.take_subset _ _ hm)
 by_cases hlt:i<l.length
 ·by_cases hl2:i<14
  ·have hx:l[i]? = some l[i]:=List.getElem?_eq_getElem hlt
   have hstep:=XZ (t:=t0) hx
   rw [htq] at hstep
   have hg:=zJD hx
   have h1:decide ((i:Int)<(l.length:Int))=true:=decide_eq_true (by omega)
   have h14:decide ((i:Int)<14)=true:=decide_eq_true (by omega)
   have w1:IntKind.i64.wrap ((i:Int)+1)=i+1:=wrap_i64 (by omega) (by omega)
   have hxd:=hd _ (List.mem_of_getElem? hx)
   have hxx:=hdx _ (List.mem_of_getElem? hx)
   generalize l[i]=x at hx hg hstep hxd hxx
   have hpl:=lE x.at'
   have hul:=ht.len
   have hup:∀ x∈t,x.p.length≤9223372036854775807:=fun x hx=>Nat.le_trans (ht.plen x hx) (by decide)
   have huq:∀ x∈t,x.p.length≤1000000000:=fun x hx=>Nat.le_trans (ht.plen x hx) (by decide)
   have hgd:=ht.getd
   have hgt:=ht.gett
   obtain ⟨nn,hnq,⟨hnn,hnt⟩,hnc⟩:∃ nn:Nd,Nonempty (PLift (AV x.n=nn))∧(nn.d.length≤60∧nn.t<18446744073709551616)∧aA Tryz.prog 38 [.agg (rnc x.n.k x.n.m x.n.t x.n.x x.n.d)] [] fun r h=>r=.agg (ndc nn.k nn.m nn.t nn.d)∧h=[] :=
    ⟨AV x.n,⟨⟨rfl⟩⟩,⟨KY x.n,vL hxx⟩,zCj hxd⟩
   have key:∃ j:Nat,0<t.length→(IntKind.i64.wrap (x.at'.tdiv 3)) % (t.length:Int)=(j:Int)∧j<t.length:=by
    refine ⟨((IntKind.i64.wrap (x.at'.tdiv 3)) % (t.length:Int)).toNat,fun h0=>?_⟩
    have:=Int.emod_nonneg (IntKind.i64.wrap (x.at'.tdiv 3)) (show (t.length:Int)≠0 by omega)
    have:=Int.emod_lt_of_pos (IntKind.i64.wrap (x.at'.tdiv 3)) (show (0:Int)<t.length by omega)
    omega
   obtain ⟨j,hj⟩:=key
   by_cases htl:0<t.length
   ·obtain ⟨hj,hjl⟩:=hj htl
    have hy:t[j]? = some t[j]:=List.getElem?_eq_getElem hjl
    have hgy:=cB hy
    have h2:decide ((0:Int)<(t.length:Int))=true:=decide_eq_true (by omega)
    have hyq:t.getD ((IntKind.i64.wrap (x.at'.tdiv 3)) % (t.length:Int)).toNat ⟨[],nd0⟩=t[j]:=by rw [hj,Int.toNat_natCast];simp [List.getD,hy]
    have hyq2:t.getD (j:Int).toNat ⟨[],nd0⟩=t[j]:=by rw [Int.toNat_natCast];simp [List.getD,hy]
    generalize t[j]=y at hy hgy hyq hyq2
    have hyp:=ht.plen y (List.mem_of_getElem? hy)
    repeat' (first|simp only [*,go_sem,Nat.reduceLT,Nat.reduceLeDiff,Nat.reduceEqDiff,↓reduceIte,Nat.reduceAdd,Int.reduceToNat,Int.reduceEq,beq_self_eq_true]|((with_reducible refine aQ (VP) ?_ ?_ ?_);exact rfl;exact rfl)|((with_reducible refine aQ (uO (by omega) (by omega)) ?_ ?_ ?_);exact rfl;exact rfl)|((with_reducible refine bK (oT (t:=t) (by omega)) ?_ ?_ ?_);exact rfl;exact fun _=>rfl)|((with_reducible refine bK (wI (t:=t) (by omega) (by omega) hup) ?_ ?_ ?_);exact rfl;exact fun _=>rfl)|((with_reducible refine aQ (zCa) ?_ ?_ ?_);exact rfl;exact rfl)|((with_reducible refine aQ (pU _) ?_ ?_ ?_);exact rfl;exact rfl)|((with_reducible refine bK (zJP (by omega) (by omega) hxd) ?_ ?_ ?_);exact rfl;exact fun _=>rfl)|((with_reducible refine bK (hnc) ?_ ?_ ?_);exact rfl;exact fun _=>rfl)|((with_reducible refine bK (NB (t:=t) (by omega) (by omega) hup (by first|omega|exact Nat.le_trans (hgd _) (by decide)|exact Nat.le_trans (List.length_take_le ..) (by decide))) ?_ ?_ ?_);exact rfl;exact fun _=>rfl)|((with_reducible refine bK (zAm (t:=t) (by omega) (by omega) (by first|omega|exact Nat.le_trans (lE _) (by decide)) huq) ?_ ?_ ?_);exact rfl;exact fun _=>rfl)|with_reducible refine aM (fun _=>?_) (fun _=>?_)|with_reducible refine bF (fun _=>?_) (fun _=>?_)|((with_reducible refine And.intro ?_ ?_);(focus (omega))))
    all_goals (obtain ⟨⟨hnq'⟩⟩:=hnq;simp only [uS,kM,jT,Bool.true_and,Bool.and_true,Bool.and_false,Bool.false_and,Bool.false_eq_true,if_true,if_false, *] at hstep)
    all_goals (refine eM (i+1,_) ⟨?_,?_,hstep⟩ ?_ (aI rfl rfl rfl ?_) <;> first|omega|(simp only;omega;done)|(simp [aH,aL,aC,aG,aF];done)|(simp [aH,aL,aC,aG,aF];rfl))
   ·have h2:decide ((0:Int)<(t.length:Int))=false:=decide_eq_false (by omega)
    clear hj
    repeat' (first|simp only [*,go_sem,Nat.reduceLT,Nat.reduceLeDiff,Nat.reduceEqDiff,↓reduceIte,Nat.reduceAdd,Int.reduceToNat,beq_self_eq_true]|((with_reducible refine aQ (VP) ?_ ?_ ?_);exact rfl;exact rfl)|((with_reducible refine aQ (uO (by omega) (by omega)) ?_ ?_ ?_);exact rfl;exact rfl)|((with_reducible refine bK (oT (t:=t) (by omega)) ?_ ?_ ?_);exact rfl;exact fun _=>rfl)|((with_reducible refine bK (wI (t:=t) (by omega) (by omega) hup) ?_ ?_ ?_);exact rfl;exact fun _=>rfl)|((with_reducible refine aQ (zCa) ?_ ?_ ?_);exact rfl;exact rfl)|((with_reducible refine aQ (pU _) ?_ ?_ ?_);exact rfl;exact rfl)|((with_reducible refine bK (zJP (by omega) (by omega) hxd) ?_ ?_ ?_);exact rfl;exact fun _=>rfl)|((with_reducible refine bK (hnc) ?_ ?_ ?_);exact rfl;exact fun _=>rfl)|((with_reducible refine bK (NB (t:=t) (by omega) (by omega) hup (by first|omega|exact Nat.le_trans (hgd _) (by decide)|exact Nat.le_trans (List.length_take_le ..) (by decide))) ?_ ?_ ?_);exact rfl;exact fun _=>rfl)|((with_reducible refine bK (zAm (t:=t) (by omega) (by omega) (by first|omega|exact Nat.le_trans (lE _) (by decide)) huq) ?_ ?_ ?_);exact rfl;exact fun _=>rfl)|with_reducible refine aM (fun _=>?_) (fun _=>?_)|with_reducible refine bF (fun _=>?_) (fun _=>?_)|((with_reducible refine And.intro ?_ ?_);(focus (omega))))
    all_goals (obtain ⟨⟨hnq'⟩⟩:=hnq;simp only [uS,kM,jT,Bool.true_and,Bool.and_true,Bool.and_false,Bool.false_and,Bool.false_eq_true,if_true,if_false, *] at hstep)
    all_goals (refine eM (i+1,_) ⟨?_,?_,hstep⟩ ?_ (aI rfl rfl rfl ?_) <;> first|omega|(simp only;omega;done)|(simp [aH,aL,aC,aG,aF];done)|(simp [aH,aL,aC,aG,aF];rfl))
  ·have h1:decide ((i:Int)<14)=false:=decide_eq_false (by omega)
   have h0:decide ((i:Int)<(l.length:Int))=true:=decide_eq_true (by omega)
   rw [LV (.inr (by omega)) hi2] at htq
   subst htq
   repeat' (simp only [*,go_sem,Nat.reduceLT,Nat.reduceEqDiff,↓reduceIte])
 ·have h1:decide ((i:Int)<(l.length:Int))=false:=decide_eq_false (by omega)
  rw [LV (.inl (by omega)) hi2] at htq
  subst htq
  repeat' (simp only [*,go_sem,Nat.reduceLT,Nat.reduceEqDiff,↓reduceIte])
end
section
theorem RP {a:List It} (ha:a.length≤1000000):aA Tryz.prog 16 [.c (.p (.sl 5 (aT a))),.c (.p (.sl 5 (aT a)))] [] fun r h=>r=.c (.p (.b true))∧h=[]:=by
 refine ent aB aK Tryz.func16 rfl rfl fun X0 hX=>?_
 simp only [Tryz.f16,go_sem]
 repeat' (simp only [*,go_sem,Nat.reduceLT,Nat.reduceEqDiff,↓reduceIte,bne_self_eq_false])
 refine aY aB aK (α:=Nat) (fun k=>⟨42,[(0,.c (.p (.sl 5 (aT a)))),(1,.c (.p (.sl 5 (aT a)))),(5,.c (.p (.i .i64 k)))],[]⟩)
  (fun k=>k≤a.length) (fun k=>a.length-k) 0 (Nat.zero_le _) (.inl (aI (by rw [hX];rfl) rfl rfl (by simp [aH,aL,aC,aG,aF]))) ?_
 intro k hk
 by_cases hlt:k<a.length
 ·have hx:a[k]? = some a[k]:=List.getElem?_eq_getElem hlt
  have hg:=cB hx
  have h1:decide ((k:Int)<(a.length:Int))=true:=decide_eq_true (by omega)
  have hli:(k:Int)<(a.length:Int):=by omega
  have hk0:(0:Int)≤k:=by omega
  have w1:IntKind.i64.wrap ((k:Int)+1)=k+1:=wrap_i64 (by omega) (by omega)
  generalize a[k]=x at hx hg
  have e1:=pP x.n
  clear hx
  repeat' (first|simp only [*,go_sem,Nat.reduceLT,Nat.reduceEqDiff,↓reduceIte]|((refine aP (id:=6) aB aK [] [0,1,2,3,4,5,6,7,8,9,10,11,12,13,14,15,16,17,18,19,20,21,22,23,24] (by decide +kernel) ?_);(repeat' (first|(refine bA ?_)|((refine cQ ?_ rfl rfl ?_ ?_);(rotate_left 1);(focus ((repeat' (first|simp only [*,go_sem,Nat.reduceLT,Nat.reduceLeDiff,Nat.reduceEqDiff,↓reduceIte,Nat.reduceAdd,beq_self_eq_true,Bool.not_true]|((with_reducible refine aQ (tD) ?_ ?_ ?_);exact rfl;exact rfl)));exact rfl));(simp only [aJ]))))))
  exact eM (k+1) (by omega) (by omega) (aI rfl rfl rfl (by simp [aH,aL,aC,aG,aF]))
 ·have h1:decide ((k:Int)<(a.length:Int))=false:=decide_eq_false (by omega)
  repeat' (simp only [*,go_sem,Nat.reduceLT,Nat.reduceEqDiff,↓reduceIte])
end
end Go.Proofs.YtbpblnmhlhpebaaGreatDoor
namespace Go.Proofs.YtbpblnmhlhpebaaGreatDoor
open Go Go.Dm Go.Proofs
section
theorem GR {l:List RI} {ts us:List RU} (hl:l.length≤9223372036854775807) (hd:∀ x∈l,x.n.d.length≤9223372036854775807) (hdx:∀ x∈l,x.n.x<18446744073709551616)
  (hl2:ts.length≤9223372036854775807) (hd2:∀ x∈ts,x.n.d.length≤9223372036854775807) (hdx2:∀ x∈ts,x.n.x<18446744073709551616)
  (hl3:us.length≤9223372036854775807) (hd3:∀ x∈us,x.n.d.length≤9223372036854775807) (hdx3:∀ x∈us,x.n.x<18446744073709551616):
  aA Tryz.prog 3 [.c (.p (.sl 6 (Go.Dm.encI l))),.c (.p (.sl 8 (Go.Dm.encU ts))),.c (.p (.sl 8 (Go.Dm.encU us)))] [] fun r h=>r=.c (.p (.b true))∧h=[]:=by
 have tr:=zJc hl hd hdx
 have hb:=zGU hdx
 have tu:=zAi hb hl2 hd2 hdx2
 have tt:=zAi hb hl3 hd3 hdx3
 have ho:=SM hb hdx2
 have ht:=SM hb hdx3
 generalize YB (QA l) ts=o at *
 generalize YB (QA l) us=t at *
 generalize QA l=b at *
 obtain ⟨r1,r2,r3,r4,r5,d1,d2,d3,d4,d5,e1,s1,e2,s2,e3,s3,e4,s4,e5,s5,t1,t2,t3⟩:=QE hb ho ht
 have c1:=QG EX OkT.nil hb e1
 have c2:=TY s1 (by decide) e2
 have c3:=zKt s2 (by decide) e3
 have c4:=QG s3 hb ho e4
 have c5:=QG s4 hb ht e5
 have q1:=zBl s5 t1
 have q2:=zBl s5 t2
 have q3:=zBl s5 t3
 have f0:=YF hb
 have f1:=sX hb ho
 have f2:=sX hb ht
 have m1:=RP (a:=b) (Nat.le_trans hb.len (by decide))
 have m2:=RP (a:=o) (Nat.le_trans ho.len (by decide))
 have m3:=RP (a:=t) (Nat.le_trans ht.len (by decide))
 generalize eX [] b=x0 at *
 generalize eX b o=x1 at *
 generalize eX b t=x2 at *
 clear hl hd hdx hl2 hd2 hdx2 hl3 hd3 hdx3 hb ho ht e1 s1 e2 s2 e3 s3 e4 s4 e5 s5 t1 t2 t3 d1 d2 d3 d4 d5
 refine ent aB aK Tryz.func3 rfl rfl fun X0 hX=>?_
 simp only [Tryz.f3,go_sem]
 repeat' (first|simp only [*,go_sem,Nat.reduceLT,Nat.reduceEqDiff,↓reduceIte,Nat.reduceAdd,Nat.reduceSub,beq_self_eq_true,bne_self_eq_false,Bool.not_true]|((with_reducible refine aV [] (NJ) ?_ ?_ ?_ ?_);exact rfl;exact rfl;(focus ((simp only [go_sem];done))))|((with_reducible refine bK (tr) ?_ ?_ ?_);exact rfl;exact fun _=>rfl)|((with_reducible refine aQ (zEn) ?_ ?_ ?_);exact rfl;exact rfl)|((with_reducible refine bK (f0) ?_ ?_ ?_);exact rfl;exact fun _=>rfl)|((with_reducible refine aV [0,1,2,3] (c1) ?_ ?_ ?_ ?_);exact rfl;exact rfl;(focus ((simp only [go_sem];done))))|((with_reducible refine aV [0,1,2,3] (c2) ?_ ?_ ?_ ?_);exact rfl;exact rfl;(focus ((simp only [go_sem];done))))|((with_reducible refine aV [0,4,5,6] (c3) ?_ ?_ ?_ ?_);exact rfl;exact rfl;(focus ((simp only [go_sem];done))))|((with_reducible refine bK (tu) ?_ ?_ ?_);exact rfl;exact fun _=>rfl)|((with_reducible refine bK (tt) ?_ ?_ ?_);exact rfl;exact fun _=>rfl)|((with_reducible refine bK (f1) ?_ ?_ ?_);exact rfl;exact fun _=>rfl)|((with_reducible refine bK (f2) ?_ ?_ ?_);exact rfl;exact fun _=>rfl)|((with_reducible refine aV [0,7,8,9] (c4) ?_ ?_ ?_ ?_);exact rfl;exact rfl;(focus ((simp only [go_sem];done))))|((with_reducible refine aV [0,7,8,9] (c5) ?_ ?_ ?_ ?_);exact rfl;exact rfl;(focus ((simp only [go_sem];done))))|((with_reducible refine aV [0,7,8,9] (q1) ?_ ?_ ?_ ?_);exact rfl;exact rfl;(focus ((simp only [go_sem];done))))|((with_reducible refine aV [0,7,8,9] (q2) ?_ ?_ ?_ ?_);exact rfl;exact rfl;(focus ((simp only [go_sem];done))))|((with_reducible refine aV [0,7,8,9] (q3) ?_ ?_ ?_ ?_);exact rfl;exact rfl;(focus ((simp only [go_sem];done))))|((with_reducible refine aQ (m1) ?_ ?_ ?_);exact rfl;exact rfl)|((with_reducible refine aQ (m2) ?_ ?_ ?_);exact rfl;exact rfl)|((with_reducible refine aQ (m3) ?_ ?_ ?_);exact rfl;exact rfl))
 all_goals first|rfl|simp|skip
end
end Go.Proofs.YtbpblnmhlhpebaaGreatDoor
