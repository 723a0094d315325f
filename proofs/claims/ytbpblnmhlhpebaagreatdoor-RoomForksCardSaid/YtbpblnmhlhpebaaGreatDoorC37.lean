/- Part 38 of the proof of roomForks_card, set without needless blanks. No condition. -/
import Derived.Test.YtbpblnmhlhpebaaGreatDoorC36
set_option linter.unusedSimpArgs false
set_option linter.unusedVariables false
set_option maxRecDepth 100000
set_option maxHeartbeats 8000000
namespace Go.Proofs.YtbpblnmhlhpebaaGreatDoor
open Go Go.Dm Go.Proofs
section
theorem zJG {t w:List It} {q p:List UInt8} {k m:Int} {tt:Nat} {d:List UInt8} (hw:OkT w) (hp:p.length≤1000000):
  aA Tryz.prog 277 [.agg [.p (.s q),.p (.i .i64 k),.p (.i .i64 m),.p (.f tt),.p (.sl 1 (bT d))],.c (.ptr 0 0),.c (.ptr 1 0)] [.box [.p (.sl 5 (aT t)),.p (.sl 5 (aT w))],.box [.p (.s p)]]
   fun r h=>r=.c (.p (.b (aO p q && (aR w q).isSome)))∧h=[.box [.p (.sl 5 (aT t)),.p (.sl 5 (aT w))],.box [.p (.s p)]]:=by
 have hwl:=hw.len
 have hg:=iY (t:=w) (p:=q) (by omega) hw.srt hw.ne (fun x hx=>Nat.le_trans (hw.dlen x hx) (by decide))
 generalize (aR w q).getD nd0=n at hg
 generalize (aR w q).isSome=is at hg ⊢
 obtain ⟨nk,nm,nt,nd⟩:=n
 unfold Nd.cv at hg
 simp only at hg
 refine ent aB aK Tryz.func277 rfl rfl fun X0 hX=>?_
 simp only [Tryz.f277,go_sem]
 cases is
 all_goals repeat' (first|simp only [*,go_sem,Nat.reduceLT,Nat.reduceLeDiff,Nat.reduceEqDiff,↓reduceIte,Nat.reduceAdd,cC,aF]|((with_reducible refine bK (hg) ?_ ?_ ?_);exact rfl;exact fun _=>rfl)|((with_reducible refine aQ (cI (p:=p) (by omega)) ?_ ?_ ?_);exact rfl;exact rfl)|with_reducible refine bF (fun _=>?_) (fun _=>?_))
 all_goals simp_all
theorem zGc {t w:List It} {p:List UInt8} (hw:OkT w) (ht:t.length≤1000000) (hp:p.length≤1000000):
  aA Tryz.prog 346 [.c (.p (.sl 5 (aT t))),.c (.clo 277 [.ptr 0 0,.ptr 1 0])] [.box [.p (.sl 5 (aT t)),.p (.sl 5 (aT w))],.box [.p (.s p)]]
   fun r h=>(∃ i:Int,r=.c (.p (.i .i64 i))∧decide (0≤i)=FL t w p)∧h=[.box [.p (.sl 5 (aT t)),.p (.sl 5 (aT w))],.box [.p (.s p)]]:=by
 refine ent aB aK Tryz.func346 rfl rfl fun X0 hX=>?_
 simp only [Tryz.f346,go_sem]
 repeat' (simp only [*,go_sem,Nat.reduceLT,Nat.reduceEqDiff,↓reduceIte,Nat.reduceAdd,Int.reduceNeg])
 refine aY aB aK (α:=Nat) (fun k=>⟨19,[(0,.c (.p (.sl 5 (aT t)))),(1,.c (.clo 277 [.ptr 0 0,.ptr 1 0])),(7,.c (.p (.i .i64 t.length))),(8,.c (.p (.i .i64 k)))],[.box [.p (.sl 5 (aT t)),.p (.sl 5 (aT w))],.box [.p (.s p)]]⟩)
  (fun k=>k≤t.length∧(t.drop k).any (fun y=>aO p y.p && (aR w y.p).isSome)=FL t w p) (fun k=>t.length-k) 0 ⟨Nat.zero_le _,rfl⟩ (.inl (aI (by rw [hX];rfl) rfl rfl (by simp [aH,aL,aC,aG,aF,cK]))) ?_
 rintro k ⟨hk,hs⟩
 by_cases hlt:k<t.length
 ·have hx:t[k]? = some t[k]:=List.getElem?_eq_getElem hlt
  have hg:=cB hx
  have hd:=drop_at hx
  have h1:decide ((k:Int)<(t.length:Int))=true:=decide_eq_true (by omega)
  have hli:(k:Int)<(t.length:Int):=by omega
  have hk0:(0:Int)≤k:=by omega
  have w1:IntKind.i64.wrap ((k:Int)+1)=k+1:=wrap_i64 (by omega) (by omega)
  generalize t[k]=x at hx hg hd
  rw [hd,List.any_cons] at hs
  have hc:=zJG (t:=t) (w:=w) (q:=x.p) (p:=p) (k:=x.n.k) (m:=x.n.m) (tt:=x.n.t) (d:=x.n.d) hw hp
  cases hb:(aO p x.p && (aR w x.p).isSome)
  ·rw [hb,Bool.false_or] at hs
   rw [hb] at hc
   have hP:=PLift.up hs
   clear hs hx hd hb
   repeat' (simp only [*,go_sem,Nat.reduceLT,Nat.reduceLeDiff,Nat.reduceEqDiff,↓reduceIte,Nat.reduceAdd,Int.reduceNeg])
   refine aA.mono hc ?_
   rintro _ _ ⟨rfl,rfl⟩
   repeat' (simp only [*,go_sem,Nat.reduceLT,Nat.reduceEqDiff,↓reduceIte,Int.reduceNeg])
   exact eM (k+1) ⟨by omega,hP.down⟩ (by omega) (aI rfl rfl rfl (by simp [aH,aL,aC,aG,aF,cK]))
  ·rw [hb,Bool.true_or] at hs
   rw [hb] at hc
   have hP:=PLift.up hs
   clear hs hx hd hb
   repeat' (simp only [*,go_sem,Nat.reduceLT,Nat.reduceLeDiff,Nat.reduceEqDiff,↓reduceIte,Nat.reduceAdd,Int.reduceNeg])
   refine aA.mono hc ?_
   rintro _ _ ⟨rfl,rfl⟩
   repeat' (simp only [*,go_sem,Nat.reduceLT,Nat.reduceEqDiff,↓reduceIte,Int.reduceNeg,cC,aF])
   exact ⟨k,rfl,by rw [← hP.down];exact decide_eq_true (by omega)⟩
 ·have h1:decide ((k:Int)<(t.length:Int))=false:=decide_eq_false (by omega)
  rw [List.drop_of_length_le (by omega)] at hs
  have hP:=PLift.up hs
  clear hs
  repeat' (simp only [*,go_sem,Nat.reduceLT,Nat.reduceEqDiff,↓reduceIte,Nat.reduceAdd,Int.reduceNeg,cC,aF])
  exact ⟨-1,rfl,by rw [← hP.down];rfl⟩
theorem zJB {t w:List It} {p:List UInt8} (hw:OkT w) (ht:t.length≤1000000) (hp:p.length≤1000000):
  aA Tryz.prog 276 [.c (.p (.sl 5 (aT t))),.c (.clo 277 [.ptr 0 0,.ptr 1 0])] [.box [.p (.sl 5 (aT t)),.p (.sl 5 (aT w))],.box [.p (.s p)]]
   fun r h=>r=.c (.p (.b (FL t w p)))∧h=[.box [.p (.sl 5 (aT t)),.p (.sl 5 (aT w))],.box [.p (.s p)]]:=by
 refine ent aB aK Tryz.func276 rfl rfl fun X0 hX=>?_
 simp only [Tryz.f276,go_sem]
 repeat' (simp only [*,go_sem,Nat.reduceLT,Nat.reduceEqDiff,↓reduceIte,Nat.reduceAdd])
 refine aA.mono (zGc hw ht hp) ?_
 rintro _ _ ⟨⟨i,rfl,hi⟩,rfl⟩
 have hi2:decide (i≥0)=FL t w p:=hi
 repeat' (simp only [*,go_sem,Nat.reduceLT,↓reduceIte,cC,aF])
theorem zC3 {t w:List It} {p:List UInt8} (hw:OkT w) (ht:t.length≤1000000) (hp:p.length≤1000000):
  aA Tryz.prog 204 [.agg [.p (.sl 5 (aT t)),.p (.sl 5 (aT w))],.c (.p (.s p))] [] fun r h=>r=.c (.p (.b (FL t w p)))∧h=[]:=by
 refine ent aB aK Tryz.func204 rfl rfl fun X0 hX=>?_
 simp only [Tryz.f204,go_sem]
 repeat' (simp only [*,go_sem,Nat.reduceLT,Nat.reduceEqDiff,↓reduceIte])
 refine aA.mono (zJB hw ht hp) ?_
 rintro _ _ ⟨rfl,rfl⟩
 repeat' (simp only [*,go_sem,Nat.reduceLT,↓reduceIte])
theorem TV {t w:List It} {p:List UInt8} (ht:OkT t) (hw:OkT w) (hp:p.length≤1000000):
  aA Tryz.prog 127 [.agg [.p (.sl 5 (aT t)),.p (.sl 5 (aT w))],.c (.p (.s p))] [] fun r h=>r=.c (.p (.b (mZ t w p)))∧h=[]:=by
 have htl:=ht.len
 have hwl:=hw.len
 have h1:=eF (t:=t) (p:=p) (by omega) ht.srt
 have h2:=eF (t:=w) (p:=p) (by omega) hw.srt
 have h3:=GU (p:=p) ht
 have h4:=zC3 (t:=t) (w:=w) (p:=p) hw (by omega) hp
 unfold mZ
 generalize aW t p=a at *
 generalize aW w p=b at *
 generalize FL t w p=c at *
 generalize hnn:fX t p=nn at *
 have hge:decide ((nn.length:Int)≥2) = !decide ((nn.length:Int)<2):=by
  by_cases h:(nn.length:Int)<2
  ·rw [decide_eq_true h,decide_eq_false (by omega)];rfl
  ·rw [decide_eq_false h,decide_eq_true (by omega)];rfl
 have hle:decide (2≤(nn.length:Int)) = !decide ((nn.length:Int)<2):=hge
 generalize decide ((nn.length:Int)<2)=d at *
 refine ent aB aK Tryz.func127 rfl rfl fun X0 hX=>?_
 simp only [Tryz.f127,go_sem]
 cases a <;> cases b <;> cases c <;> cases d
 all_goals repeat' (first|simp only [*,go_sem,Nat.reduceLT,Nat.reduceLeDiff,Nat.reduceEqDiff,↓reduceIte,Nat.reduceAdd,Bool.not_true,Bool.not_false]|((with_reducible refine aQ (h1) ?_ ?_ ?_);exact rfl;exact rfl)|((with_reducible refine aQ (h2) ?_ ?_ ?_);exact rfl;exact rfl)|((with_reducible refine bK (h3) ?_ ?_ ?_);exact rfl;exact fun _=>rfl)|((with_reducible refine aQ (h4) ?_ ?_ ?_);exact rfl;exact rfl))
 all_goals rfl
theorem zFP {t w:List It} {p:List UInt8} (ht:OkT t) (hw:OkT w) (hp:p.length≤1000000):
  aA Tryz.prog 129 [.agg [.p (.sl 5 (aT t)),.p (.sl 5 (aT w))],.c (.p (.s p))] [] fun r h=>r=.c (.p (.b (HC w (iM t w) p)))∧h=[]:=by
 have hdl:=zAS p
 have hwl:=hw.len
 refine ent aB aK Tryz.func129 rfl rfl fun X0 hX=>?_
 simp only [Tryz.f129,go_sem]
 repeat' (first|simp only [*,go_sem,Nat.reduceLT,Nat.reduceEqDiff,↓reduceIte]|((with_reducible refine aQ (dO (p:=p) (by omega)) ?_ ?_ ?_);exact rfl;exact rfl))
 refine aY aB aK (α:=Nat × List UInt8) (fun x=>⟨35,[(2,.c (.ptr 0 0)),(5,.c (.p (.s x.2)))],[.box [.p (.sl 5 (aT t)),.p (.sl 5 (aT w))]]⟩)
  (fun x=>x.2.length≤x.1∧x.1≤p.length∧zEo w (iM t w) x.1 x.2=HC w (iM t w) p) (fun x=>x.1) (p.length,aS p) ⟨hdl,Nat.le_refl _,rfl⟩ (.inl (aI (by rw [hX];rfl) rfl rfl (by simp [aH,aL,aC,aG,aF]))) ?_
 rintro ⟨n,q⟩ ⟨hq,hn,hc⟩
 simp only at hq hn hc
 cases hq0:(q == [])
 ·have hq1:(q != [])=true:=by rw [bne,hq0];rfl
  have hqn:q≠[]:=by simpa using hq0
  obtain ⟨n,rfl⟩:∃ m,n=m+1:=⟨n-1,by have:=List.length_pos_iff.2 hqn;omega⟩
  have hdq:(aS q).length≤n:=by
   by_cases h:aS q=[]
   ·rw [h];exact Nat.zero_le _
   ·have:=sD h;omega
  rw [zQ hqn,← zKJ hw hqn] at hc
  have hg:=iY (t:=w) (p:=q) (by omega) hw.srt hw.ne (fun x hx=>Nat.le_trans (hw.dlen x hx) (by decide))
  have hd:=eF (t:=w) (p:=q) (by omega) hw.srt
  have ho:=TV (p:=q) ht hw (by omega)
  unfold zMf at hc
  generalize (aR w q).getD nd0=x at hg
  generalize (aR w q).isSome=is at hg hc
  generalize aW w q=dir at hd hc
  generalize mZ t w q=op at ho hc
  obtain ⟨nk,nm,nt,nd⟩:=x
  unfold Nd.cv at hg
  simp only at hg
  cases is <;> cases dir <;> cases op
  all_goals simp only [Bool.not_true,Bool.not_false,Bool.or_true,Bool.or_false,if_true,Bool.false_eq_true,if_false] at hc
  case true.true.false =>
   have hC:=PLift.up hc
   clear hc
   repeat' (first|simp only [*,go_sem,Nat.reduceLT,Nat.reduceLeDiff,Nat.reduceEqDiff,↓reduceIte,Nat.reduceAdd,Bool.not_true,Bool.not_false]|((with_reducible refine bK (hg) ?_ ?_ ?_);exact rfl;exact fun _=>rfl)|((with_reducible refine aQ (hd) ?_ ?_ ?_);exact rfl;exact rfl)|((with_reducible refine aQ (ho) ?_ ?_ ?_);exact rfl;exact rfl)|((with_reducible refine aQ (dO (p:=q) (by omega)) ?_ ?_ ?_);exact rfl;exact rfl))
   exact eM (n,aS q) ⟨hdq,by simp only;omega,hC.down⟩ (by simp only;omega) (aI rfl rfl rfl (by simp [aH,aL,aC,aG,aF]))
  all_goals rw [← hc]
  all_goals clear hc
  all_goals repeat' (first|simp only [*,go_sem,Nat.reduceLT,Nat.reduceLeDiff,Nat.reduceEqDiff,↓reduceIte,Nat.reduceAdd,Bool.not_true,Bool.not_false]|((with_reducible refine bK (hg) ?_ ?_ ?_);exact rfl;exact fun _=>rfl)|((with_reducible refine aQ (hd) ?_ ?_ ?_);exact rfl;exact rfl)|((with_reducible refine aQ (ho) ?_ ?_ ?_);exact rfl;exact rfl))
 ·have hq1:(q != [])=false:=by rw [bne,hq0];rfl
  have hqn:q=[]:=eq_of_beq hq0
  subst hqn
  rw [SJ] at hc
  rw [← hc]
  clear hc
  repeat' (simp only [*,go_sem,Nat.reduceLT,Nat.reduceEqDiff,↓reduceIte,beq_self_eq_true])
end
end Go.Proofs.YtbpblnmhlhpebaaGreatDoor
namespace Go.Dm
open Go
section
section
variable {P:Program} {T:Tab} {X0:Ctx} {Q:Exit→DS→Prop}
theorem zIi {c:Code} {s:DS} (id:Nat) {k:Nat} {es:List (List PV)} (es':List (List PV)) (hb:s.h[id]? = some (.arr k es false)) (hw:iU es es')
  (h:SWP P X0 c ⟨s.n,s.t,s.h.set id (.arr k es' false)⟩ Q):SWP P X0 c s Q:=by
 intro gd X a hh hi hs ht
 have h0:X.h[id]? = some (.arr k es false):=by rw [hh];exact hb
 have hlen:=hw.len
 have hbl:=hi.blk id _ h0
 have rf:=Step.refl hi
 have st:Step X ⟨X.w,X.S,X.G,X.h.set id (.arr k es' false)⟩:=by
  refine ⟨rf.size,rf.os,rf.tape,rf.output,rf.kept,by simp,fun i db' hl hdb hlv=>?_,rf.frame,fun i db g' hdb hl hf hg'=>?_,rf.upper⟩
  ·rcases bW hdb with ⟨rfl,rfl,_⟩|⟨hne,h'⟩
   ·exact ⟨_,h0,⟨rfl,by omega⟩,rfl,fun g' hg'=>(hi.blk _ _ h0).same rfl g' hg'⟩
   ·exact ⟨db',h',cH.refl hlv,rfl,fun g' hg'=>(hi.blk i db' h').same hlv g' hg'⟩
  ·rcases bW hdb with ⟨rfl,rfl,_⟩|⟨hne,h'⟩
   ·exact .inr ⟨_,_,g',h0,rfl,rfl,hg',rfl⟩
   ·exact .inr ⟨i,db,g',h',hl,hf,hg',rfl⟩
 have hi':HInv ⟨X.w,X.S,X.G,X.h.set id (.arr k es' false)⟩:=by
  refine ⟨hi.slt,fun i db hdb=>?_,fun i db g' hdb hl hg'=>?_,fun i db i' db' g1 g2 hdb hl hf hdb' hl' hg1 hg2 he=>?_⟩
  ·rcases bW hdb with ⟨rfl,rfl,_⟩|⟨hne,h'⟩
   ·rcases hbl with ⟨h1,h2⟩|⟨g,arr,el,fz,h1,h2,h3,h4,h5⟩
    ·exact .inl ⟨h1,List.eq_nil_of_length_eq_zero (by rw [hlen,h2];rfl)⟩
    ·exact .inr ⟨g,arr,el,fz,h1,h2,by rw [hlen];exact h3,h4,hw.relL h5⟩
   ·exact (hi.blk i db h').move st rfl fun _ _=>rfl
  ·rcases bW hdb with ⟨rfl,rfl,_⟩|⟨hne,h'⟩
   ·have:=hi.own _ (.arr k es false) g' h0 rfl hg'
    exact this
   ·exact hi.own i db g' h' hl hg'
  ·rcases bW hdb with ⟨rfl,rfl,_⟩|⟨hne,h1'⟩ <;> rcases bW hdb' with ⟨rfl,rfl,_⟩|⟨hne',h2'⟩
   ·rfl
   ·exact hi.inj i _ i' db' g1 g2 h0 rfl rfl h2' hl' hg1 hg2 he
   ·exact hi.inj i db i' _ g1 g2 h1' hl hf h0 rfl hg1 hg2 he
   ·exact hi.inj i db i' db' g1 g2 h1' hl hf h2' hl' hg1 hg2 he
 exact h gd ⟨X.w,X.S,X.G,X.h.set id (.arr k es' false)⟩ a (by simp only [hh]) hi' (hs.trans hi st) ⟨ht.size,fun j=>(ht.rel j).step st,ht.defs⟩
theorem MU:∀ e:List PV,zGZ e e
 | []=>True.intro
 | _::e=>⟨.inl rfl,MU e⟩
theorem xN:∀ e:List (List PV),iU e e
 | []=>True.intro
 | e::es=>⟨MU e,xN es⟩
theorem DP:∀ {a b c d:List (List PV)},iU a b→iU c d→iU (a++c) (b++d)
 | [],[],_,_,_,h=>h
 | _::_,_::_,_,_,h1,h2=>⟨h1.1,DP h1.2 h2⟩
 | [],_::_,_,_,h,_=>h.elim
 | _::_,[],_,_,h,_=>h.elim
end
end
end Go.Dm
namespace Go.Proofs.YtbpblnmhlhpebaaGreatDoor
open Go Go.Dm Go.Proofs
section
theorem zJF {p q:List UInt8} {k k' nk nk' nm nm':Int} {o o':Bool} {t t':Nat} {d d':List UInt8}:
  aA Tryz.prog 131 [.agg [.p (.s p),.p (.i .i64 k),.p (.b o),.p (.i .i64 nk),.p (.i .i64 nm),.p (.f t),.p (.sl 1 (bT d))],.agg [.p (.s q),.p (.i .i64 k'),.p (.b o'),.p (.i .i64 nk'),.p (.i .i64 nm'),.p (.f t'),.p (.sl 1 (bT d'))]] [] fun r h=>r=.c (.p (.i .i64 (GY p q)))∧h=[]:=by
 refine ent aB aK Tryz.func131 rfl rfl fun X0 hX=>?_
 simp only [Tryz.f131,go_sem]
 repeat' (first|simp only [*,go_sem,Nat.reduceLT,Nat.reduceEqDiff,↓reduceIte]|((with_reducible refine aQ (jK) ?_ ?_ ?_);exact rfl;exact rfl))
theorem zJf {h:aD} {id:Nat} {l:List En} (hu:∀ x∈l,∀ y∈l,x.p=y.p→x=y) (hid:h[id]? = some (.arr 7 (fV l) false)) (hsz:l.length<4611686018427387904):
  aA Tryz.prog 130 [.c (.own id 0 l.length),.c (.clo 131 [])] h fun d h'=>d=.tup []∧h'=h.set id (.arr 7 (fV (zY l)) false):=by
 have:=nC (P:=Tryz.prog) (f:=130) (g:=131) 7 (by decide) cfI RF
  (enters Tryz.func130 rfl rfl) (enters_of Tryz.func131 (by kernel_rfl) rfl)
  (fun enc hk h1 c hO blk off cap d w hcmp hH hblk hsz=>Tryz.slices_SortFunc_f130 7 Tryz.isAgg202 Tryz.sizeOf202 enc hk h1 c hO 131 #[] blk off cap d w (enters_of Tryz.func131 (by kernel_rfl) rfl) hcmp hH hblk hsz)
  (fun p cap fv w=>Tryz.slices_SortFunc_none_f130 (α:=Nat) p cap fv w)
  (h:=h) (i0:=id) (es:=fV l) (fun x hx y hy=>by
   obtain ⟨a,_,rfl⟩:=List.mem_map.1 hx
   obtain ⟨b,_,rfl⟩:=List.mem_map.1 hy
   exact zJF) (zAN hu) hid (by rw [GP];exact hsz)
 rw [zDn,GP] at this
 exact this
theorem zIV {h:aD} {id n:Nat} {l:List En} {K:DV→aD→Prop} (hu:∀ x∈l,∀ y∈l,x.p=y.p→x=y) (hsz:l.length<4611686018427387904) (hn:n=l.length) (hid:h[id]? = some (.arr 7 (fV l) false)) (hk:K (.tup []) (h.set id (.arr 7 (fV (zY l)) false))):
  aA Tryz.prog 130 [.c (.own id 0 n),.c (.clo 131 [])] h K:=by
 subst hn
 exact aA.mono (zJf hu hid hsz) (by rintro _ _ ⟨rfl,rfl⟩;exact hk)
def kL (t w:List It) (k:Nat):List En:=((t.take k).filter fun y=>!(aR w y.p).isSome && !HC w (iM t w) y.p).map fun y=>jX y.p
theorem QO {t w:List It} {k:Nat} {x:It} (h:t[k]? = some x):kL t w (k+1)=kL t w k++(if !(aR w x.p).isSome && !HC w (iM t w) x.p then [jX x.p] else []):=by
 unfold kL
 rw [eJ h,List.map_append]
 split <;> rfl
theorem ZA (t w:List It) (k:Nat):(kL t w k).length≤t.length:=by
 unfold kL
 rw [List.length_map]
 have:=List.length_filter_le (fun y:It=>!(aR w y.p).isSome && !HC w (iM t w) y.p) (t.take k)
 rw [List.length_take] at this
 omega
theorem zH3 {t w:List It} {k:Nat} (hk:t.length≤k):lV t w=gN t (iM t w) w++kL t w k:=by
 unfold kL
 rw [List.take_of_length_le hk]
 rfl
theorem zEx (out:List En) (p:List UInt8):iU (fV out++[[.s p,.i .i64 2,.b false,.i .i64 0,.i .i64 0,.f 0,.nil]]) (fV (out++[jX p])):=by
 rw [← VQ]
 exact DP (xN _) ⟨⟨.inl rfl,.inl rfl,.inl rfl,.inl rfl,.inl rfl,.inl rfl,.inr ⟨rfl,1,rfl⟩,True.intro⟩,True.intro⟩
theorem QU {t w:List It} (ht:OkT t) (hw:OkT w):
  aA Tryz.prog 64 [.c (.p (.sl 5 (aT t))),.c (.p (.sl 5 (aT w)))] [] fun r h=>r=.c (.p (.sl 7 (fV (fM t w))))∧h=[]:=by
 have htl:=ht.len
 have hwl:=hw.len
 have hsrt:=zCU ht hw
 have hinj:=NQ ht hw
 have hop:=fun (p:List UInt8) (hp:p.length≤1000000)=>TV (p:=p) ht hw hp
 have hhi:=fun (p:List UInt8) (hp:p.length≤1000000)=>zFP (p:=p) ht hw hp
 have hgt:=fun (p:List UInt8)=>iY (t:=t) (p:=p) (by omega) ht.srt ht.ne (fun x hx=>Nat.le_trans (ht.dlen x hx) (by decide))
 have hgw:=fun (p:List UInt8)=>iY (t:=w) (p:=p) (by omega) hw.srt hw.ne (fun x hx=>Nat.le_trans (hw.dlen x hx) (by decide))
 have hiB:=fun (x:It) (hx:x∈w)=>CP (t:=t) hw hx
 refine zL0 aB Tryz.func64 rfl rfl fun X0 hX=>?_
 simp only [Tryz.f64,go_sem]
 refine cV aB aK ?_
 repeat' (simp only [*,go_sem,Nat.reduceLT])
 refine cV aB aK ?_
 repeat' (simp only [*,go_sem,Nat.reduceLT,Nat.reduceLeDiff,Nat.reduceEqDiff,↓reduceIte,Nat.reduceAdd])
 refine cV aB aK ?_
 repeat' (simp only [*,go_sem,Nat.reduceLT])
 refine jW aB aK 6 7 rfl ?_
 refine DX aB aK (α:=Unit) (fun _=>⟨97,[(0,.c (.p (.sl 5 (aT t)))),(1,.c (.p (.sl 5 (aT w)))),(5,.c (.ptr 0 0)),(6,.c (.own 1 0 (gN t (iM t w) w).length))],[.box [.p (.sl 5 (aT t)),.p (.sl 5 (aT w))],.arr 7 (fV (gN t (iM t w) w)) false]⟩) (fun _=>True) ?_ ?_
 ·repeat' (simp only [*,go_sem,Nat.reduceLT,Nat.reduceEqDiff,↓reduceIte])
  refine qI (α:=Nat × List En) (fun x=>⟨97,[(0,.c (.p (.sl 5 (aT t)))),(1,.c (.p (.sl 5 (aT w)))),(5,.c (.ptr 0 0)),(19,.c (.p (.sl 5 (aT w)))),(20,.c (.p (.i .i64 w.length))),(21,.c (.p (.i .i64 x.1))),(6,.c (.own 1 0 x.2.length))],[.box [.p (.sl 5 (aT t)),.p (.sl 5 (aT w))],.arr 7 (fV x.2) false]⟩)
   (fun x=>x.1≤w.length∧gN t (iM t w) (w.take x.1)=x.2) (fun x=>w.length-x.1) (0,[]) ⟨Nat.zero_le _,rfl⟩ (.inl (aI (by rw [hX];rfl) rfl rfl (by simp [aH,aL,aC,aG,aF]))) ?_
  rintro ⟨k,out⟩ ⟨hk,hout⟩
  simp only at hk hout
  have hol:out.length≤120:=by
   have:=rP t (iM t w) (w.take k)
   rw [hout,List.length_take] at this
   omega
  by_cases hlt:k<w.length
  ·have hx:w[k]? = some w[k]:=List.getElem?_eq_getElem hlt
   have hg:=cB hx
   have hib:=hiB _ (List.getElem_mem hlt)
   have hxl:=hw.plen _ (List.getElem_mem hlt)
   have hxd:=hw.dlen _ (List.getElem_mem hlt)
   have hxt:=hw.tlen _ (List.getElem_mem hlt)
   have hnx:=YM (t:=t) (os:=iM t w) hx
   rw [hout] at hnx
   have h1:decide ((k:Int)<(w.length:Int))=true:=decide_eq_true (by omega)
   have hli:(k:Int)<(w.length:Int):=by omega
   have hk0:(0:Int)≤k:=by omega
   have w1:IntKind.i64.wrap ((k:Int)+1)=k+1:=wrap_i64 (by omega) (by omega)
   have hgx:=hgt w[k].p
   have hox:=hop w[k].p (by omega)
   have hot:=ht.gett w[k].p
   generalize w[k]=x at hx hg hib hxl hxd hxt hnx hgx hox hot
   clear hop hhi hgt hgw hiB hinj hsrt hout hx
   unfold QX at hnx
   generalize isB (iM t w) x.p=b at hib hnx
   generalize mZ t w x.p=om at hib hox
   have hnd:=qN (x:=(aR t x.p).getD nd0) (y:=x.n) hot hxt
   generalize (aR t x.p).isSome=is at hgx hnx
   generalize (aR t x.p).getD nd0=n at hgx hnx hnd
   obtain ⟨xp,⟨xk,xm,xt,xd⟩⟩:=x
   obtain ⟨nk,nm,nt,nd⟩:=n
   unfold Nd.cv at hgx
   simp only at *
   have hns:=vH (k:=nk) (m:=nm) (t:=nt) (d:=nd) (k':=xk) (m':=xm) (t':=xt) (d':=xd)
   rw [hnd] at hns
   generalize fS ⟨nk,nm,nt,nd⟩ ⟨xk,xm,xt,xd⟩=sm at hns hnx
   have hcp:=zK (k:=xk) (m:=xm) (t:=xt) (d:=xd) (by omega)
   have hb1:(out.length+1)*80≤140737488355328:=by omega
   have hb2:out.length+1≤9223372036854775807:=by omega
   refine cV aB aK ?_
   repeat' (simp only [*,go_sem,Nat.reduceLT,Nat.reduceEqDiff,↓reduceIte])
   refine cV aB aK ?_
   repeat' (simp only [*,go_sem,↓reduceIte])
   refine rX ?_
   refine cV aB aK ?_
   repeat' (simp only [*,go_sem,Nat.reduceLT,Nat.reduceLeDiff,Nat.reduceEqDiff,↓reduceIte,Nat.reduceAdd])
   refine DX aB aK (α:=Unit) (fun _=>⟨97,[(0,.c (.p (.sl 5 (aT t)))),(1,.c (.p (.sl 5 (aT w)))),(5,.c (.ptr 0 0)),(19,.c (.p (.sl 5 (aT w)))),(20,.c (.p (.i .i64 w.length))),(21,.c (.p (.i .i64 k))),(6,.c (.own 1 0 out.length)),(8,.c (.ptr 2 0)),(9,.c (.p (.b b)))],[.box [.p (.sl 5 (aT t)),.p (.sl 5 (aT w))],.arr 7 (fV out) false,.box [.p (.s xp),.p (.i .i64 xk),.p (.i .i64 xm),.p (.f xt),.p (.sl 1 (bT xd))]]⟩) (fun _=>True) ?_ ?_
   ·clear hnx hgx hns hcp
    cases hk2:(xk == 2)
    ·rw [hk2,Bool.false_and] at hib
     subst hib
     repeat' (simp only [*,go_sem,Nat.reduceLT,Nat.reduceEqDiff,↓reduceIte])
     exact zLv () trivial (aI (by first|rfl|(rw [hX];rfl)) rfl rfl (by simp [aH,aL,aC,aG,aF]))
    ·rw [hk2,Bool.true_and] at hib
     subst hib
     repeat' (first|simp only [*,go_sem,Nat.reduceLT,Nat.reduceLeDiff,Nat.reduceEqDiff,↓reduceIte,Nat.reduceAdd]|((with_reducible refine aQ (hox) ?_ ?_ ?_);exact rfl;exact rfl))
     exact zLv () trivial (aI (by first|rfl|(rw [hX];rfl)) rfl rfl (by simp [aH,aL,aC,aG,aF]))
   rintro - -
   clear hox hib
   by_cases hp:b=true∨is=false∨sm=false
   ·have hnw:(if b=true then [(⟨xp,1,true,⟨xk,xm,xt,xd⟩⟩:En)] else if (!is || !sm)=true then [⟨xp,1,false,⟨xk,xm,xt,xd⟩⟩] else [])=[⟨xp,1,b,⟨xk,xm,xt,xd⟩⟩]:=by
     cases b
     ·rcases hp with hp|rfl|rfl
      ·cases hp
      ·rfl
      ·simp
     ·rfl
    rw [hnw] at hnx
    have hJ:k+1≤w.length∧gN t (iM t w) (w.take (k+1))=out++[⟨xp,1,b,⟨xk,xm,xt,xd⟩⟩]:=⟨by omega,hnx⟩
    have hP:=PLift.up hJ
    clear hJ hnx hnw
    refine iT aB aK ?_
    cases b <;> cases is <;> cases sm
    case false.true.true=>exact absurd hp (by decide)
    all_goals clear hp
    all_goals repeat' (first|simp only [*,go_sem,Nat.reduceLT,Nat.reduceLeDiff,Nat.reduceEqDiff,↓reduceIte,Nat.reduceAdd,Bool.not_true,Bool.not_false]|((with_reducible refine bK (hgx) ?_ ?_ ?_);exact rfl;exact fun _=>rfl)|((with_reducible refine aQ (hns) ?_ ?_ ?_);exact rfl;exact rfl)|((refine aP (id:=9) aB aK [8,9] [1,2,3,4,5,6,7,8,0,9,10] (by decide +kernel) ?_);(repeat' (first|(refine bA ?_)|((refine dB ?_ ?_ rfl rfl rfl ?_ ?_);(rotate_left 2);(focus ((repeat' (first|simp only [*,go_sem,Nat.reduceLT,Nat.reduceLeDiff,Nat.reduceEqDiff,↓reduceIte,Nat.reduceAdd,Nat.reduceMul,Nat.reduceBEq]|((with_reducible refine And.intro ?_ ?_);(focus (decide)))));((refine And.intro ?_ ?_ <;> exact rfl))));(simp only [aJ]))|((refine dC ?_ rfl rfl rfl ?_ ?_);(rotate_left 1);(focus ((repeat' (first|exact bP|refine bE ?_ ?_));(all_goals ((repeat' (first|simp only [*,go_sem,Nat.reduceLT,Nat.reduceLeDiff,Nat.reduceEqDiff,↓reduceIte,Nat.reduceAdd]|((with_reducible refine bK (hcp) ?_ ?_ ?_);exact rfl;exact fun _=>rfl)));(try (exact rfl))))));(simp only [aJ]))))))
    all_goals refine iT aB aK ?_
    all_goals repeat' (simp only [*,go_sem,Nat.reduceLT,Nat.reduceEqDiff,↓reduceIte])
    all_goals exact fW (k+1,out++[⟨xp,1,_,⟨xk,xm,xt,xd⟩⟩]) 1 5 hP.down (by simp only;omega) (by first|rfl|(rw [hX];rfl)) rfl (aI (by first|rfl|(rw [hX];rfl)) rfl rfl (by simp [aH,aL,aC,aG,aF,tG,sF,sU]))
   ·have hb:b=false:=by cases b;rfl;exact absurd (.inl rfl) hp
    have hi:is=true:=by cases is;exact absurd (.inr (.inl rfl)) hp;rfl
    have hs:sm=true:=by cases sm;exact absurd (.inr (.inr rfl)) hp;rfl
    subst hb;subst hi;subst hs
    have hJ:k+1≤w.length∧gN t (iM t w) (w.take (k+1))=out:=⟨by omega,by rw [hnx];simp⟩
    have hP:=PLift.up hJ
    clear hJ hnx hp
    refine iT aB aK ?_
    repeat' (first|simp only [*,go_sem,Nat.reduceLT,Nat.reduceLeDiff,Nat.reduceEqDiff,↓reduceIte,Nat.reduceAdd,Bool.not_true]|((with_reducible refine bK (hgx) ?_ ?_ ?_);exact rfl;exact fun _=>rfl)|((with_reducible refine aQ (hns) ?_ ?_ ?_);exact rfl;exact rfl))
    refine iT aB aK ?_
    repeat' (simp only [*,go_sem,Nat.reduceLT,Nat.reduceEqDiff,↓reduceIte])
    exact eM (k+1,out) hP.down (by simp only;omega) (aI (by first|rfl|(rw [hX];rfl)) rfl rfl (by simp [aH,aL,aC,aG,aF]))
  ·have h1:decide ((k:Int)<(w.length:Int))=false:=decide_eq_false (by omega)
   rw [List.take_of_length_le (by omega)] at hout
   clear hop hhi hgt hgw hiB hinj hsrt
   have hP:=PLift.up hout
   clear hout
   refine cV aB aK ?_
   repeat' (simp only [*,go_sem,Nat.reduceLT,Nat.reduceEqDiff,↓reduceIte])
   refine cV aB aK ?_
   repeat' (simp only [*,go_sem,↓reduceIte])
   exact zLv () trivial (aI (by rw [hX];rfl) (by rw [← hP.down];rfl) rfl (by simp [aH,aL,aC,aG,aF,hP.down]))
 rintro - -
 generalize hpu:gN t (iM t w) w=pu
 have hpl:pu.length≤120:=by
  have:=rP t (iM t w) w
  rw [hpu] at this
  omega
 refine DX aB aK (α:=Unit) (fun _=>⟨97,[(6,.c (.own 1 0 (lV t w).length))],[.box [.p (.sl 5 (aT t)),.p (.sl 5 (aT w))],.arr 7 (fV (lV t w)) false]⟩) (fun _=>True) ?_ ?_
 ·have hpu2:=PLift.up hpu
  clear hpu
  repeat' (simp only [*,go_sem,Nat.reduceLT,↓reduceIte])
  refine qI (α:=Nat × List En) (fun x=>⟨97,[(0,.c (.p (.sl 5 (aT t)))),(1,.c (.p (.sl 5 (aT w)))),(5,.c (.ptr 0 0)),(65,.c (.p (.sl 5 (aT t)))),(66,.c (.p (.i .i64 t.length))),(67,.c (.p (.i .i64 x.1))),(6,.c (.own 1 0 x.2.length))],[.box [.p (.sl 5 (aT t)),.p (.sl 5 (aT w))],.arr 7 (fV x.2) false]⟩)
   (fun x=>x.1≤t.length∧pu++kL t w x.1=x.2) (fun x=>t.length-x.1) (0,pu) ⟨Nat.zero_le _,by simp [kL]⟩ (.inl (aI (by rw [hX];rfl) rfl rfl (by simp [aH,aL,aC,aG,aF]))) ?_
  rintro ⟨k,out⟩ ⟨hk,hout⟩
  simp only at hk hout
  have hol:out.length≤240:=by
   rw [← hout,List.length_append]
   have:=ZA t w k
   omega
  by_cases hlt:k<t.length
  ·have hx:t[k]? = some t[k]:=List.getElem?_eq_getElem hlt
   have hg:=cB hx
   have hxl:=ht.plen _ (List.getElem_mem hlt)
   have hnx:=QO (w:=w) hx
   have h1:decide ((k:Int)<(t.length:Int))=true:=decide_eq_true (by omega)
   have hli:(k:Int)<(t.length:Int):=by omega
   have hk0:(0:Int)≤k:=by omega
   have w1:IntKind.i64.wrap ((k:Int)+1)=k+1:=wrap_i64 (by omega) (by omega)
   have hgx:=hgw t[k].p
   have hhx:=hhi t[k].p (by omega)
   generalize t[k]=x at hx hg hxl hnx hgx hhx
   have hnx2:pu++kL t w (k+1)=out++(if !(aR w x.p).isSome && !HC w (iM t w) x.p then [jX x.p] else []):=by
    rw [hnx,← hout,List.append_assoc]
   clear hop hhi hgt hgw hiB hinj hsrt hout hx hnx
   generalize (aR w x.p).isSome=is at hgx hnx2
   generalize HC w (iM t w) x.p=hid at hhx hnx2
   generalize (aR w x.p).getD nd0=n at hgx
   obtain ⟨xp,⟨xk,xm,xt,xd⟩⟩:=x
   obtain ⟨nk,nm,nt,nd⟩:=n
   unfold Nd.cv at hgx
   simp only at *
   have hb1:(out.length+1)*80≤140737488355328:=by omega
   have hb2:out.length+1≤9223372036854775807:=by omega
   refine cV aB aK ?_
   repeat' (simp only [*,go_sem,Nat.reduceLT,Nat.reduceEqDiff,↓reduceIte])
   refine cV aB aK ?_
   repeat' (simp only [*,go_sem,↓reduceIte])
   refine rX ?_
   refine cV aB aK ?_
   repeat' (simp only [*,go_sem,Nat.reduceLT,Nat.reduceLeDiff,Nat.reduceEqDiff,↓reduceIte,Nat.reduceAdd])
   cases is
   ·cases hid
    ·have hJ:k+1≤t.length∧pu++kL t w (k+1)=out++[jX xp]:=⟨by omega,by rw [hnx2];rfl⟩
     have hP:=PLift.up hJ
     clear hJ hnx2
     refine iT aB aK ?_
     repeat' (first|simp only [*,go_sem,Nat.reduceLT,Nat.reduceLeDiff,Nat.reduceEqDiff,↓reduceIte,Nat.reduceAdd,Nat.reduceMul,Nat.reduceBEq,Bool.not_false]|((with_reducible refine bK (hgx) ?_ ?_ ?_);exact rfl;exact fun _=>rfl)|((with_reducible refine aQ (hhx) ?_ ?_ ?_);exact rfl;exact rfl)|((with_reducible refine And.intro ?_ ?_);(focus (decide))))
     refine zIi 5 (fV (out++[jX xp])) rfl (zEx out xp) ?_
     refine iT aB aK ?_
     repeat' (simp only [*,go_sem,Nat.reduceLT,Nat.reduceEqDiff,↓reduceIte,List.set_cons_succ,List.set_cons_zero])
     exact fW (k+1,out++[jX xp]) 1 5 hP.down (by simp only;omega) (by first|rfl|(rw [hX];rfl)) rfl (aI (by first|rfl|(rw [hX];rfl)) rfl rfl (by simp [aH,aL,aC,aG,aF,tG,sF,sU]))
    ·have hJ:k+1≤t.length∧pu++kL t w (k+1)=out:=⟨by omega,by rw [hnx2];simp⟩
     have hP:=PLift.up hJ
     clear hJ hnx2
     refine iT aB aK ?_
     repeat' (first|simp only [*,go_sem,Nat.reduceLT,Nat.reduceLeDiff,Nat.reduceEqDiff,↓reduceIte,Nat.reduceAdd,Bool.not_true,Bool.not_false]|((with_reducible refine bK (hgx) ?_ ?_ ?_);exact rfl;exact fun _=>rfl)|((with_reducible refine aQ (hhx) ?_ ?_ ?_);exact rfl;exact rfl))
     refine iT aB aK ?_
     repeat' (simp only [*,go_sem,Nat.reduceLT,Nat.reduceEqDiff,↓reduceIte])
     exact eM (k+1,out) hP.down (by simp only;omega) (aI (by first|rfl|(rw [hX];rfl)) rfl rfl (by simp [aH,aL,aC,aG,aF]))
   ·have hJ:k+1≤t.length∧pu++kL t w (k+1)=out:=⟨by omega,by rw [hnx2];simp⟩
    have hP:=PLift.up hJ
    clear hJ hnx2
    refine iT aB aK ?_
    repeat' (first|simp only [*,go_sem,Nat.reduceLT,Nat.reduceLeDiff,Nat.reduceEqDiff,↓reduceIte,Nat.reduceAdd,Bool.not_true]|((with_reducible refine bK (hgx) ?_ ?_ ?_);exact rfl;exact fun _=>rfl))
    refine iT aB aK ?_
    repeat' (simp only [*,go_sem,Nat.reduceLT,Nat.reduceEqDiff,↓reduceIte])
    exact eM (k+1,out) hP.down (by simp only;omega) (aI (by first|rfl|(rw [hX];rfl)) rfl rfl (by simp [aH,aL,aC,aG,aF]))
  ·have h1:decide ((k:Int)<(t.length:Int))=false:=decide_eq_false (by omega)
   have hE:out=lV t w:=by rw [zH3 (k:=k) (by omega),hpu2.down];exact hout.symm
   clear hop hhi hgt hgw hiB hinj hsrt
   have hP:=PLift.up hE
   clear hout hE
   refine cV aB aK ?_
   repeat' (simp only [*,go_sem,Nat.reduceLT,Nat.reduceEqDiff,↓reduceIte])
   refine cV aB aK ?_
   repeat' (simp only [*,go_sem,↓reduceIte])
   exact zLv () trivial (aI (by rw [hX];rfl) (by rw [hP.down];rfl) rfl (by simp [aH,aL,aC,aG,aF,hP.down]))
 rintro - -
 have hml:(lV t w).length≤1000:=by
  unfold lV VW
  rw [List.length_append,List.length_map,hpu]
  have:=List.length_filter_le (fun y:It=>!(aR w y.p).isSome && !HC w (iM t w) y.p) t
  omega
 have hsl:=zBb (lV t w)
 have hml2:(fM t w).length=(lV t w).length:=by rw [← hsrt];exact hsl
 refine iT aB aK ?_
 repeat' (first|simp only [*,go_sem,Nat.reduceLT,Nat.reduceEqDiff,↓reduceIte,List.set_cons_succ,List.set_cons_zero]|refine zIV (id:=1) (l:=lV t w) hinj (by omega) rfl (by rfl) ?_)
 all_goals rw [List.take_of_length_le (by omega)]
end
end Go.Proofs.YtbpblnmhlhpebaaGreatDoor
