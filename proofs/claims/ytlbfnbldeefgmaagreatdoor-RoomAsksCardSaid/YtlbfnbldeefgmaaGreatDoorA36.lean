/- Part 37 of the proof of roomAsks_card, set without needless blanks. No condition. -/
import Derived.Test.YtlbfnbldeefgmaaGreatDoorA35
set_option linter.all false
section
namespace Go.Proofs.YtlbfnbldeefgmaaGreatDoor
open Go Go.Dm Go.Proofs
set_option maxRecDepth 100000
set_option maxHeartbeats 8000000
theorem zJI {t w:List It} {q p:List UInt8} {k m:Int} {tt:Nat} {d:List UInt8} (hw:OkT w) (hp:p.length≤1000000):
  aA Tryz.prog 305 [.agg [.p (.s q),.p (.i .i64 k),.p (.i .i64 m),.p (.f tt),.p (.sl 1 (bO d))],.c (.ptr 0 0),.c (.ptr 1 0)] [.box [.p (.sl 5 (aU t)),.p (.sl 5 (aU w))],.box [.p (.s p)]]
   fun r h=>r=.c (.p (.b (aP p q && (aQ w q).isSome)))∧h=[.box [.p (.sl 5 (aU t)),.p (.sl 5 (aU w))],.box [.p (.s p)]]:=by
 have hwl:=hw.len;have hg:=jL (t:=w) (p:=q) (by omega) hw.srt hw.ne (fun x hx=>Nat.le_trans (hw.dlen x hx) (by decide));generalize (aQ w q).getD nd0=n at hg;generalize (aQ w q).isSome=is at hg ⊢;obtain ⟨nk,nm,nt,nd⟩:=n;unfold Nd.cv at hg;simp only at hg;refine ent aB aK Tryz.func305 rfl rfl fun X0 hX=>?_;simp only [Tryz.f305,go_sem];cases is
 all_goals repeat' (first|simp only [*,go_sem,Nat.reduceLT,Nat.reduceLeDiff,Nat.reduceEqDiff,↓reduceIte,Nat.reduceAdd,bN,aF]|refine uN (hg) ?_|refine uF (cK (p:=p) (by omega)) ?_|with_reducible refine bF (fun _=>?_) (fun _=>?_))
 all_goals simp_all
theorem zGQ {t w:List It} {p:List UInt8} (hw:OkT w) (ht:t.length≤1000000) (hp:p.length≤1000000):
  aA Tryz.prog 355 [.c (.p (.sl 5 (aU t))),.c (.clo 305 [.ptr 0 0,.ptr 1 0])] [.box [.p (.sl 5 (aU t)),.p (.sl 5 (aU w))],.box [.p (.s p)]]
   fun r h=>(∃ i:Int,r=.c (.p (.i .i64 i))∧decide (0≤i)=FO t w p)∧h=[.box [.p (.sl 5 (aU t)),.p (.sl 5 (aU w))],.box [.p (.s p)]]:=by
 refine ent aB aK Tryz.func355 rfl rfl fun X0 hX=>?_;simp only [Tryz.f355,go_sem]
 repeat' (first|exact ⟨⟩|refine sp ?_)
 refine aY aB aK (α:=Nat) (fun k=>⟨19,[(0,.c (.p (.sl 5 (aU t)))),(1,.c (.clo 305 [.ptr 0 0,.ptr 1 0])),(7,.c (.p (.i .i64 t.length))),(8,.c (.p (.i .i64 k)))],[.box [.p (.sl 5 (aU t)),.p (.sl 5 (aU w))],.box [.p (.s p)]]⟩)
  (fun k=>k≤t.length∧(t.drop k).any (fun y=>aP p y.p && (aQ w y.p).isSome)=FO t w p) (fun k=>t.length-k) 0 ⟨Nat.zero_le _,rfl⟩ (.inl (aI (by rw [hX];rfl) rfl rfl (by simp [aH,aL,aD,aJ,aF,cH]))) ?_
 rintro k ⟨hk,hs⟩;by_cases hlt:k<t.length
 ·have hx:t[k]? = some t[k]:=List.getElem?_eq_getElem hlt;have hg:=cQ hx;have hd:=drop_at hx;have h1:decide ((k:Int)<(t.length:Int))=true:=decide_eq_true (by omega);have hli:(k:Int)<(t.length:Int):=by omega
  have hk0:(0:Int)≤k:=by omega
  have w1:IntKind.i64.wrap ((k:Int)+1)=k+1:=wrap_i64 (by omega) (by omega);generalize t[k]=x at hx hg hd;rw [hd,List.any_cons] at hs;have hc:=zJI (t:=t) (w:=w) (q:=x.p) (p:=p) (k:=x.n.k) (m:=x.n.m) (tt:=x.n.t) (d:=x.n.d) hw hp;cases hb:(aP p x.p && (aQ w x.p).isSome)
  ·rw [hb,Bool.false_or] at hs;rw [hb] at hc;have hP:=PLift.up hs;clear hs hx hd hb
   repeat' (first|exact ⟨⟩|refine sp ?_)
   refine aA.mono hc ?_;rintro _ _ ⟨rfl,rfl⟩
   repeat' (first|exact ⟨⟩|refine sp ?_)
   exact fD (k+1) ⟨by omega,hP.down⟩ (by omega) (aI rfl rfl rfl (by simp [aH,aL,aD,aJ,aF,cH]))
  ·rw [hb,Bool.true_or] at hs;rw [hb] at hc;have hP:=PLift.up hs;clear hs hx hd hb
   repeat' (first|exact ⟨⟩|refine sp ?_)
   refine aA.mono hc ?_;rintro _ _ ⟨rfl,rfl⟩
   repeat' (simp only [*,go_sem,Nat.reduceLT,Nat.reduceEqDiff,↓reduceIte,Int.reduceNeg,bN,aF])
   exact ⟨k,rfl,by rw [← hP.down];exact decide_eq_true (by omega)⟩
 ·have h1:decide ((k:Int)<(t.length:Int))=false:=decide_eq_false (by omega);rw [List.drop_of_length_le (by omega)] at hs;have hP:=PLift.up hs;clear hs
  repeat' (simp only [*,go_sem,Nat.reduceLT,Nat.reduceEqDiff,↓reduceIte,Nat.reduceAdd,Int.reduceNeg,bN,aF])
  exact ⟨-1,rfl,by rw [← hP.down];rfl⟩
theorem zJJ {t w:List It} {p:List UInt8} (hw:OkT w) (ht:t.length≤1000000) (hp:p.length≤1000000):
  aA Tryz.prog 304 [.c (.p (.sl 5 (aU t))),.c (.clo 305 [.ptr 0 0,.ptr 1 0])] [.box [.p (.sl 5 (aU t)),.p (.sl 5 (aU w))],.box [.p (.s p)]]
   fun r h=>r=.c (.p (.b (FO t w p)))∧h=[.box [.p (.sl 5 (aU t)),.p (.sl 5 (aU w))],.box [.p (.s p)]]:=by
 refine ent aB aK Tryz.func304 rfl rfl fun X0 hX=>?_;simp only [Tryz.f304,go_sem]
 repeat' (first|exact ⟨⟩|refine sp ?_)
 refine aA.mono (zGQ hw ht hp) ?_;rintro _ _ ⟨⟨i,rfl,hi⟩,rfl⟩;have hi2:decide (i≥0)=FO t w p:=hi
 repeat' (simp only [*,go_sem,Nat.reduceLT,↓reduceIte,bN,aF])
theorem zDl {t w:List It} {p:List UInt8} (hw:OkT w) (ht:t.length≤1000000) (hp:p.length≤1000000):
  aA Tryz.prog 250 [.agg [.p (.sl 5 (aU t)),.p (.sl 5 (aU w))],.c (.p (.s p))] [] fun r h=>r=.c (.p (.b (FO t w p)))∧h=[]:=by
 refine ent aB aK Tryz.func250 rfl rfl fun X0 hX=>?_;simp only [Tryz.f250,go_sem]
 repeat' (first|exact ⟨⟩|refine sp ?_)
 refine aA.mono (zJJ hw ht hp) ?_;rintro _ _ ⟨rfl,rfl⟩
 repeat' (first|exact ⟨⟩|refine sp ?_)
theorem WO {t w:List It} {p:List UInt8} (ht:OkT t) (hw:OkT w) (hp:p.length≤1000000):
  aA Tryz.prog 190 [.agg [.p (.sl 5 (aU t)),.p (.sl 5 (aU w))],.c (.p (.s p))] [] fun r h=>r=.c (.p (.b (nT t w p)))∧h=[]:=by
 have htl:=ht.len;have hwl:=hw.len;have h1:=eN (t:=t) (p:=p) (by omega) ht.srt;have h2:=eN (t:=w) (p:=p) (by omega) hw.srt;have h3:=FZ (p:=p) ht;have h4:=zDl (t:=t) (w:=w) (p:=p) hw (by omega) hp;unfold nT;generalize aV t p=a at *;generalize aV w p=b at *;generalize FO t w p=c at *;generalize hnn:fR t p=nn at *;have hge:decide ((nn.length:Int)≥2) = !decide ((nn.length:Int)<2):=by
  by_cases h:(nn.length:Int)<2
  ·rw [decide_eq_true h,decide_eq_false (by omega)];rfl
  ·rw [decide_eq_false h,decide_eq_true (by omega)];rfl
 have hle:decide (2≤(nn.length:Int)) = !decide ((nn.length:Int)<2):=hge;generalize decide ((nn.length:Int)<2)=d at *;refine ent aB aK Tryz.func190 rfl rfl fun X0 hX=>?_;simp only [Tryz.f190,go_sem];cases a <;> cases b <;> cases c <;> cases d
 all_goals repeat' (first|exact ⟨⟩|refine sq ?_|refine uF (h1) ?_|refine uF (h2) ?_|refine uN (h3) ?_|refine uF (h4) ?_)
 all_goals rfl
theorem zGF {t w:List It} {p:List UInt8} (ht:OkT t) (hw:OkT w) (hp:p.length≤1000000):
  aA Tryz.prog 191 [.agg [.p (.sl 5 (aU t)),.p (.sl 5 (aU w))],.c (.p (.s p))] [] fun r h=>r=.c (.p (.b (HM w (iX t w) p)))∧h=[]:=by
 have hdl:=zBG p;have hwl:=hw.len;refine ent aB aK Tryz.func191 rfl rfl fun X0 hX=>?_;simp only [Tryz.f191,go_sem]
 repeat' (first|exact ⟨⟩|refine sp ?_|refine uF (dQ (p:=p) (by omega)) ?_)
 refine aY aB aK (α:=Nat × List UInt8) (fun x=>⟨35,[(2,.c (.ptr 0 0)),(5,.c (.p (.s x.2)))],[.box [.p (.sl 5 (aU t)),.p (.sl 5 (aU w))]]⟩)
  (fun x=>x.2.length≤x.1∧x.1≤p.length∧zFc w (iX t w) x.1 x.2=HM w (iX t w) p) (fun x=>x.1) (p.length,aR p) ⟨hdl,Nat.le_refl _,rfl⟩ (.inl (aI (by rw [hX];rfl) rfl rfl (by simp [aH,aL,aD,aJ,aF,]))) ?_
 rintro ⟨n,q⟩ ⟨hq,hn,hc⟩;simp only at hq hn hc;cases hq0:(q == [])
 ·have hq1:(q != [])=true:=by rw [bne,hq0];rfl
  have hqn:q≠[]:=by simpa using hq0
  obtain ⟨n,rfl⟩:∃ m,n=m+1:=⟨n-1,by have:=List.length_pos_iff.2 hqn;omega⟩
  have hdq:(aR q).length≤n:=by
   by_cases h:aR q=[]
   ·rw [h];exact Nat.zero_le _
   ·have:=qY h;omega
  rw [xD hqn,← zLs hw hqn] at hc;have hg:=jL (t:=w) (p:=q) (by omega) hw.srt hw.ne (fun x hx=>Nat.le_trans (hw.dlen x hx) (by decide));have hd:=eN (t:=w) (p:=q) (by omega) hw.srt;have ho:=WO (p:=q) ht hw (by omega);unfold zMV at hc;generalize (aQ w q).getD nd0=x at hg;generalize (aQ w q).isSome=is at hg hc;generalize aV w q=dir at hd hc;generalize nT t w q=op at ho hc;obtain ⟨nk,nm,nt,nd⟩:=x;unfold Nd.cv at hg;simp only at hg;cases is <;> cases dir <;> cases op
  all_goals simp only [Bool.not_true,Bool.not_false,Bool.or_true,Bool.or_false,if_true,Bool.false_eq_true,if_false] at hc
  case true.true.false =>
   have hC:=PLift.up hc;clear hc
   repeat' (first|exact ⟨⟩|refine sq ?_|refine uN (hg) ?_|refine uF (hd) ?_|refine uF (ho) ?_|refine uF (dQ (p:=q) (by omega)) ?_)
   exact fD (n,aR q) ⟨hdq,by simp only;omega,hC.down⟩ (by simp only;omega) (aI rfl rfl rfl (by simp [aH,aL,aD,aJ,aF,]))
  all_goals rw [← hc]
  all_goals clear hc
  all_goals repeat' (first|exact ⟨⟩|refine sq ?_|refine uN (hg) ?_|refine uF (hd) ?_|refine uF (ho) ?_)
 ·have hq1:(q != [])=false:=by rw [bne,hq0];rfl
  have hqn:q=[]:=eq_of_beq hq0;subst hqn;rw [TZ] at hc;rw [← hc];clear hc
  repeat' (first|exact ⟨⟩|refine sp ?_)
end Go.Proofs.YtlbfnbldeefgmaaGreatDoor
end
section
namespace Go.Dm
open Go
section
variable {P:Program} {T:Tab} {X0:Ctx} {Q:Exit→DS→Prop}
theorem zKm {c:Code} {s:DS} (id:Nat) {k:Nat} {es:List (List PV)} (es':List (List PV)) (hb:s.h[id]? = some (.arr k es false)) (hw:jO es es')
  (h:SWP P X0 c ⟨s.n,s.t,s.h.set id (.arr k es' false)⟩ Q):SWP P X0 c s Q:=by
 intro gd X a hh hi hs ht;have h0:X.h[id]? = some (.arr k es false):=by rw [hh];exact hb
 have hlen:=hw.len;have hbl:=hi.blk id _ h0;have rf:=Step.refl hi;have st:Step X ⟨X.w,X.S,X.G,X.h.set id (.arr k es' false)⟩:=by
  refine ⟨rf.size,rf.os,rf.tape,rf.output,rf.kept,by simp,fun i db' hl hdb hlv=>?_,rf.frame,fun i db g' hdb hl hf hg'=>?_,rf.upper⟩
  ·rcases cA hdb with ⟨rfl,rfl,_⟩|⟨hne,h'⟩
   ·exact ⟨_,h0,⟨rfl,by omega⟩,rfl,fun g' hg'=>(hi.blk _ _ h0).same rfl g' hg'⟩
   ·exact ⟨db',h',cD.refl hlv,rfl,fun g' hg'=>(hi.blk i db' h').same hlv g' hg'⟩
  ·rcases cA hdb with ⟨rfl,rfl,_⟩|⟨hne,h'⟩
   ·exact .inr ⟨_,_,g',h0,rfl,rfl,hg',rfl⟩
   ·exact .inr ⟨i,db,g',h',hl,hf,hg',rfl⟩
 have hi':HInv ⟨X.w,X.S,X.G,X.h.set id (.arr k es' false)⟩:=by
  refine ⟨hi.slt,fun i db hdb=>?_,fun i db g' hdb hl hg'=>?_,fun i db i' db' g1 g2 hdb hl hf hdb' hl' hg1 hg2 he=>?_⟩
  ·rcases cA hdb with ⟨rfl,rfl,_⟩|⟨hne,h'⟩
   ·rcases hbl with ⟨h1,h2⟩|⟨g,arr,el,fz,h1,h2,h3,h4,h5⟩
    ·exact .inl ⟨h1,List.eq_nil_of_length_eq_zero (by rw [hlen,h2];rfl)⟩
    ·exact .inr ⟨g,arr,el,fz,h1,h2,by rw [hlen];exact h3,h4,hw.relL h5⟩
   ·exact (hi.blk i db h').move st rfl fun _ _=>rfl
  ·rcases cA hdb with ⟨rfl,rfl,_⟩|⟨hne,h'⟩
   ·have:=hi.own _ (.arr k es false) g' h0 rfl hg';exact this
   ·exact hi.own i db g' h' hl hg'
  ·rcases cA hdb with ⟨rfl,rfl,_⟩|⟨hne,h1'⟩ <;> rcases cA hdb' with ⟨rfl,rfl,_⟩|⟨hne',h2'⟩
   ·rfl
   ·exact hi.inj i _ i' db' g1 g2 h0 rfl rfl h2' hl' hg1 hg2 he
   ·exact hi.inj i db i' _ g1 g2 h1' hl hf h0 rfl hg1 hg2 he
   ·exact hi.inj i db i' db' g1 g2 h1' hl hf h2' hl' hg1 hg2 he
 exact h gd ⟨X.w,X.S,X.G,X.h.set id (.arr k es' false)⟩ a (by simp only [hh]) hi' (hs.trans hi st) ⟨ht.size,fun j=>(ht.rel j).step st,ht.defs⟩
theorem PC:∀ e:List PV,zH1 e e
 | []=>True.intro
 | _::e=>⟨.inl rfl,PC e⟩
theorem AL:∀ e:List (List PV),jO e e
 | []=>True.intro
 | e::es=>⟨PC e,AL es⟩
theorem DU:∀ {a b c d:List (List PV)},jO a b→jO c d→jO (a++c) (b++d)
 | [],[],_,_,_,h=>h
 | _::_,_::_,_,_,h1,h2=>⟨h1.1,DU h1.2 h2⟩
 | [],_::_,_,_,h,_=>h.elim
 | _::_,[],_,_,h,_=>h.elim
end
end Go.Dm
end
section
namespace Go.Proofs.YtlbfnbldeefgmaaGreatDoor
open Go Go.Dm Go.Proofs
set_option maxRecDepth 100000
set_option maxHeartbeats 8000000
theorem zJN {p q:List UInt8} {k k' nk nk' nm nm':Int} {o o':Bool} {t t':Nat} {d d':List UInt8}:
  aA Tryz.prog 193 [.agg [.p (.s p),.p (.i .i64 k),.p (.b o),.p (.i .i64 nk),.p (.i .i64 nm),.p (.f t),.p (.sl 1 (bO d))],.agg [.p (.s q),.p (.i .i64 k'),.p (.b o'),.p (.i .i64 nk'),.p (.i .i64 nm'),.p (.f t'),.p (.sl 1 (bO d'))]] [] fun r h=>r=.c (.p (.i .i64 (HL p q)))∧h=[]:=by
 refine ent aB aK Tryz.func193 rfl rfl fun X0 hX=>?_;simp only [Tryz.f193,go_sem]
 repeat' (first|simp only [*,go_sem,Nat.reduceLT,Nat.reduceEqDiff,↓reduceIte,]|((with_reducible refine dM (jX) ?_ ?_ ?_);exact rfl;exact rfl))
theorem zKb {h:aC} {id:Nat} {l:List En} (hu:∀ x∈l,∀ y∈l,x.p=y.p→x=y) (hid:h[id]? = some (.arr 7 (fJ l) false)) (hsz:l.length<4611686018427387904):
  aA Tryz.prog 192 [.c (.own id 0 l.length),.c (.clo 193 [])] h fun d h'=>d=.tup []∧h'=h.set id (.arr 7 (fJ (zX l)) false):=by
 have:=mX (P:=Tryz.prog) (f:=192) (g:=193) 7 (by decide) cfI TC
  (enters Tryz.func192 rfl rfl) (enters_of Tryz.func193 (by kernel_rfl) rfl)
  (fun enc hk h1 c hO blk off cap d w hcmp hH hblk hsz=>Tryz.slices_SortFunc_f192 7 Tryz.isAgg75 Tryz.sizeOf75 enc hk h1 c hO 193 #[] blk off cap d w (enters_of Tryz.func193 (by kernel_rfl) rfl) hcmp hH hblk hsz)
  (fun p cap fv w=>Tryz.slices_SortFunc_none_f192 (α:=Nat) p cap fv w)
  (h:=h) (i0:=id) (es:=fJ l) (fun x hx y hy=>by
   obtain ⟨a,_,rfl⟩:=List.mem_map.1 hx;obtain ⟨b,_,rfl⟩:=List.mem_map.1 hy;exact zJN) (zBl hu) hid (by rw [EU];exact hsz)
 rw [zB8,EU] at this;exact this
theorem zKc {h:aC} {id n:Nat} {l:List En} {K:DV→aC→Prop} (hu:∀ x∈l,∀ y∈l,x.p=y.p→x=y) (hsz:l.length<4611686018427387904) (hn:n=l.length) (hid:h[id]? = some (.arr 7 (fJ l) false)) (hk:K (.tup []) (h.set id (.arr 7 (fJ (zX l)) false))):
  aA Tryz.prog 192 [.c (.own id 0 n),.c (.clo 193 [])] h K:=by
 subst hn;exact aA.mono (zKb hu hid hsz) (by rintro _ _ ⟨rfl,rfl⟩;exact hk)
def kV (t w:List It) (k:Nat):List En:=((t.take k).filter fun y=>!(aQ w y.p).isSome && !HM w (iX t w) y.p).map fun y=>kI y.p
theorem QV {t w:List It} {k:Nat} {x:It} (h:t[k]? = some x):kV t w (k+1)=kV t w k++(if !(aQ w x.p).isSome && !HM w (iX t w) x.p then [kI x.p] else []):=by
 unfold kV;rw [eI h,List.map_append];split <;> rfl
theorem ZC (t w:List It) (k:Nat):(kV t w k).length≤t.length:=by
 unfold kV;rw [List.length_map];have:=List.length_filter_le (fun y:It=>!(aQ w y.p).isSome && !HM w (iX t w) y.p) (t.take k);rw [List.length_take] at this;omega
theorem zJO {t w:List It} {k:Nat} (hk:t.length≤k):lS t w=gX t (iX t w) w++kV t w k:=by
 unfold kV;rw [List.take_of_length_le hk];rfl
theorem zGB (out:List En) (p:List UInt8):jO (fJ out++[[.s p,.i .i64 2,.b false,.i .i64 0,.i .i64 0,.f 0,.nil]]) (fJ (out++[kI p])):=by
 rw [← VI];exact DU (AL _) ⟨⟨.inl rfl,.inl rfl,.inl rfl,.inl rfl,.inl rfl,.inl rfl,.inr ⟨rfl,1,rfl⟩,True.intro⟩,True.intro⟩
theorem RG {t w:List It} (ht:OkT t) (hw:OkT w):
  aA Tryz.prog 108 [.c (.p (.sl 5 (aU t))),.c (.p (.sl 5 (aU w)))] [] fun r h=>r=.c (.p (.sl 7 (fJ (fX t w))))∧h=[]:=by
 have htl:=ht.len;have hwl:=hw.len;have hsrt:=zDu ht hw;have hinj:=LM ht hw;have hop:=fun (p:List UInt8) (hp:p.length≤1000000)=>WO (p:=p) ht hw hp;have hhi:=fun (p:List UInt8) (hp:p.length≤1000000)=>zGF (p:=p) ht hw hp;have hgt:=fun (p:List UInt8)=>jL (t:=t) (p:=p) (by omega) ht.srt ht.ne (fun x hx=>Nat.le_trans (ht.dlen x hx) (by decide));have hgw:=fun (p:List UInt8)=>jL (t:=w) (p:=p) (by omega) hw.srt hw.ne (fun x hx=>Nat.le_trans (hw.dlen x hx) (by decide));have hiB:=fun (x:It) (hx:x∈w)=>CH (t:=t) hw hx;refine zMP aB Tryz.func108 rfl rfl fun X0 hX=>?_;simp only [Tryz.f108,go_sem];refine cL aB aK ?_
 repeat' (simp only [*,go_sem,Nat.reduceLT,])
 refine cL aB aK ?_
 repeat' (simp only [*,go_sem,Nat.reduceLT,Nat.reduceLeDiff,Nat.reduceEqDiff,↓reduceIte,Nat.reduceAdd,])
 refine cL aB aK ?_
 repeat' (simp only [*,go_sem,Nat.reduceLT,])
 refine mB aB aK 6 7 rfl ?_;refine HF aB aK (α:=Unit) (fun _=>⟨97,[(0,.c (.p (.sl 5 (aU t)))),(1,.c (.p (.sl 5 (aU w)))),(5,.c (.ptr 0 0)),(6,.c (.own 1 0 (gX t (iX t w) w).length))],[.box [.p (.sl 5 (aU t)),.p (.sl 5 (aU w))],.arr 7 (fJ (gX t (iX t w) w)) false]⟩) (fun _=>True) ?_ ?_
 ·repeat' (simp only [*,go_sem,Nat.reduceLT,Nat.reduceEqDiff,↓reduceIte,])
  refine rL (α:=Nat × List En) (fun x=>⟨97,[(0,.c (.p (.sl 5 (aU t)))),(1,.c (.p (.sl 5 (aU w)))),(5,.c (.ptr 0 0)),(19,.c (.p (.sl 5 (aU w)))),(20,.c (.p (.i .i64 w.length))),(21,.c (.p (.i .i64 x.1))),(6,.c (.own 1 0 x.2.length))],[.box [.p (.sl 5 (aU t)),.p (.sl 5 (aU w))],.arr 7 (fJ x.2) false]⟩)
   (fun x=>x.1≤w.length∧gX t (iX t w) (w.take x.1)=x.2) (fun x=>w.length-x.1) (0,[]) ⟨Nat.zero_le _,rfl⟩ (.inl (aI (by rw [hX];rfl) rfl rfl (by simp [aH,aL,aD,aJ,aF,]))) ?_
  rintro ⟨k,out⟩ ⟨hk,hout⟩;simp only at hk hout;have hol:out.length≤120:=by
   have:=rU t (iX t w) (w.take k);rw [hout,List.length_take] at this;omega
  by_cases hlt:k<w.length
  ·have hx:w[k]? = some w[k]:=List.getElem?_eq_getElem hlt;have hg:=cQ hx;have hib:=hiB _ (List.getElem_mem hlt);have hxl:=hw.plen _ (List.getElem_mem hlt);have hxd:=hw.dlen _ (List.getElem_mem hlt);have hxt:=hw.tlen _ (List.getElem_mem hlt);have hnx:=zAe (t:=t) (os:=iX t w) hx;rw [hout] at hnx;have h1:decide ((k:Int)<(w.length:Int))=true:=decide_eq_true (by omega);have hli:(k:Int)<(w.length:Int):=by omega
   have hk0:(0:Int)≤k:=by omega
   have w1:IntKind.i64.wrap ((k:Int)+1)=k+1:=wrap_i64 (by omega) (by omega);have hgx:=hgt w[k].p;have hox:=hop w[k].p (by omega);have hot:=ht.gett w[k].p;generalize w[k]=x at hx hg hib hxl hxd hxt hnx hgx hox hot;clear hop hhi hgt hgw hiB hinj hsrt hout hx;unfold RY at hnx;generalize isB (iX t w) x.p=b at hib hnx;generalize nT t w x.p=om at hib hox;have hnd:=rP (x:=(aQ t x.p).getD nd0) (y:=x.n) hot hxt;generalize (aQ t x.p).isSome=is at hgx hnx;generalize (aQ t x.p).getD nd0=n at hgx hnx hnd;obtain ⟨xp,⟨xk,xm,xt,xd⟩⟩:=x;obtain ⟨nk,nm,nt,nd⟩:=n;unfold Nd.cv at hgx;simp only at *;have hns:=rO (k:=nk) (m:=nm) (t:=nt) (d:=nd) (k':=xk) (m':=xm) (t':=xt) (d':=xd);rw [hnd] at hns;generalize gE ⟨nk,nm,nt,nd⟩ ⟨xk,xm,xt,xd⟩=sm at hns hnx;have hcp:=xC (k:=xk) (m:=xm) (t:=xt) (d:=xd) (by omega);have hb1:(out.length+1)*80≤140737488355328:=by omega
   have hb2:out.length+1≤9223372036854775807:=by omega
   refine cL aB aK ?_
   repeat' (simp only [*,go_sem,Nat.reduceLT,Nat.reduceEqDiff,↓reduceIte,])
   refine cL aB aK ?_
   repeat' (simp only [*,go_sem,↓reduceIte,])
   refine sJ ?_;refine cL aB aK ?_
   repeat' (simp only [*,go_sem,Nat.reduceLT,Nat.reduceLeDiff,Nat.reduceEqDiff,↓reduceIte,Nat.reduceAdd,])
   refine HF aB aK (α:=Unit) (fun _=>⟨97,[(0,.c (.p (.sl 5 (aU t)))),(1,.c (.p (.sl 5 (aU w)))),(5,.c (.ptr 0 0)),(19,.c (.p (.sl 5 (aU w)))),(20,.c (.p (.i .i64 w.length))),(21,.c (.p (.i .i64 k))),(6,.c (.own 1 0 out.length)),(8,.c (.ptr 2 0)),(9,.c (.p (.b b)))],[.box [.p (.sl 5 (aU t)),.p (.sl 5 (aU w))],.arr 7 (fJ out) false,.box [.p (.s xp),.p (.i .i64 xk),.p (.i .i64 xm),.p (.f xt),.p (.sl 1 (bO xd))]]⟩) (fun _=>True) ?_ ?_
   ·clear hnx hgx hns hcp;cases hk2:(xk == 2)
    ·rw [hk2,Bool.false_and] at hib;subst hib
     repeat' (simp only [*,go_sem,Nat.reduceLT,Nat.reduceEqDiff,↓reduceIte,])
     exact zMA () trivial (aI (by first|rfl|(rw [hX];rfl)) rfl rfl (by simp [aH,aL,aD,aJ,aF,]))
    ·rw [hk2,Bool.true_and] at hib;subst hib
     repeat' (first|simp only [*,go_sem,Nat.reduceLT,Nat.reduceLeDiff,Nat.reduceEqDiff,↓reduceIte,Nat.reduceAdd,]|((with_reducible refine dM (hox) ?_ ?_ ?_);exact rfl;exact rfl))
     exact zMA () trivial (aI (by first|rfl|(rw [hX];rfl)) rfl rfl (by simp [aH,aL,aD,aJ,aF,]))
   rintro - -;clear hox hib;by_cases hp:b=true∨is=false∨sm=false
   ·have hnw:(if b=true then [(⟨xp,1,true,⟨xk,xm,xt,xd⟩⟩:En)] else if (!is || !sm)=true then [⟨xp,1,false,⟨xk,xm,xt,xd⟩⟩] else [])=[⟨xp,1,b,⟨xk,xm,xt,xd⟩⟩]:=by
     cases b
     ·rcases hp with hp|rfl|rfl
      ·cases hp
      ·rfl
      ·simp
     ·rfl
    rw [hnw] at hnx;have hJ:k+1≤w.length∧gX t (iX t w) (w.take (k+1))=out++[⟨xp,1,b,⟨xk,xm,xt,xd⟩⟩]:=⟨by omega,hnx⟩
    have hP:=PLift.up hJ;clear hJ hnx hnw;refine iE aB aK ?_;cases b <;> cases is <;> cases sm
    case false.true.true=>exact absurd hp (by decide)
    all_goals clear hp
    all_goals repeat' (first|simp only [*,go_sem,Nat.reduceLT,Nat.reduceLeDiff,Nat.reduceEqDiff,↓reduceIte,Nat.reduceAdd,Bool.not_true,Bool.not_false]|((with_reducible refine kM (hgx) ?_ ?_ ?_);exact rfl;exact fun _=>rfl)|((with_reducible refine dM (hns) ?_ ?_ ?_);exact rfl;exact rfl)|((refine aN (id:=9) aB aK [8,9] [1,2,3,4,5,6,7,8,0,9,10] (by decide +kernel) ?_);(repeat' (first|(refine aT ?_)|((refine cV ?_ ?_ rfl rfl rfl ?_ ?_);(rotate_left 2);(focus ((repeat' (first|simp only [*,go_sem,Nat.reduceLT,Nat.reduceLeDiff,Nat.reduceEqDiff,↓reduceIte,Nat.reduceAdd,Nat.reduceMul,Nat.reduceBEq,]|((with_reducible refine And.intro ?_ ?_);decide)));((refine And.intro ?_ ?_ <;> exact rfl))));(simp only [aG]))|((refine cU ?_ rfl rfl rfl ?_ ?_);(rotate_left 1);(focus ((repeat' (first|exact bG|refine aZ ?_ ?_));(all_goals ((repeat' (first|simp only [*,go_sem,Nat.reduceLT,Nat.reduceLeDiff,Nat.reduceEqDiff,↓reduceIte,Nat.reduceAdd,]|((with_reducible refine kM (hcp) ?_ ?_ ?_);exact rfl;exact fun _=>rfl)));(try (exact rfl))))));(simp only [aG]))))))
    all_goals refine iE aB aK ?_
    all_goals repeat' (simp only [*,go_sem,Nat.reduceLT,Nat.reduceEqDiff,↓reduceIte,])
    all_goals exact gV (k+1,out++[⟨xp,1,_,⟨xk,xm,xt,xd⟩⟩]) 1 5 hP.down (by simp only;omega) (by first|rfl|(rw [hX];rfl)) rfl (aI (by first|rfl|(rw [hX];rfl)) rfl rfl (by simp [aH,aL,aD,aJ,aF,vB,tY,vA]))
   ·have hb:b=false:=by cases b;rfl;exact absurd (.inl rfl) hp
    have hi:is=true:=by cases is;exact absurd (.inr (.inl rfl)) hp;rfl
    have hs:sm=true:=by cases sm;exact absurd (.inr (.inr rfl)) hp;rfl
    subst hb;subst hi;subst hs;have hJ:k+1≤w.length∧gX t (iX t w) (w.take (k+1))=out:=⟨by omega,by rw [hnx];simp⟩
    have hP:=PLift.up hJ;clear hJ hnx hp;refine iE aB aK ?_
    repeat' (first|simp only [*,go_sem,Nat.reduceLT,Nat.reduceLeDiff,Nat.reduceEqDiff,↓reduceIte,Nat.reduceAdd,Bool.not_true]|((with_reducible refine kM (hgx) ?_ ?_ ?_);exact rfl;exact fun _=>rfl)|((with_reducible refine dM (hns) ?_ ?_ ?_);exact rfl;exact rfl))
    refine iE aB aK ?_
    repeat' (simp only [*,go_sem,Nat.reduceLT,Nat.reduceEqDiff,↓reduceIte,])
    exact fD (k+1,out) hP.down (by simp only;omega) (aI (by first|rfl|(rw [hX];rfl)) rfl rfl (by simp [aH,aL,aD,aJ,aF,]))
  ·have h1:decide ((k:Int)<(w.length:Int))=false:=decide_eq_false (by omega);rw [List.take_of_length_le (by omega)] at hout;clear hop hhi hgt hgw hiB hinj hsrt;have hP:=PLift.up hout;clear hout;refine cL aB aK ?_
   repeat' (simp only [*,go_sem,Nat.reduceLT,Nat.reduceEqDiff,↓reduceIte,])
   refine cL aB aK ?_
   repeat' (simp only [*,go_sem,↓reduceIte,])
   exact zMA () trivial (aI (by rw [hX];rfl) (by rw [← hP.down];rfl) rfl (by simp [aH,aL,aD,aJ,aF,hP.down]))
 rintro - -;generalize hpu:gX t (iX t w) w=pu;have hpl:pu.length≤120:=by
  have:=rU t (iX t w) w;rw [hpu] at this;omega
 refine HF aB aK (α:=Unit) (fun _=>⟨97,[(6,.c (.own 1 0 (lS t w).length))],[.box [.p (.sl 5 (aU t)),.p (.sl 5 (aU w))],.arr 7 (fJ (lS t w)) false]⟩) (fun _=>True) ?_ ?_
 ·have hpu2:=PLift.up hpu;clear hpu
  repeat' (simp only [*,go_sem,Nat.reduceLT,↓reduceIte,])
  refine rL (α:=Nat × List En) (fun x=>⟨97,[(0,.c (.p (.sl 5 (aU t)))),(1,.c (.p (.sl 5 (aU w)))),(5,.c (.ptr 0 0)),(65,.c (.p (.sl 5 (aU t)))),(66,.c (.p (.i .i64 t.length))),(67,.c (.p (.i .i64 x.1))),(6,.c (.own 1 0 x.2.length))],[.box [.p (.sl 5 (aU t)),.p (.sl 5 (aU w))],.arr 7 (fJ x.2) false]⟩)
   (fun x=>x.1≤t.length∧pu++kV t w x.1=x.2) (fun x=>t.length-x.1) (0,pu) ⟨Nat.zero_le _,by simp [kV]⟩ (.inl (aI (by rw [hX];rfl) rfl rfl (by simp [aH,aL,aD,aJ,aF,]))) ?_
  rintro ⟨k,out⟩ ⟨hk,hout⟩;simp only at hk hout;have hol:out.length≤240:=by
   rw [← hout,List.length_append];have:=ZC t w k;omega
  by_cases hlt:k<t.length
  ·have hx:t[k]? = some t[k]:=List.getElem?_eq_getElem hlt;have hg:=cQ hx;have hxl:=ht.plen _ (List.getElem_mem hlt);have hnx:=QV (w:=w) hx;have h1:decide ((k:Int)<(t.length:Int))=true:=decide_eq_true (by omega);have hli:(k:Int)<(t.length:Int):=by omega
   have hk0:(0:Int)≤k:=by omega
   have w1:IntKind.i64.wrap ((k:Int)+1)=k+1:=wrap_i64 (by omega) (by omega);have hgx:=hgw t[k].p;have hhx:=hhi t[k].p (by omega);generalize t[k]=x at hx hg hxl hnx hgx hhx;have hnx2:pu++kV t w (k+1)=out++(if !(aQ w x.p).isSome && !HM w (iX t w) x.p then [kI x.p] else []):=by
    rw [hnx,← hout,List.append_assoc]
   clear hop hhi hgt hgw hiB hinj hsrt hout hx hnx;generalize (aQ w x.p).isSome=is at hgx hnx2;generalize HM w (iX t w) x.p=hid at hhx hnx2;generalize (aQ w x.p).getD nd0=n at hgx;obtain ⟨xp,⟨xk,xm,xt,xd⟩⟩:=x;obtain ⟨nk,nm,nt,nd⟩:=n;unfold Nd.cv at hgx;simp only at *;have hb1:(out.length+1)*80≤140737488355328:=by omega
   have hb2:out.length+1≤9223372036854775807:=by omega
   refine cL aB aK ?_
   repeat' (simp only [*,go_sem,Nat.reduceLT,Nat.reduceEqDiff,↓reduceIte,])
   refine cL aB aK ?_
   repeat' (simp only [*,go_sem,↓reduceIte,])
   refine sJ ?_;refine cL aB aK ?_
   repeat' (simp only [*,go_sem,Nat.reduceLT,Nat.reduceLeDiff,Nat.reduceEqDiff,↓reduceIte,Nat.reduceAdd,])
   cases is
   ·cases hid
    ·have hJ:k+1≤t.length∧pu++kV t w (k+1)=out++[kI xp]:=⟨by omega,by rw [hnx2];rfl⟩
     have hP:=PLift.up hJ;clear hJ hnx2;refine iE aB aK ?_
     repeat' (first|simp only [*,go_sem,Nat.reduceLT,Nat.reduceLeDiff,Nat.reduceEqDiff,↓reduceIte,Nat.reduceAdd,Nat.reduceMul,Nat.reduceBEq,Bool.not_false]|((with_reducible refine kM (hgx) ?_ ?_ ?_);exact rfl;exact fun _=>rfl)|((with_reducible refine dM (hhx) ?_ ?_ ?_);exact rfl;exact rfl)|((with_reducible refine And.intro ?_ ?_);decide))
     refine zKm 5 (fJ (out++[kI xp])) rfl (zGB out xp) ?_;refine iE aB aK ?_
     repeat' (simp only [*,go_sem,Nat.reduceLT,Nat.reduceEqDiff,↓reduceIte,List.set_cons_succ,List.set_cons_zero])
     exact gV (k+1,out++[kI xp]) 1 5 hP.down (by simp only;omega) (by first|rfl|(rw [hX];rfl)) rfl (aI (by first|rfl|(rw [hX];rfl)) rfl rfl (by simp [aH,aL,aD,aJ,aF,vB,tY,vA]))
    ·have hJ:k+1≤t.length∧pu++kV t w (k+1)=out:=⟨by omega,by rw [hnx2];simp⟩
     have hP:=PLift.up hJ;clear hJ hnx2;refine iE aB aK ?_
     repeat' (first|simp only [*,go_sem,Nat.reduceLT,Nat.reduceLeDiff,Nat.reduceEqDiff,↓reduceIte,Nat.reduceAdd,Bool.not_true,Bool.not_false]|((with_reducible refine kM (hgx) ?_ ?_ ?_);exact rfl;exact fun _=>rfl)|((with_reducible refine dM (hhx) ?_ ?_ ?_);exact rfl;exact rfl))
     refine iE aB aK ?_
     repeat' (simp only [*,go_sem,Nat.reduceLT,Nat.reduceEqDiff,↓reduceIte,])
     exact fD (k+1,out) hP.down (by simp only;omega) (aI (by first|rfl|(rw [hX];rfl)) rfl rfl (by simp [aH,aL,aD,aJ,aF,]))
   ·have hJ:k+1≤t.length∧pu++kV t w (k+1)=out:=⟨by omega,by rw [hnx2];simp⟩
    have hP:=PLift.up hJ;clear hJ hnx2;refine iE aB aK ?_
    repeat' (first|simp only [*,go_sem,Nat.reduceLT,Nat.reduceLeDiff,Nat.reduceEqDiff,↓reduceIte,Nat.reduceAdd,Bool.not_true]|((with_reducible refine kM (hgx) ?_ ?_ ?_);exact rfl;exact fun _=>rfl))
    refine iE aB aK ?_
    repeat' (simp only [*,go_sem,Nat.reduceLT,Nat.reduceEqDiff,↓reduceIte,])
    exact fD (k+1,out) hP.down (by simp only;omega) (aI (by first|rfl|(rw [hX];rfl)) rfl rfl (by simp [aH,aL,aD,aJ,aF,]))
  ·have h1:decide ((k:Int)<(t.length:Int))=false:=decide_eq_false (by omega);have hE:out=lS t w:=by rw [zJO (k:=k) (by omega),hpu2.down];exact hout.symm
   clear hop hhi hgt hgw hiB hinj hsrt;have hP:=PLift.up hE;clear hout hE;refine cL aB aK ?_
   repeat' (simp only [*,go_sem,Nat.reduceLT,Nat.reduceEqDiff,↓reduceIte,])
   refine cL aB aK ?_
   repeat' (simp only [*,go_sem,↓reduceIte,])
   exact zMA () trivial (aI (by rw [hX];rfl) (by rw [hP.down];rfl) rfl (by simp [aH,aL,aD,aJ,aF,hP.down]))
 rintro - -;have hml:(lS t w).length≤1000:=by
  unfold lS VV;rw [List.length_append,List.length_map,hpu];have:=List.length_filter_le (fun y:It=>!(aQ w y.p).isSome && !HM w (iX t w) y.p) t;omega
 have hsl:=zEy (lS t w);have hml2:(fX t w).length=(lS t w).length:=by rw [← hsrt];exact hsl
 refine iE aB aK ?_
 repeat' (first|simp only [*,go_sem,Nat.reduceLT,Nat.reduceEqDiff,↓reduceIte,List.set_cons_succ,List.set_cons_zero]|refine zKc (id:=1) (l:=lS t w) hinj (by omega) rfl (by rfl) ?_)
 all_goals rw [List.take_of_length_le (by omega)]
end Go.Proofs.YtlbfnbldeefgmaaGreatDoor
end
