/- Part 37 of the proof of roomDeep_card, set without needless blanks. No condition. -/
import Derived.Test.YtlbfnbldeefgmaaGreatDoorC35
set_option linter.all false
section
namespace Go.Proofs.YtlbfnbldeefgmaaGreatDoor
open Go Go.Dm Go.Proofs
set_option maxRecDepth 100000
set_option maxHeartbeats 8000000
theorem zGS {t w:List It} {q p:List UInt8} {k m:Int} {tt:Nat} {d:List UInt8} (hw:OkT w) (hp:p.length≤1000000):
  aA Tryz.prog 305 [.agg [.p (.s q),.p (.i .i64 k),.p (.i .i64 m),.p (.f tt),.p (.sl 1 (bW d))],.c (.ptr 0 0),.c (.ptr 1 0)] [.box [.p (.sl 5 (aZ t)),.p (.sl 5 (aZ w))],.box [.p (.s p)]]
   fun r h=>r=.c (.p (.b (aM p q && (aW w q).isSome)))∧h=[.box [.p (.sl 5 (aZ t)),.p (.sl 5 (aZ w))],.box [.p (.s p)]]:=by
 have hwl:=hw.len;have hg:=jY (t:=w) (p:=q) (by omega) hw.srt hw.ne (fun x hx=>Nat.le_trans (hw.dlen x hx) (by decide));generalize (aW w q).getD nd0=n at hg;generalize (aW w q).isSome=is at hg ⊢;obtain ⟨nk,nm,nt,nd⟩:=n;unfold Nd.cv at hg;simp only at hg;refine ent aC aK Tryz.func305 rfl rfl fun X0 hX=>?_;simp only [Tryz.f305,go_sem];cases is
 all_goals repeat' (first|simp only [*,go_sem,Nat.reduceLT,Nat.reduceLeDiff,Nat.reduceEqDiff,↓reduceIte,Nat.reduceAdd,bK,aG]|((with_reducible refine cH (hg) ?_ ?_ ?_);exact rfl;exact fun _=>rfl)|((with_reducible refine aQ (cE (p:=p) (by omega)) ?_ ?_ ?_);exact rfl;exact rfl)|with_reducible refine cL (fun _=>?_) (fun _=>?_))
 all_goals simp_all
theorem zEa {t w:List It} {p:List UInt8} (hw:OkT w) (ht:t.length≤1000000) (hp:p.length≤1000000):
  aA Tryz.prog 355 [.c (.p (.sl 5 (aZ t))),.c (.clo 305 [.ptr 0 0,.ptr 1 0])] [.box [.p (.sl 5 (aZ t)),.p (.sl 5 (aZ w))],.box [.p (.s p)]]
   fun r h=>(∃ i:Int,r=.c (.p (.i .i64 i))∧decide (0≤i)=CA t w p)∧h=[.box [.p (.sl 5 (aZ t)),.p (.sl 5 (aZ w))],.box [.p (.s p)]]:=by
 refine ent aC aK Tryz.func355 rfl rfl fun X0 hX=>?_;simp only [Tryz.f355,go_sem]
 repeat' (simp only [*,go_sem,Nat.reduceLT,Nat.reduceEqDiff,↓reduceIte,Nat.reduceAdd,Int.reduceNeg,])
 refine bQ aC aK (α:=Nat) (fun k=>⟨19,[(0,.c (.p (.sl 5 (aZ t)))),(1,.c (.clo 305 [.ptr 0 0,.ptr 1 0])),(7,.c (.p (.i .i64 t.length))),(8,.c (.p (.i .i64 k)))],[.box [.p (.sl 5 (aZ t)),.p (.sl 5 (aZ w))],.box [.p (.s p)]]⟩)
  (fun k=>k≤t.length∧(t.drop k).any (fun y=>aM p y.p && (aW w y.p).isSome)=CA t w p) (fun k=>t.length-k) 0 ⟨Nat.zero_le _,rfl⟩ (.inl (aJ (by rw [hX];rfl) rfl rfl (by simp [aH,aN,aD,aL,aG,cC]))) ?_
 rintro k ⟨hk,hs⟩;by_cases hlt:k<t.length
 ·have hx:t[k]? = some t[k]:=List.getElem?_eq_getElem hlt;have hg:=dD hx;have hd:=drop_at hx;have h1:decide ((k:Int)<(t.length:Int))=true:=decide_eq_true (by omega);have hli:(k:Int)<(t.length:Int):=by omega
  have hk0:(0:Int)≤k:=by omega
  have w1:IntKind.i64.wrap ((k:Int)+1)=k+1:=wrap_i64 (by omega) (by omega);generalize t[k]=x at hx hg hd;rw [hd,List.any_cons] at hs;have hc:=zGS (t:=t) (w:=w) (q:=x.p) (p:=p) (k:=x.n.k) (m:=x.n.m) (tt:=x.n.t) (d:=x.n.d) hw hp;cases hb:(aM p x.p && (aW w x.p).isSome)
  ·rw [hb,Bool.false_or] at hs;rw [hb] at hc;have hP:=PLift.up hs;clear hs hx hd hb
   repeat' (simp only [*,go_sem,Nat.reduceLT,Nat.reduceLeDiff,Nat.reduceEqDiff,↓reduceIte,Nat.reduceAdd,Int.reduceNeg,])
   refine aA.mono hc ?_;rintro _ _ ⟨rfl,rfl⟩
   repeat' (simp only [*,go_sem,Nat.reduceLT,Nat.reduceEqDiff,↓reduceIte,Int.reduceNeg,])
   exact jC (k+1) ⟨by omega,hP.down⟩ (by omega) (aJ rfl rfl rfl (by simp [aH,aN,aD,aL,aG,cC]))
  ·rw [hb,Bool.true_or] at hs;rw [hb] at hc;have hP:=PLift.up hs;clear hs hx hd hb
   repeat' (simp only [*,go_sem,Nat.reduceLT,Nat.reduceLeDiff,Nat.reduceEqDiff,↓reduceIte,Nat.reduceAdd,Int.reduceNeg,])
   refine aA.mono hc ?_;rintro _ _ ⟨rfl,rfl⟩
   repeat' (simp only [*,go_sem,Nat.reduceLT,Nat.reduceEqDiff,↓reduceIte,Int.reduceNeg,bK,aG])
   exact ⟨k,rfl,by rw [← hP.down];exact decide_eq_true (by omega)⟩
 ·have h1:decide ((k:Int)<(t.length:Int))=false:=decide_eq_false (by omega);rw [List.drop_of_length_le (by omega)] at hs;have hP:=PLift.up hs;clear hs
  repeat' (simp only [*,go_sem,Nat.reduceLT,Nat.reduceEqDiff,↓reduceIte,Nat.reduceAdd,Int.reduceNeg,bK,aG])
  exact ⟨-1,rfl,by rw [← hP.down];rfl⟩
theorem zGT {t w:List It} {p:List UInt8} (hw:OkT w) (ht:t.length≤1000000) (hp:p.length≤1000000):
  aA Tryz.prog 304 [.c (.p (.sl 5 (aZ t))),.c (.clo 305 [.ptr 0 0,.ptr 1 0])] [.box [.p (.sl 5 (aZ t)),.p (.sl 5 (aZ w))],.box [.p (.s p)]]
   fun r h=>r=.c (.p (.b (CA t w p)))∧h=[.box [.p (.sl 5 (aZ t)),.p (.sl 5 (aZ w))],.box [.p (.s p)]]:=by
 refine ent aC aK Tryz.func304 rfl rfl fun X0 hX=>?_;simp only [Tryz.f304,go_sem]
 repeat' (simp only [*,go_sem,Nat.reduceLT,Nat.reduceEqDiff,↓reduceIte,Nat.reduceAdd,])
 refine aA.mono (zEa hw ht hp) ?_;rintro _ _ ⟨⟨i,rfl,hi⟩,rfl⟩;have hi2:decide (i≥0)=CA t w p:=hi
 repeat' (simp only [*,go_sem,Nat.reduceLT,↓reduceIte,bK,aG])
theorem zAR {t w:List It} {p:List UInt8} (hw:OkT w) (ht:t.length≤1000000) (hp:p.length≤1000000):
  aA Tryz.prog 250 [.agg [.p (.sl 5 (aZ t)),.p (.sl 5 (aZ w))],.c (.p (.s p))] [] fun r h=>r=.c (.p (.b (CA t w p)))∧h=[]:=by
 refine ent aC aK Tryz.func250 rfl rfl fun X0 hX=>?_;simp only [Tryz.f250,go_sem]
 repeat' (simp only [*,go_sem,Nat.reduceLT,Nat.reduceEqDiff,↓reduceIte,])
 refine aA.mono (zGT hw ht hp) ?_;rintro _ _ ⟨rfl,rfl⟩
 repeat' (simp only [*,go_sem,Nat.reduceLT,↓reduceIte,])
theorem PW {t w:List It} {p:List UInt8} (ht:OkT t) (hw:OkT w) (hp:p.length≤1000000):
  aA Tryz.prog 190 [.agg [.p (.sl 5 (aZ t)),.p (.sl 5 (aZ w))],.c (.p (.s p))] [] fun r h=>r=.c (.p (.b (mJ t w p)))∧h=[]:=by
 have htl:=ht.len;have hwl:=hw.len;have h1:=eG (t:=t) (p:=p) (by omega) ht.srt;have h2:=eG (t:=w) (p:=p) (by omega) hw.srt;have h3:=CI (p:=p) ht;have h4:=zAR (t:=t) (w:=w) (p:=p) hw (by omega) hp;unfold mJ;generalize aU t p=a at *;generalize aU w p=b at *;generalize CA t w p=c at *;generalize hnn:gA t p=nn at *;have hge:decide ((nn.length:Int)≥2) = !decide ((nn.length:Int)<2):=by
  by_cases h:(nn.length:Int)<2
  ·rw [decide_eq_true h,decide_eq_false (by omega)];rfl
  ·rw [decide_eq_false h,decide_eq_true (by omega)];rfl
 have hle:decide (2≤(nn.length:Int)) = !decide ((nn.length:Int)<2):=hge;generalize decide ((nn.length:Int)<2)=d at *;refine ent aC aK Tryz.func190 rfl rfl fun X0 hX=>?_;simp only [Tryz.f190,go_sem];cases a <;> cases b <;> cases c <;> cases d
 all_goals repeat' (first|simp only [*,go_sem,Nat.reduceLT,Nat.reduceLeDiff,Nat.reduceEqDiff,↓reduceIte,Nat.reduceAdd,Bool.not_true,Bool.not_false]|((with_reducible refine aQ (h1) ?_ ?_ ?_);exact rfl;exact rfl)|((with_reducible refine aQ (h2) ?_ ?_ ?_);exact rfl;exact rfl)|((with_reducible refine cH (h3) ?_ ?_ ?_);exact rfl;exact fun _=>rfl)|((with_reducible refine aQ (h4) ?_ ?_ ?_);exact rfl;exact rfl))
 all_goals rfl
theorem zDZ {t w:List It} {p:List UInt8} (ht:OkT t) (hw:OkT w) (hp:p.length≤1000000):
  aA Tryz.prog 191 [.agg [.p (.sl 5 (aZ t)),.p (.sl 5 (aZ w))],.c (.p (.s p))] [] fun r h=>r=.c (.p (.b (DO w (iI t w) p)))∧h=[]:=by
 have hdl:=XT p;have hwl:=hw.len;refine ent aC aK Tryz.func191 rfl rfl fun X0 hX=>?_;simp only [Tryz.f191,go_sem]
 repeat' (first|simp only [*,go_sem,Nat.reduceLT,Nat.reduceEqDiff,↓reduceIte,]|((with_reducible refine aQ (dQ (p:=p) (by omega)) ?_ ?_ ?_);exact rfl;exact rfl))
 refine bQ aC aK (α:=Nat × List UInt8) (fun x=>⟨35,[(2,.c (.ptr 0 0)),(5,.c (.p (.s x.2)))],[.box [.p (.sl 5 (aZ t)),.p (.sl 5 (aZ w))]]⟩)
  (fun x=>x.2.length≤x.1∧x.1≤p.length∧zCx w (iI t w) x.1 x.2=DO w (iI t w) p) (fun x=>x.1) (p.length,aP p) ⟨hdl,Nat.le_refl _,rfl⟩ (.inl (aJ (by rw [hX];rfl) rfl rfl (by simp [aH,aN,aD,aL,aG,]))) ?_
 rintro ⟨n,q⟩ ⟨hq,hn,hc⟩;simp only at hq hn hc;cases hq0:(q == [])
 ·have hq1:(q != [])=true:=by rw [bne,hq0];rfl
  have hqn:q≠[]:=by simpa using hq0
  obtain ⟨n,rfl⟩:∃ m,n=m+1:=⟨n-1,by have:=List.length_pos_iff.2 hqn;omega⟩
  have hdq:(aP q).length≤n:=by
   by_cases h:aP q=[]
   ·rw [h];exact Nat.zero_le _
   ·have:=pI h;omega
  rw [uH hqn,← zIt hw hqn] at hc;have hg:=jY (t:=w) (p:=q) (by omega) hw.srt hw.ne (fun x hx=>Nat.le_trans (hw.dlen x hx) (by decide));have hd:=eG (t:=w) (p:=q) (by omega) hw.srt;have ho:=PW (p:=q) ht hw (by omega);unfold zJR at hc;generalize (aW w q).getD nd0=x at hg;generalize (aW w q).isSome=is at hg hc;generalize aU w q=dir at hd hc;generalize mJ t w q=op at ho hc;obtain ⟨nk,nm,nt,nd⟩:=x;unfold Nd.cv at hg;simp only at hg;cases is <;> cases dir <;> cases op
  all_goals simp only [Bool.not_true,Bool.not_false,Bool.or_true,Bool.or_false,if_true,Bool.false_eq_true,if_false] at hc
  case true.true.false =>
   have hC:=PLift.up hc;clear hc
   repeat' (first|simp only [*,go_sem,Nat.reduceLT,Nat.reduceLeDiff,Nat.reduceEqDiff,↓reduceIte,Nat.reduceAdd,Bool.not_true,Bool.not_false]|((with_reducible refine cH (hg) ?_ ?_ ?_);exact rfl;exact fun _=>rfl)|((with_reducible refine aQ (hd) ?_ ?_ ?_);exact rfl;exact rfl)|((with_reducible refine aQ (ho) ?_ ?_ ?_);exact rfl;exact rfl)|((with_reducible refine aQ (dQ (p:=q) (by omega)) ?_ ?_ ?_);exact rfl;exact rfl))
   exact jC (n,aP q) ⟨hdq,by simp only;omega,hC.down⟩ (by simp only;omega) (aJ rfl rfl rfl (by simp [aH,aN,aD,aL,aG,]))
  all_goals rw [← hc]
  all_goals clear hc
  all_goals repeat' (first|simp only [*,go_sem,Nat.reduceLT,Nat.reduceLeDiff,Nat.reduceEqDiff,↓reduceIte,Nat.reduceAdd,Bool.not_true,Bool.not_false]|((with_reducible refine cH (hg) ?_ ?_ ?_);exact rfl;exact fun _=>rfl)|((with_reducible refine aQ (hd) ?_ ?_ ?_);exact rfl;exact rfl)|((with_reducible refine aQ (ho) ?_ ?_ ?_);exact rfl;exact rfl))
 ·have hq1:(q != [])=false:=by rw [bne,hq0];rfl
  have hqn:q=[]:=eq_of_beq hq0;subst hqn;rw [NQ] at hc;rw [← hc];clear hc
  repeat' (simp only [*,go_sem,Nat.reduceLT,Nat.reduceEqDiff,↓reduceIte,beq_self_eq_true])
end Go.Proofs.YtlbfnbldeefgmaaGreatDoor
end
section
namespace Go.Dm
open Go
section
variable {P:Program} {T:Tab} {X0:Ctx} {Q:Exit→DS→Prop}
theorem zHu {c:Code} {s:DS} (id:Nat) {k:Nat} {es:List (List PV)} (es':List (List PV)) (hb:s.h[id]? = some (.arr k es false)) (hw:iW es es')
  (h:SWP P X0 c ⟨s.n,s.t,s.h.set id (.arr k es' false)⟩ Q):SWP P X0 c s Q:=by
 intro gd X a hh hi hs ht;have h0:X.h[id]? = some (.arr k es false):=by rw [hh];exact hb
 have hlen:=hw.len;have hbl:=hi.blk id _ h0;have rf:=Step.refl hi;have st:Step X ⟨X.w,X.S,X.G,X.h.set id (.arr k es' false)⟩:=by
  refine ⟨rf.size,rf.os,rf.tape,rf.output,rf.kept,by simp,fun i db' hl hdb hlv=>?_,rf.frame,fun i db g' hdb hl hf hg'=>?_,rf.upper⟩
  ·rcases bV hdb with ⟨rfl,rfl,_⟩|⟨hne,h'⟩
   ·exact ⟨_,h0,⟨rfl,by omega⟩,rfl,fun g' hg'=>(hi.blk _ _ h0).same rfl g' hg'⟩
   ·exact ⟨db',h',bX.refl hlv,rfl,fun g' hg'=>(hi.blk i db' h').same hlv g' hg'⟩
  ·rcases bV hdb with ⟨rfl,rfl,_⟩|⟨hne,h'⟩
   ·exact .inr ⟨_,_,g',h0,rfl,rfl,hg',rfl⟩
   ·exact .inr ⟨i,db,g',h',hl,hf,hg',rfl⟩
 have hi':HInv ⟨X.w,X.S,X.G,X.h.set id (.arr k es' false)⟩:=by
  refine ⟨hi.slt,fun i db hdb=>?_,fun i db g' hdb hl hg'=>?_,fun i db i' db' g1 g2 hdb hl hf hdb' hl' hg1 hg2 he=>?_⟩
  ·rcases bV hdb with ⟨rfl,rfl,_⟩|⟨hne,h'⟩
   ·rcases hbl with ⟨h1,h2⟩|⟨g,arr,el,fz,h1,h2,h3,h4,h5⟩
    ·exact .inl ⟨h1,List.eq_nil_of_length_eq_zero (by rw [hlen,h2];rfl)⟩
    ·exact .inr ⟨g,arr,el,fz,h1,h2,by rw [hlen];exact h3,h4,hw.relL h5⟩
   ·exact (hi.blk i db h').move st rfl fun _ _=>rfl
  ·rcases bV hdb with ⟨rfl,rfl,_⟩|⟨hne,h'⟩
   ·have:=hi.own _ (.arr k es false) g' h0 rfl hg';exact this
   ·exact hi.own i db g' h' hl hg'
  ·rcases bV hdb with ⟨rfl,rfl,_⟩|⟨hne,h1'⟩ <;> rcases bV hdb' with ⟨rfl,rfl,_⟩|⟨hne',h2'⟩
   ·rfl
   ·exact hi.inj i _ i' db' g1 g2 h0 rfl rfl h2' hl' hg1 hg2 he
   ·exact hi.inj i db i' _ g1 g2 h1' hl hf h0 rfl hg1 hg2 he
   ·exact hi.inj i db i' db' g1 g2 h1' hl hf h2' hl' hg1 hg2 he
 exact h gd ⟨X.w,X.S,X.G,X.h.set id (.arr k es' false)⟩ a (by simp only [hh]) hi' (hs.trans hi st) ⟨ht.size,fun j=>(ht.rel j).step st,ht.defs⟩
theorem JS:∀ e:List PV,zFe e e
 | []=>True.intro
 | _::e=>⟨.inl rfl,JS e⟩
theorem xJ:∀ e:List (List PV),iW e e
 | []=>True.intro
 | e::es=>⟨JS e,xJ es⟩
theorem AO:∀ {a b c d:List (List PV)},iW a b→iW c d→iW (a++c) (b++d)
 | [],[],_,_,_,h=>h
 | _::_,_::_,_,_,h1,h2=>⟨h1.1,AO h1.2 h2⟩
 | [],_::_,_,_,h,_=>h.elim
 | _::_,[],_,_,h,_=>h.elim
end
end Go.Dm
end
