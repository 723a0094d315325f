/- Part 32 of the proof of roomAsks_card, set without needless blanks. No condition. -/
import Derived.Test.YtlbfnbldeefgmaaGreatDoorA30
set_option linter.all false
section
namespace Go.Proofs.YtlbfnbldeefgmaaGreatDoor
open Go Go.Dm
set_option maxRecDepth 100000
set_option maxHeartbeats 4000000
theorem zDo (x y:List UInt8):(bL x y || x == y) = !bL y x:=by
 cases h:bL y x
 ·cases h2:bL x y
  ·rw [dV h2 h];simp
  ·rfl
 ·rw [eH h,Bool.false_or];cases he:(x == y)
  ·rfl
  ·rw [eq_of_beq he,cM] at h;cases h
theorem vF {t:List It} (hl:t.length≤1000000) (hp:∀ x∈t,x.p.length≤1000000000) (ht:∀ x∈t,x.n.t<18446744073709551616):
  aA Tryz.prog 158 [.c (.p (.sl 5 (aU t)))] [] fun r h=>r=.c (.p (.b (jD t)))∧h=[]:=by
 refine ent aB aK Tryz.func158 rfl rfl fun X0 hX=>?_;simp only [Tryz.f158,go_sem]
 repeat' (first|exact ⟨⟩|refine sp ?_)
 refine aY aB aK (α:=Nat) (fun k=>⟨56,[(0,.c (.p (.sl 5 (aU t)))),(5,.c (.p (.sl 5 (aU t)))),(6,.c (.p (.i .i64 t.length))),(7,.c (.p (.i .i64 k)))],[]⟩)
  (fun k=>k≤t.length∧Srt (t.take k)∧eK (t.take k) (t.drop k)=eK [] t) (fun k=>t.length-k) 0 ⟨Nat.zero_le _,by simp,rfl⟩ (.inl (aI (by rw [hX];rfl) rfl rfl (by simp [aH,aL,aD,aJ,aF,]))) ?_
 rintro k ⟨hk,hst,hgo⟩;by_cases hlt:k<t.length
 ·have hx:t[k]? = some t[k]:=List.getElem?_eq_getElem hlt;have hg:=cQ hx;have h1:decide ((k:Int)<(t.length:Int))=true:=decide_eq_true (by omega);have hki:(k:Int)≤(t.length:Int):=by omega
  have hk0:(0:Int)≤k:=by omega
  have w1:IntKind.i64.wrap ((k:Int)+1)=k+1:=wrap_i64 (by omega) (by omega);have prev:(decide ((0:Int)<k)=false∧pB (t.take k) t[k].p=true)∨∃ m:Nat,∃ y:It,decide ((0:Int)<k)=true∧IntKind.i64.wrap ((k:Int)-1)=(m:Int)∧(m:Int)<t.length∧t[m]? = some y∧(bL t[k].p y.p || t[k].p == y.p) = !pB (t.take k) t[k].p:=by
   by_cases h0:0<k
   ·have hmk:k-1<t.length:=by omega
    refine .inr ⟨k-1,t[k-1],decide_eq_true (by omega),?_,by omega,List.getElem?_eq_getElem hmk,?_⟩
    ·rw [wrap_i64 (by omega) (by omega)];omega
    ·rw [zDo];unfold pB;rw [getLast_take h0 (by omega),List.getElem?_eq_getElem hmk]
   ·refine .inl ⟨decide_eq_false (by omega),?_⟩;have:k=0:=by omega
    subst this;rfl
  have hpl:=hp _ (List.getElem_mem hlt);have i4:=ht _ (List.getElem_mem hlt);have hisd:=eN (t:=t.take k) (p:=aR t[k].p) (by rw [List.length_take];omega) hst;have htk:(aU t).take k=aU (t.take k):=xR t k;have hdr:t.drop k=t[k]::t.drop (k+1):=List.drop_eq_getElem_cons hlt;have hnx:t.take (k+1)=t.take k++[t[k]]:=by rw [List.take_add_one,hx];rfl
  rw [hdr,eK] at hgo;have hsn:pB (t.take k) t[k].p=true→Srt (t.take k++[t[k]]):=fun h=>XB hst h;rw [← hnx] at hgo hsn;have hbad:lA (t.take k) t[k]=false→jD t=false:=fun h=>by
   rw [h,Bool.false_and] at hgo;rw [jD,← hgo];rfl
  have hgood:lA (t.take k) t[k]=true→eK (t.take (k+1)) (t.drop (k+1))=eK [] t:=fun h=>by
   rw [h,Bool.true_and] at hgo;exact hgo
  clear hgo hdr hnx;unfold lA at hbad hgood;generalize t[k]=x at hx hg prev hpl i4 hisd hsn hbad hgood;generalize pB (t.take k) x.p=a3 at prev hsn hbad hgood;generalize aV (t.take k) (aR x.p)=a5 at hisd hbad hgood;cases c1:(x.p == [])
  ·cases c2:bT x.p
   ·have hf:=hbad (by rw [c1,c2];rfl);rw [hf];clear hf hbad hgood hsn hst hisd prev hp ht hx
    repeat' (first|exact ⟨⟩|refine sp ?_|((refine aN (id:=4) aB aK [] [0,1,2,3,4,5,6,7,8,9,10,11,12,13,14,15,16,17,18,19,20,21,22,23,24,25,26,27,28,29,30,31,32,33,34,35,36,37,38,39] (by decide +kernel) ?_);(repeat' (first|(refine aT ?_)|((refine bV ?_ rfl rfl ?_ ?_);(rotate_left 1);(focus ((repeat' (first|exact ⟨⟩|refine sq ?_|refine uF (eV (by omega)) ?_));exact rfl));(simp only [aG])))))|((with_reducible refine And.intro ?_ ?_);omega))
   ·rcases prev with ⟨b1,rfl⟩|⟨m,y,b1,b2,b3,b4,b5⟩
    ·cases c4:aS x.n
     ·have hf:=hbad (by rw [c1,c2,c4];rfl);rw [hf];clear hf hbad hgood hsn hst hisd hp ht hx
      repeat' (first|exact ⟨⟩|refine sp ?_|((refine aN (id:=4) aB aK [] [0,1,2,3,4,5,6,7,8,9,10,11,12,13,14,15,16,17,18,19,20,21,22,23,24,25,26,27,28,29,30,31,32,33,34,35,36,37,38,39] (by decide +kernel) ?_);(repeat' (first|(refine aT ?_)|((refine bV ?_ rfl rfl ?_ ?_);(rotate_left 1);(focus ((repeat' (first|exact ⟨⟩|refine sq ?_|refine uF (eV (by omega)) ?_|refine uF (dL i4) ?_));exact rfl));(simp only [aG])))))|((with_reducible refine And.intro ?_ ?_);omega))
     ·cases a5
      ·have hf:=hbad (by rw [c1,c2,c4];rfl);rw [hf];clear hf hbad hgood hsn hst hp ht hx
       repeat' (first|exact ⟨⟩|refine sp ?_|((refine aN (id:=4) aB aK [] [0,1,2,3,4,5,6,7,8,9,10,11,12,13,14,15,16,17,18,19,20,21,22,23,24,25,26,27,28,29,30,31,32,33,34,35,36,37,38,39] (by decide +kernel) ?_);(repeat' (first|(refine aT ?_)|((refine bV ?_ rfl rfl ?_ ?_);(rotate_left 1);(focus ((repeat' (first|exact ⟨⟩|refine sq ?_|refine uF (eV (by omega)) ?_|refine uF (dL i4) ?_|refine uF (dQ (by omega)) ?_|refine uF (hisd) ?_));exact rfl));(simp only [aG])))))|((with_reducible refine And.intro ?_ ?_);omega))
      ·have hJ:k+1≤t.length∧Srt (t.take (k+1))∧eK (t.take (k+1)) (t.drop (k+1))=eK [] t:=⟨by omega,hsn rfl,hgood (by rw [c1,c2,c4];rfl)⟩
       clear hbad hgood hsn hst hp ht hx
       repeat' (first|exact ⟨⟩|refine sp ?_|((refine aN (id:=4) aB aK [] [0,1,2,3,4,5,6,7,8,9,10,11,12,13,14,15,16,17,18,19,20,21,22,23,24,25,26,27,28,29,30,31,32,33,34,35,36,37,38,39] (by decide +kernel) ?_);(repeat' (first|(refine aT ?_)|((refine bV ?_ rfl rfl ?_ ?_);(rotate_left 1);(focus ((repeat' (first|exact ⟨⟩|refine sq ?_|refine uF (eV (by omega)) ?_|refine uF (dL i4) ?_|refine uF (dQ (by omega)) ?_|refine uF (hisd) ?_));exact rfl));(simp only [aG])))))|((with_reducible refine And.intro ?_ ?_);omega))
       exact fD (k+1) hJ (by omega) (aI rfl rfl rfl (by simp [aH,aL,aD,aJ,aF,]))
    ·have hgy:=cQ b4;cases a3
     ·have hf:=hbad (by rw [c1,c2];rfl);rw [hf];rw [Bool.not_false] at b5;clear hf hbad hgood hsn hst hisd hp ht hx b4
      repeat' (first|exact ⟨⟩|refine sp ?_|((refine aN (id:=4) aB aK [] [0,1,2,3,4,5,6,7,8,9,10,11,12,13,14,15,16,17,18,19,20,21,22,23,24,25,26,27,28,29,30,31,32,33,34,35,36,37,38,39] (by decide +kernel) ?_);(repeat' (first|(refine aT ?_)|((refine bV ?_ rfl rfl ?_ ?_);(rotate_left 1);(focus ((repeat' (first|exact ⟨⟩|refine sq ?_|refine uF (eV (by omega)) ?_|((with_reducible refine And.intro ?_ ?_);omega)));exact rfl));(simp only [aG])))))|((with_reducible refine And.intro ?_ ?_);omega))
     ·rw [Bool.not_true] at b5;cases c4:aS x.n
      ·have hf:=hbad (by rw [c1,c2,c4];rfl);rw [hf];clear hf hbad hgood hsn hst hisd hp ht hx b4
       repeat' (first|exact ⟨⟩|refine sp ?_|((refine aN (id:=4) aB aK [] [0,1,2,3,4,5,6,7,8,9,10,11,12,13,14,15,16,17,18,19,20,21,22,23,24,25,26,27,28,29,30,31,32,33,34,35,36,37,38,39] (by decide +kernel) ?_);(repeat' (first|(refine aT ?_)|((refine bV ?_ rfl rfl ?_ ?_);(rotate_left 1);(focus ((repeat' (first|exact ⟨⟩|refine sq ?_|refine uF (eV (by omega)) ?_|refine uF (dL i4) ?_|((with_reducible refine And.intro ?_ ?_);omega)));exact rfl));(simp only [aG])))))|((with_reducible refine And.intro ?_ ?_);omega))
      ·cases a5
       ·have hf:=hbad (by rw [c1,c2,c4];rfl);rw [hf];clear hf hbad hgood hsn hst hp ht hx b4
        repeat' (first|exact ⟨⟩|refine sp ?_|((refine aN (id:=4) aB aK [] [0,1,2,3,4,5,6,7,8,9,10,11,12,13,14,15,16,17,18,19,20,21,22,23,24,25,26,27,28,29,30,31,32,33,34,35,36,37,38,39] (by decide +kernel) ?_);(repeat' (first|(refine aT ?_)|((refine bV ?_ rfl rfl ?_ ?_);(rotate_left 1);(focus ((repeat' (first|exact ⟨⟩|refine sq ?_|refine uF (eV (by omega)) ?_|refine uF (dL i4) ?_|refine uF (dQ (by omega)) ?_|refine uF (hisd) ?_|((with_reducible refine And.intro ?_ ?_);omega)));exact rfl));(simp only [aG])))))|((with_reducible refine And.intro ?_ ?_);omega))
       ·have hJ:k+1≤t.length∧Srt (t.take (k+1))∧eK (t.take (k+1)) (t.drop (k+1))=eK [] t:=⟨by omega,hsn rfl,hgood (by rw [c1,c2,c4];rfl)⟩
        clear hbad hgood hsn hst hp ht hx b4
        repeat' (first|exact ⟨⟩|refine sp ?_|((refine aN (id:=4) aB aK [] [0,1,2,3,4,5,6,7,8,9,10,11,12,13,14,15,16,17,18,19,20,21,22,23,24,25,26,27,28,29,30,31,32,33,34,35,36,37,38,39] (by decide +kernel) ?_);(repeat' (first|(refine aT ?_)|((refine bV ?_ rfl rfl ?_ ?_);(rotate_left 1);(focus ((repeat' (first|exact ⟨⟩|refine sq ?_|refine uF (eV (by omega)) ?_|refine uF (dL i4) ?_|refine uF (dQ (by omega)) ?_|refine uF (hisd) ?_|((with_reducible refine And.intro ?_ ?_);omega)));exact rfl));(simp only [aG])))))|((with_reducible refine And.intro ?_ ?_);omega))
        exact fD (k+1) hJ (by omega) (aI rfl rfl rfl (by simp [aH,aL,aD,aJ,aF,]))
  ·have hf:=hbad (by rw [c1];rfl);rw [hf];clear hf hbad hgood hsn hst hisd prev hp ht hx
   repeat' (first|exact ⟨⟩|refine sp ?_|((refine aN (id:=4) aB aK [] [0,1,2,3,4,5,6,7,8,9,10,11,12,13,14,15,16,17,18,19,20,21,22,23,24,25,26,27,28,29,30,31,32,33,34,35,36,37,38,39] (by decide +kernel) ?_);(repeat' (first|(refine aT ?_)|((refine bV ?_ rfl rfl ?_ ?_);(rotate_left 1);(focus ((repeat' (first|exact ⟨⟩|refine sp ?_));exact rfl));(simp only [aG])))))|((with_reducible refine And.intro ?_ ?_);omega))
 ·have h1:decide ((k:Int)<(t.length:Int))=false:=decide_eq_false (by omega);rw [List.drop_of_length_le (by omega),eK] at hgo;rw [jD,← hgo,Bool.true_and];clear hgo hst
  repeat' (first|exact ⟨⟩|refine sp ?_)
end Go.Proofs.YtlbfnbldeefgmaaGreatDoor
end
section
namespace Go.Proofs.YtlbfnbldeefgmaaGreatDoor
open Go Go.Dm Go.Proofs
set_option maxRecDepth 100000
set_option maxHeartbeats 8000000
theorem yD (t:List It) (i:Nat) (p:List UInt8) (k m:Int) (tt:Nat) (d:List UInt8):fA i [.s p,.i .i64 k,.i .i64 m,.f tt,.sl 1 (bO d)] (aU t)=aU (t.take i++⟨p,⟨k,m,tt,d⟩⟩::t.drop i):=by
 simp [fA,aU,It.cs,List.map_take,List.map_drop]
theorem zM8 {t:List It} {p:List UInt8} {k m:Int} {tt:Nat} {d:List UInt8} (h:OkT t) (hp:p.length≤1000000000) (hd:d.length≤140737488355328) (htt:tt<18446744073709551616):
  aA Tryz.prog 293 [.c (.p (.sl 5 (aU t))),.c (.p (.s p)),.agg (ndc k m tt d)] [] fun r h =>
   r=.tup [.c (.p (.sl 5 (aU (lV t p ⟨k,m,tt,d⟩).1))),.c (.p (.i .i64 (lV t p ⟨k,m,tt,d⟩).2))]∧h=[]:=by
 have htl:=h.len;have hdl:∀ x∈t,x.n.d.length≤140737488355328:=fun x hx=>Nat.le_trans (h.dlen x hx) (by decide);have hdir:=eN (t:=t) (p:=aR p) (by omega) h.srt;have hpath:=eV hp;have hnode:=dL (k:=k) (m:=m) (d:=d) htt;refine bK ?_;unfold lV;cases q0:(p == [])
 case true =>
  refine ent aB aK Tryz.func293 rfl rfl fun X0 hX=>?_;simp only [Tryz.f293,go_sem]
  repeat' (first|exact ⟨⟩|refine sp ?_)
  all_goals simp
 cases q1:bT p
 case false =>
  rw [q1] at hpath;refine ent aB aK Tryz.func293 rfl rfl fun X0 hX=>?_;simp only [Tryz.f293,go_sem]
  repeat' (first|exact ⟨⟩|refine sq ?_|refine uF (hpath) ?_)
  all_goals simp
 cases q2:aS ⟨k,m,tt,d⟩
 case false =>
  rw [q1] at hpath;rw [q2] at hnode;refine ent aB aK Tryz.func293 rfl rfl fun X0 hX=>?_;simp only [Tryz.f293,go_sem]
  repeat' (first|exact ⟨⟩|refine sq ?_|refine uF (hpath) ?_|refine uF (hnode) ?_)
  all_goals simp
 cases q3:aV t (aR p)
 case false =>
  rw [q1] at hpath;rw [q2] at hnode;rw [q3] at hdir;refine ent aB aK Tryz.func293 rfl rfl fun X0 hX=>?_;simp only [Tryz.f293,go_sem]
  repeat' (first|exact ⟨⟩|refine sq ?_|refine uF (hpath) ?_|refine uF (hnode) ?_|refine uF (dQ hp) ?_|refine uF (hdir) ?_)
  all_goals simp
 rw [q1] at hpath;rw [q2] at hnode;rw [q3] at hdir;have e0:(false || !true || !true)=false:=rfl;rw [e0,if_neg (by decide),if_neg (by decide)];clear e0 q1 q2 q3;have hcp:=xC (k:=k) (m:=m) (t:=tt) (d:=d) hd;have hgo:(t.filter fun x=>!goF p false x)=bE t p:=by
  unfold bE
  congr 1
  funext x
  simp [goF]
 have hub:=h.toOkT0.filter (fun x=>!aP p x.p);change OkT0 (bE t p) at hub;cases q4:(k != 2)
 ·simp only [Bool.false_eq_true,if_false];have hs:=h.srt;have hle0:t.length≤(aU t).length:=Nat.le_of_eq (cS t).symm;have hes0:(aU t).take t.length=aU t:=List.take_of_length_le (Nat.le_of_eq (cS t));have hsl:=oW t p ⟨k,m,tt,d⟩;refine ent aB aK Tryz.func293 rfl rfl fun X0 hX=>?_;simp only [Tryz.f293,go_sem]
  repeat' (first|exact ⟨⟩|refine sq ?_|refine uF (hpath) ?_|refine uF (hnode) ?_|refine uF (dQ hp) ?_|refine uF (hdir) ?_|refine xB (by omega) hdl ?_|refine zCK (i:=1) (t:=t) rfl hes0 (by omega) hs ?_)
  intro j hj;unfold lN;have hj1:=hj.1;have hat:At t p j:=hj;cases hf:fN t p j
  ·have hnew:=HB (n:=⟨k,m,tt,d⟩) hs hat (fun x hx=>by unfold fN at hf;rw [hx] at hf;exact hf)
   rw [hnew];have hln:(t.take j++(⟨p,⟨k,m,tt,d⟩⟩:It)::t.drop j).length=t.length+1:=by
    rw [List.length_append,List.length_cons,List.length_take,List.length_drop];omega
   rw [hln]
   repeat' (first|exact ⟨⟩|refine sp ?_|refine uN (hcp) ?_|refine insert_k (x:=[.s p,.i .i64 k,.i .i64 m,.f tt,.sl 1 (bO d)]) rfl rfl (by decide) hle0 hj1 (by omega) ?_|with_reducible refine aO (fun _=>?_) (fun _=>?_)|((with_reducible refine And.intro ?_ ?_);decide))
   all_goals first|exact .inr ⟨_,rfl⟩|(rw [yD,List.take_of_length_le (by rw [cS,hln];exact Nat.le_refl _)])
  ·unfold fN at hf;have hlt:j<t.length:=by
    rcases Nat.lt_or_ge j t.length with h|h
    ·exact h
    ·rw [List.getElem?_eq_none h] at hf;cases hf
   have hx:t[j]? = some t[j]:=List.getElem?_eq_getElem hlt;rw [hx] at hf;have hset:=DH (n:=⟨k,m,tt,d⟩) hs hat hx hf;rw [hset];have hln:(t.set j ⟨p,⟨k,m,tt,d⟩⟩).length=t.length:=List.length_set
   rw [hln];have hjl:(j:Int)<(t.length:Int):=by omega
   have hgj:=cQ (t:=t) (k:=j) hx;have hse:=rA t j ⟨p,⟨k,m,tt,d⟩⟩;clear hx hf hset hat hj;generalize t[j]=y at hgj
   repeat' (first|exact ⟨⟩|refine sp ?_|refine uN (hcp) ?_|with_reducible refine aO (fun _=>?_) (fun _=>?_)|((with_reducible refine And.intro ?_ ?_);omega))
   all_goals first|exact .inr ⟨_,rfl⟩|(rw [List.take_of_length_le (by rw [hln];exact Nat.le_refl _)])
 ·simp only [if_true];have hs:=hub.srt;have hul:=rQ t p;have hsl:=oW (bE t p) p ⟨k,m,tt,d⟩;have hw:∀ (h:aC) (K:DV→aC→Prop),(∀ es:List (List PV),es.take (bE t p).length=aU (bE t p)→K (.c (.own (2+h.length) 0 (bE t p).length)) (h++[.box [.p (.s p)],.box [.p (.b false)],.arr 5 es false])) →
    aA Tryz.prog 248 [.c (.p (.sl 5 (aU t))),.c (.p (.s p)),.c (.p (.b false))] h K:=fun h K hk=>by
   refine zE5 hp (by omega) hdl ?_;rw [hgo];exact hk
  refine ent aB aK Tryz.func293 rfl rfl fun X0 hX=>?_;simp only [Tryz.f293,go_sem]
  repeat' (first|exact ⟨⟩|refine sq ?_|refine uF (hpath) ?_|refine uF (hnode) ?_|refine uF (dQ hp) ?_|refine uF (hdir) ?_|refine xB (by omega) hdl ?_|refine hw _ _ ?_)
  intro es hes;clear hw hgo;generalize bE t p=u at hub hs hul hsl hes ⊢;have hle0:u.length≤es.length:=by
   have:=congrArg List.length hes;rw [List.length_take,cS] at this;omega
  repeat' (first|exact ⟨⟩|refine sp ?_|refine zCK (i:=4) (t:=u) rfl hes (by omega) hs ?_)
  intro j hj;unfold lN;have hj1:=hj.1;have hat:At u p j:=hj;cases hf:fN u p j
  ·have hnew:=HB (n:=⟨k,m,tt,d⟩) hs hat (fun x hx=>by unfold fN at hf;rw [hx] at hf;exact hf)
   rw [hnew];have hln:(u.take j++(⟨p,⟨k,m,tt,d⟩⟩:It)::u.drop j).length=u.length+1:=by
    rw [List.length_append,List.length_cons,List.length_take,List.length_drop];omega
   rw [hln]
   repeat' (first|exact ⟨⟩|refine sp ?_|refine uN (hcp) ?_|refine insert_k (x:=[.s p,.i .i64 k,.i .i64 m,.f tt,.sl 1 (bO d)]) rfl rfl (by decide) hle0 hj1 (by omega) ?_|with_reducible refine aO (fun _=>?_) (fun _=>?_)|((with_reducible refine And.intro ?_ ?_);decide))
   all_goals first|exact .inr ⟨_,rfl⟩|(rw [yD,List.take_of_length_le (by rw [cS,hln];exact Nat.le_refl _)])
  ·unfold fN at hf;have hlt:j<u.length:=by
    rcases Nat.lt_or_ge j u.length with h|h
    ·exact h
    ·rw [List.getElem?_eq_none h] at hf;cases hf
   have hx:u[j]? = some u[j]:=List.getElem?_eq_getElem hlt;rw [hx] at hf;have hset:=DH (n:=⟨k,m,tt,d⟩) hs hat hx hf;rw [hset];have hln:(u.set j ⟨p,⟨k,m,tt,d⟩⟩).length=u.length:=List.length_set
   rw [hln];have hjl:(j:Int)<(u.length:Int):=by omega
   have hgj:es.getD j []=u[j].cs:=by
    have h1:=cQ (t:=u) (k:=j) hx;rw [← hes,List.getD_eq_getElem?_getD,List.getElem?_take,if_pos hlt,← List.getD_eq_getElem?_getD] at h1;exact h1
   have hse:(es.set j [.s p,.i .i64 k,.i .i64 m,.f tt,.sl 1 (bO d)]).take u.length=aU (u.set j ⟨p,⟨k,m,tt,d⟩⟩):=by
    rw [List.take_set,hes];exact rA u j ⟨p,⟨k,m,tt,d⟩⟩
   have hje:(j:Int)<(es.length:Int):=by omega
   clear hx hf hset hat hj;generalize u[j]=y at hgj;unfold It.cs at hgj
   repeat' (first|exact ⟨⟩|refine sp ?_|refine uN (hcp) ?_|with_reducible refine aO (fun _=>?_) (fun _=>?_)|((with_reducible refine And.intro ?_ ?_);omega))
   all_goals first|exact .inr ⟨_,rfl⟩|rw [hse]
end Go.Proofs.YtlbfnbldeefgmaaGreatDoor
end
