/- Part 50 of the proof of roomDeep_card, set without needless blanks. No condition. -/
import Derived.Test.YtlbfnbldeefgmaaGreatDoorC48
set_option linter.all false
section
namespace Go.Proofs.YtlbfnbldeefgmaaGreatDoor
open Go Go.Dm Go.Proofs
set_option maxRecDepth 100000
set_option maxHeartbeats 16000000
theorem zFI {n how:Int} {s:List UInt8} (hs:s.length≤9223372036854775807):aA Tryz.prog 47 [.c (.p (.i .i64 n)),.c (.p (.i .i64 how)),.c (.p (.s s))] [] fun r h=>r=.c (.p (.s (HW n how s)))∧h=[]:=by
 have hp:=pW n;have hn:=fS n;have hn2:=fS (IntKind.i64.wrap (n.tdiv 6));have hpc:=zFl (n:=n);have hnc:=tT (n:=n);have hnc2:=tT (n:=IntKind.i64.wrap (n.tdiv 6));have hpk:=lB (n:=how) (m:=24) (by decide) (by decide);unfold HW;generalize pV n=P at hp hpc ⊢;generalize rJ n=A at hn hnc ⊢;generalize rJ (IntKind.i64.wrap (n.tdiv 6))=B at hn2 hnc2 ⊢;have e0:=Int.emod_nonneg how (show (24:Int)≠0 by decide)
 have e1:=Int.emod_lt_of_pos how (show (0:Int)<24 by decide)
 generalize how % 24=q at hpk e0 e1 ⊢;refine ent aC aK Tryz.func47 rfl rfl fun X0 hX=>?_;simp only [Tryz.f47,go_sem]
 repeat' (first|simp only [*,go_sem,Nat.reduceLT,Nat.reduceLeDiff,Nat.reduceEqDiff,↓reduceIte,Nat.reduceAdd,Int.reduceEq,]|((with_reducible refine aQ (hpc) ?_ ?_ ?_);exact rfl;exact rfl)|((with_reducible refine aQ (hnc) ?_ ?_ ?_);exact rfl;exact rfl)|((with_reducible refine aQ (hnc2) ?_ ?_ ?_);exact rfl;exact rfl)|((with_reducible refine aQ (hpk) ?_ ?_ ?_);exact rfl;exact rfl)|with_reducible refine aR (fun _=>?_) (fun _=>?_)|((with_reducible refine And.intro ?_ ?_);omega))
 all_goals omega
theorem sv_i (n:Int):(SV.i n).pv=.i .i64 n:=rfl
theorem zHs (l:List Int) (n:Nat):∃ k,(l.map SV.i).getD n (.i 0)=.i k:=by
 rw [List.getD_eq_getElem?_getD,List.getElem?_map];cases l[n]? with
 | none=>exact ⟨0,rfl⟩
 | some k=>exact ⟨k,rfl⟩
abbrev rcv (x:RC):List CV:=[.p (.i .i64 x.k),.p (.i .i64 x.p),.p (.i .i64 x.to'),.p (.i .i64 x.m),.p (.i .i64 x.t),.p (.i .i64 x.at'),.p (.i .i64 x.n),.p (.i .i64 x.how),.p (.f x.x),.p (.sl 1 (bW x.d)),.p (.s x.s)]
abbrev clv (c:Cl):List CV:=clc c.k c.p c.to' c.m c.t c.at' c.n c.d
theorem SP {m:Int}:∃ (m':Int) (t':Nat),aA Tryz.prog 50 [.agg [.p (.i .i64 2),.p (.i .i64 m),.p (.i .i64 0),.p (.f 0),.p .nil]] [] fun r h=>r=.agg (ndc 3 m' t' (CF m))∧h=[] :=
 ⟨m % 4096,cW (xC 0 0),by
  have h:aA Tryz.prog 50 [.agg (rnc 2 m 0 0 [])] [] fun r h=>r=.agg (ndc 3 (m % 4096) (cW (xC 0 0)) (CF m))∧h=[]:=by
   have e:(zEp ⟨2,m,0,0,[]⟩).cv=ndc 3 (m % 4096) (cW (xC 0 0)) (CF m):=by simp [zEp,zG4,Nd.cv]
   have:=zG5 (k:=2) (m:=m) (t:=0) (x:=0) (d:=[]) (by simp);rw [e] at this;exact this
  refine aA.wkargs ?_ h;simp [zCB,wkD,zCs,wkC,wkP,mZ]⟩
theorem zH3 {x:RC} (hs:x.s.length≤9223372036854775807) (hd:x.d.length≤9223372036854775807):
  ∃ k:Int,aA Tryz.prog 11 [.agg (rcv x)] [] fun r h=>r=.agg (clv (EH k x))∧h=[]:=by
 obtain ⟨xk,xp,xq,xm,xt,xa,xn,xh,xx,xd,xs⟩:=x;simp only at hs hd;have hsd:=zFI (n:=xp) (how:=xh) hs;have hsq:=zFI (n:=xq) (how:=IntKind.i64.wrap (xh.tdiv 24)) hs;have hti:=zFm (n:=xt) (x:=xx);have hf1:=zFX (b:=xd) (n:=60) (by decide) (by decide) hd;have hf2:=zFX (b:=xd) (n:=200) (by decide) (by decide) hd;have hpk:=lB (n:=xk) (m:=24) (by decide) (by decide);have hpm:=lB (n:=xm) (m:=4099) (by decide) (by decide);have hp4:=lB (n:=xa) (m:=40) (by decide) (by decide);have hp3:=lB (n:=xa) (m:=30) (by decide) (by decide);have hpn:=lB (n:=xn) (m:=40) (by decide) (by decide);obtain ⟨lm,lt,hnd⟩:=SP (m:=xq);have b1:=Int.emod_nonneg xk (show (24:Int)≠0 by decide)
 have b2:=Int.emod_lt_of_pos xk (show (0:Int)<24 by decide)
 have b3:=Int.emod_nonneg xm (show (4099:Int)≠0 by decide)
 have b4:=Int.emod_lt_of_pos xm (show (0:Int)<4099 by decide)
 have b5:=Int.emod_nonneg xa (show (40:Int)≠0 by decide)
 have b6:=Int.emod_lt_of_pos xa (show (0:Int)<40 by decide)
 have b7:=Int.emod_nonneg xa (show (30:Int)≠0 by decide)
 have b8:=Int.emod_lt_of_pos xa (show (0:Int)<30 by decide)
 have b9:=Int.emod_nonneg xn (show (40:Int)≠0 by decide)
 have b10:=Int.emod_lt_of_pos xn (show (0:Int)<40 by decide)
 have hsl:((said 0).length:Int)=24:=rfl;have key:∀ (k:Int),(xh.tmod 41 == 40)=true∧k=xk∨(xh.tmod 41 == 40)=false∧(said 0).getD (xk % 24).toNat (.i 0)=.i k →
   aA Tryz.prog 11 [.agg (rcv ⟨xk,xp,xq,xm,xt,xa,xn,xh,xx,xd,xs⟩)] [] fun r h=>r=.agg (clv (EH k ⟨xk,xp,xq,xm,xt,xa,xn,xh,xx,xd,xs⟩))∧h=[]:=by
  intro k hk;refine bN ?_;unfold EH;simp only;generalize HW xp xh xs=P at hsd ⊢;generalize HW xq (IntKind.i64.wrap (xh.tdiv 24)) xs=Q at hsq ⊢;generalize xC xt xx=TT at hti ⊢;generalize CF xq=LL at hnd ⊢;generalize xk % 24=q at hpk hk b1 b2;generalize xm % 4099=pm at hpm b3 b4 ⊢;generalize xa % 40=p4 at hp4 b5 b6 ⊢;generalize xa % 30=p3 at hp3 b7 b8 ⊢;generalize xn % 40=pn at hpn b9 b10 ⊢;obtain ⟨j,rfl⟩:∃ j:Nat,p4=j:=⟨p4.toNat,by omega⟩
  have w1:IntKind.i64.wrap (pm-1)=pm-1:=wrap_i64 (by omega) (by omega);have w2:IntKind.i64.wrap (p3-1)=p3-1:=wrap_i64 (by omega) (by omega);have w3:IntKind.i64.wrap (pn-1)=pn-1:=wrap_i64 (by omega) (by omega);have w4:IntKind.i64.wrap (1980+(j:Int))=(1980+j:Nat):=by rw [wrap_i64 (by omega) (by omega)];omega
  have hq:q<((said 0).length:Int):=by rw [hsl];exact b2
  have hj:((1980+j:Nat):Int)≤9223372036854775807:=by omega
  have hj2:((1980+j:Nat):Int)≤140737488355328:=by omega
  have hj0:(0:Int)≤((1980+j:Nat):Int):=by omega
  have hrep:List.replicate (1980+j) [PV.i .u8 0]=bW (List.replicate (1980+j) 0):=by simp [bW]
  have hjt:((j:Int)).toNat=j:=Int.toNat_natCast j;clear hs hd hsl b3 b4 b5 b6 b7 b8 b9 b10;rcases hk with ⟨h41,rfl⟩|⟨h41,hk⟩
  ·rcases zFx k with rfl|rfl|rfl|rfl|rfl|rfl|rfl|rfl|rfl|⟨k1,k2,k3,k4,k7,k9,k10,k11,k14⟩
   all_goals
    refine ent aC aK Tryz.func11 rfl rfl fun X0 hX=>?_;simp only [Tryz.f11,go_sem]
    repeat' (first|simp only [*,go_sem,Nat.reduceLT,Nat.reduceLeDiff,Nat.reduceEqDiff,↓reduceIte,Nat.reduceAdd,Int.reduceToNat,Int.reduceEq,Int.reduceBEq,beq_self_eq_true,]|((refine aO (id:=1) aC aK [13,14] [13,0,1,2,3,4,5,6,7,8,9,10,11,12,14] (by decide +kernel) ?_);(repeat' (first|(refine bC ?_)|((refine dB ?_ ?_ rfl rfl rfl ?_ ?_);(rotate_left 2);(focus ((repeat' (simp only [*,go_sem,Nat.reduceLT,Nat.reduceLeDiff,Nat.reduceEqDiff,↓reduceIte,Nat.reduceAdd,]));((refine And.intro ?_ ?_ <;> exact rfl))));(simp only [aF,bF]))|((refine dA ?_ rfl rfl rfl ?_ ?_);(rotate_left 1);(focus ((repeat' (first|exact bI|refine bA ?_ ?_));(all_goals ((repeat' (first|simp only [*,go_sem,Nat.reduceLT,Nat.reduceLeDiff,Nat.reduceEqDiff,↓reduceIte,Nat.reduceAdd,]|((with_reducible refine aQ (hpk) ?_ ?_ ?_);exact rfl;exact rfl)|((with_reducible refine cH (hsd) ?_ ?_ ?_);exact rfl;exact fun _=>rfl)));(try (exact rfl))))));(simp only [aF])))))|((with_reducible refine cH (hsq) ?_ ?_ ?_);exact rfl;exact fun _=>rfl)|((with_reducible refine aQ (hti) ?_ ?_ ?_);exact rfl;exact rfl)|((with_reducible refine cH (hf1) ?_ ?_ ?_);exact rfl;exact fun _=>rfl)|((with_reducible refine cH (hf2) ?_ ?_ ?_);exact rfl;exact fun _=>rfl)|((with_reducible refine aQ (hpm) ?_ ?_ ?_);exact rfl;exact rfl)|((with_reducible refine aQ (hp4) ?_ ?_ ?_);exact rfl;exact rfl)|((with_reducible refine aQ (hp3) ?_ ?_ ?_);exact rfl;exact rfl)|((with_reducible refine aQ (hpn) ?_ ?_ ?_);exact rfl;exact rfl)|((with_reducible refine cH (hnd) ?_ ?_ ?_);exact rfl;exact fun _=>rfl)|with_reducible refine aR (fun _=>?_) (fun _=>?_)|((with_reducible refine And.intro ?_ ?_);omega))
   all_goals first|exact .inr ⟨_,rfl⟩|(rw [List.take_of_length_le (by simp)])
  ·rcases zFx k with rfl|rfl|rfl|rfl|rfl|rfl|rfl|rfl|rfl|⟨k1,k2,k3,k4,k7,k9,k10,k11,k14⟩
   all_goals
    refine ent aC aK Tryz.func11 rfl rfl fun X0 hX=>?_;simp only [Tryz.f11,go_sem]
    repeat' (first|simp only [*,go_sem,Nat.reduceLT,Nat.reduceLeDiff,Nat.reduceEqDiff,↓reduceIte,Nat.reduceAdd,Int.reduceToNat,Int.reduceEq,Int.reduceBEq,beq_self_eq_true,]|((refine aO (id:=1) aC aK [13,14] [13,0,1,2,3,4,5,6,7,8,9,10,11,12,14] (by decide +kernel) ?_);(repeat' (first|(refine bC ?_)|((refine dB ?_ ?_ rfl rfl rfl ?_ ?_);(rotate_left 2);(focus ((repeat' (simp only [*,go_sem,Nat.reduceLT,Nat.reduceLeDiff,Nat.reduceEqDiff,↓reduceIte,Nat.reduceAdd,]));((refine And.intro ?_ ?_ <;> exact rfl))));(simp only [aF,bF]))|((refine dA ?_ rfl rfl rfl ?_ ?_);(rotate_left 1);(focus ((repeat' (first|exact bI|refine bA ?_ ?_));(all_goals ((repeat' (first|simp only [*,go_sem,Nat.reduceLT,Nat.reduceLeDiff,Nat.reduceEqDiff,↓reduceIte,Nat.reduceAdd,sv_i]|((with_reducible refine aQ (hpk) ?_ ?_ ?_);exact rfl;exact rfl)|((with_reducible refine cH (hsd) ?_ ?_ ?_);exact rfl;exact fun _=>rfl)));(try (exact rfl))))));(simp only [aF])))))|((with_reducible refine cH (hsq) ?_ ?_ ?_);exact rfl;exact fun _=>rfl)|((with_reducible refine aQ (hti) ?_ ?_ ?_);exact rfl;exact rfl)|((with_reducible refine cH (hf1) ?_ ?_ ?_);exact rfl;exact fun _=>rfl)|((with_reducible refine cH (hf2) ?_ ?_ ?_);exact rfl;exact fun _=>rfl)|((with_reducible refine aQ (hpm) ?_ ?_ ?_);exact rfl;exact rfl)|((with_reducible refine aQ (hp4) ?_ ?_ ?_);exact rfl;exact rfl)|((with_reducible refine aQ (hp3) ?_ ?_ ?_);exact rfl;exact rfl)|((with_reducible refine aQ (hpn) ?_ ?_ ?_);exact rfl;exact rfl)|((with_reducible refine cH (hnd) ?_ ?_ ?_);exact rfl;exact fun _=>rfl)|with_reducible refine aR (fun _=>?_) (fun _=>?_)|((with_reducible refine And.intro ?_ ?_);omega))
   all_goals first|exact .inr ⟨_,rfl⟩|(rw [List.take_of_length_le (by simp)])
 cases h41:(xh.tmod 41 == 40)
 ·obtain ⟨k,hk⟩:=zHs zBO (xk % 24).toNat;exact ⟨_,key k (.inr ⟨h41,hk⟩)⟩
 ·exact ⟨_,key _ (.inl ⟨h41,rfl⟩)⟩
end Go.Proofs.YtlbfnbldeefgmaaGreatDoor
end
section
namespace Go.Proofs.YtlbfnbldeefgmaaGreatDoor
open Go Go.Dm
set_option maxRecDepth 100000
set_option maxHeartbeats 4000000
theorem zHe {a:List It} (ha:a.length≤1000000):aA Tryz.prog 16 [.c (.p (.sl 5 (aZ a))),.c (.p (.sl 5 (aZ a)))] [] fun r h=>r=.c (.p (.b true))∧h=[]:=by
 refine ent aC aK Tryz.func16 rfl rfl fun X0 hX=>?_;simp only [Tryz.f16,go_sem]
 repeat' (simp only [*,go_sem,Nat.reduceLT,Nat.reduceEqDiff,↓reduceIte,bne_self_eq_false])
 refine bQ aC aK (α:=Nat) (fun k=>⟨42,[(0,.c (.p (.sl 5 (aZ a)))),(1,.c (.p (.sl 5 (aZ a)))),(5,.c (.p (.i .i64 k)))],[]⟩)
  (fun k=>k≤a.length) (fun k=>a.length-k) 0 (Nat.zero_le _) (.inl (aJ (by rw [hX];rfl) rfl rfl (by simp [aH,aN,aD,aL,aG,]))) ?_
 intro k hk;by_cases hlt:k<a.length
 ·have hx:a[k]? = some a[k]:=List.getElem?_eq_getElem hlt;have hg:=dD hx;have h1:decide ((k:Int)<(a.length:Int))=true:=decide_eq_true (by omega);have hli:(k:Int)<(a.length:Int):=by omega
  have hk0:(0:Int)≤k:=by omega
  have w1:IntKind.i64.wrap ((k:Int)+1)=k+1:=wrap_i64 (by omega) (by omega);generalize a[k]=x at hx hg;have e1:=oM x.n;clear hx
  repeat' (first|simp only [*,go_sem,Nat.reduceLT,Nat.reduceEqDiff,↓reduceIte,]|((refine aO (id:=6) aC aK [] [0,1,2,3,4,5,6,7,8,9,10,11,12,13,14,15,16,17,18,19,20,21,22,23,24] (by decide +kernel) ?_);(repeat' (first|(refine bC ?_)|((refine dF ?_ rfl rfl ?_ ?_);(rotate_left 1);(focus ((repeat' (first|simp only [*,go_sem,Nat.reduceLT,Nat.reduceLeDiff,Nat.reduceEqDiff,↓reduceIte,Nat.reduceAdd,beq_self_eq_true,Bool.not_true]|((with_reducible refine aQ (VE) ?_ ?_ ?_);exact rfl;exact rfl)));exact rfl));(simp only [aF]))))))
  exact jC (k+1) (by omega) (by omega) (aJ rfl rfl rfl (by simp [aH,aN,aD,aL,aG,]))
 ·have h1:decide ((k:Int)<(a.length:Int))=false:=decide_eq_false (by omega)
  repeat' (simp only [*,go_sem,Nat.reduceLT,Nat.reduceEqDiff,↓reduceIte,])
end Go.Proofs.YtlbfnbldeefgmaaGreatDoor
end
section
namespace Go.Dm
open Go
def vS (k:Nat):List UInt8:=[118,UInt8.ofNat (97+k)]
def dpL (T:Nat→List It) (t:List It) (k:Nat):List (Ly × List It) :=
 (⟨1,0,0,true⟩,[])::((List.range k).map (fun (j:Nat)=>((⟨(j:Int)+2,(j:Int)+1,0,true⟩:Ly),T j))++[(⟨(k:Int)+2,(k:Int)+1,0,false⟩,t)])
def dpD (T:Nat→List It) (t:List It) (k:Nat):Dr:=⟨dpL T t k,⟨dP,(k:Int)+2⟩::(List.range k).map (fun (j:Nat)=>⟨vS j,(j:Int)+2⟩),(k:Int)+3⟩
theorem zFP {P:Nat→Prop} (h0:P 0) (h1:P 1) (h2:P 2) (h3:P 3) (h4:P 4) (h5:P 5) (h6:P 6) (h7:P 7) (h8:P 8) (h9:P 9) (h10:P 10):∀ k,k≤10→P k
 | 0,_=>h0
 | 1,_=>h1
 | 2,_=>h2
 | 3,_=>h3
 | 4,_=>h4
 | 5,_=>h5
 | 6,_=>h6
 | 7,_=>h7
 | 8,_=>h8
 | 9,_=>h9
 | 10,_=>h10
 | k+11,h=>absurd h (by omega)
theorem YJ (T:Nat→List It) (t:List It) (k:Nat) (hk:k<10):gM (dpD T t k) dP (vS k)=(dpD (fun j=>if j=k then t else T j) t (k+1),0):=by
 refine zFP (P:=fun k=>k<10→gM (dpD T t k) dP (vS k)=(dpD (fun j=>if j=k then t else T j) t (k+1),0)) ?_ ?_ ?_ ?_ ?_ ?_ ?_ ?_ ?_ ?_ (fun h=>absurd h (by decide)) k (Nat.le_of_lt hk) hk
 all_goals (intro _;kernel_rfl)
theorem zGo (T:Nat→List It) (t:List It):∀ k,k<5→gM (dpD T t 10) dP (vS (k+10))=(dpD T t 10,15)
 | 0,_=>by kernel_rfl
 | 1,_=>by kernel_rfl
 | 2,_=>by kernel_rfl
 | 3,_=>by kernel_rfl
 | 4,_=>by kernel_rfl
 | k+5,h=>absurd h (by omega)
theorem YK (T:Nat→List It) (t:List It) (k:Nat) (hk:k≤10):gN (dpD T t k).N dP=(k:Int)+2∧pP (dpD T t k) ((k:Int)+2)=some (⟨(k:Int)+2,(k:Int)+1,0,false⟩,t)∧∀ t',qN ((k:Int)+2) t' (dpL T t k)=dpL T t' k:=by
 refine zFP (P:=fun k=>gN (dpD T t k).N dP=(k:Int)+2∧pP (dpD T t k) ((k:Int)+2)=some (⟨(k:Int)+2,(k:Int)+1,0,false⟩,t)∧∀ t',qN ((k:Int)+2) t' (dpL T t k)=dpL T t' k) ?_ ?_ ?_ ?_ ?_ ?_ ?_ ?_ ?_ ?_ ?_ k hk
 all_goals refine ⟨?_,?_,fun t'=>?_⟩ <;> kernel_rfl
section
variable {r:Rm} {T:Nat→List It} {t:List It} {k:Nat}
theorem YL (h:Sim r (dpD T t k)) (hk:k≤10):oO r dP=(t,0)∧OkT t:=by
 obtain ⟨h1,h2,_⟩:=YK T t k hk;have h0:(((k:Int)+2) == 0)=false:=by simp;omega
 have e:rV (dpD T t k) dP=(t,0):=by
  unfold rV dJ;rw [h1,h0,h2];rfl
 have:=zB7 h.toOkW dP;rw [e] at this;exact ⟨(VP h.toSimW dP).trans e,this⟩
theorem zJI (h:Sim r (dpD T t k)) (hk:k≤10) {c:Cl} (hc:OkC c):∃ r' a t',RL r dP c=(r',a)∧Sim r' (dpD T t' k):=by
 obtain ⟨h1,h2,h3⟩:=YK T t k hk;have h0:(((k:Int)+2) == 0)=false:=by simp;omega
 have hf:rH (dpD T t k) ((k:Int)+2)=false:=by unfold rH;rw [h2]
 have e:∃ t',(doD (dpD T t k) dP c).1=dpD T t' k:=by
  unfold doD;rw [h1,h0,hf];simp only [Bool.false_eq_true,if_false,Bool.false_and];split
  ·exact ⟨t,rfl⟩
  ·refine ⟨(doR (dJ (dpD T t k) ((k:Int)+2)) c).1,?_⟩;show (⟨qN _ _ (dpL T t k),_,_⟩:Dr)=_;rw [h3];rfl
 obtain ⟨t',e⟩:=e;have:=(zFs h dP hc.t).2;rw [e] at this;exact ⟨_,_,t',rfl,this⟩
theorem zIm (h:Sim r (dpD T t k)) (hk:k<10):∃ r' T',fD r dP (vS k)=(r',0)∧Sim r' (dpD T' t (k+1)):=by
 obtain ⟨r',h1,h2⟩:=uY h (YJ T t k hk);exact ⟨r',_,h1,h2⟩
theorem SA {s sn:List UInt8} (h:(fD r s sn).2≠0):(fD r s sn).1=r:=by
 unfold fD at h ⊢
 repeat' split
 all_goals first
  | rfl
  | (exfalso;revert h;simp_all)
theorem zJJ (h:Sim r (dpD T t 10)) (hk:10≤k) (hk2:k<15):fD r dP (vS k)=(r,15):=by
 obtain ⟨j,rfl⟩:∃ j,k=j+10:=⟨k-10,by omega⟩
 have h1:=(yP h dP (vS (j+10))).1;rw [zGo T t j (by omega)] at h1;exact Prod.ext (SA (by rw [h1];exact (by decide:(15:Int)≠0))) h1
end
end Go.Dm
end
section
namespace Go.Proofs.YtlbfnbldeefgmaaGreatDoor
open Go Go.Dm Go.Proofs
set_option maxRecDepth 100000
set_option maxHeartbeats 16000000
theorem zCL {r r':Rm} {d:Dr} {s:List UInt8} {c:Cl} {a:An} (h:Sim r d) (hc:OkC c) (he:RL r s c=(r',a)):
  aA Tryz.prog 10 [.c (.ptr 0 0),.c (.p (.s s)),.agg (clv c)] (cB r) fun d h=>d=.agg (anv a)∧h=cB r':=by
 obtain ⟨ck,cp,cq,cm,ct,ca,cn,cd⟩:=c;exact zKB h hc.t hc.p hc.d hc.q hc.a he
theorem RF {r:Rm} {T:Nat→List It} {t:List It} {i:Nat} {l:List RC} (hs:Sim r (dpD T t (min i 10))) (hd:∀ x∈l,x.d.length≤9223372036854775807) (hsl:∀ x∈l,x.s.length≤9223372036854775807) (hx:∀ x∈l,x.x<18446744073709551616):
  ∃ (r1:Rm) (t1:List It),Sim r1 (dpD T t1 (min i 10))∧((∃ (x:RC) (c:Cl) (a:An),l[i]? = some x∧(aA Tryz.prog 11 [.agg (rcv x)] [] fun d h=>d=.agg (clv c)∧h=[]) ∧
   aA Tryz.prog 10 [.c (.ptr 0 0),.c (.p (.s dP)),.agg (clv c)] (cB r) fun d h=>d=.agg (anv a)∧h=cB r1)∨(l.length≤i∧r1=r)):=by
 by_cases h:i<l.length
 ·have hm:=List.getElem_mem h;obtain ⟨k,hcall⟩:=zH3 (x:=l[i]) (hsl _ hm) (hd _ hm);have hok:=zCM (k:=k) (x:=l[i]) (hsl _ hm) (hx _ hm);obtain ⟨r1,a,t1,e1,s1⟩:=zJI hs (Nat.min_le_right _ _) hok;exact ⟨r1,t1,s1,.inl ⟨l[i],_,a,List.getElem?_eq_getElem h,hcall,zCL hs hok e1⟩⟩
 ·exact ⟨r,t,hs,.inr ⟨by omega,rfl⟩⟩
theorem zCT {r:Rm} {T:Nat→List It} {t:List It} {i:Nat} (hs:Sim r (dpD T t (min i 10))) (hi:i<15):
  ∃ (r2:Rm) (e:Int) (T2:Nat→List It),fD r dP (vS i)=(r2,e)∧Sim r2 (dpD T2 t (min (i+1) 10))∧((i<10∧e=0)∨(10≤i∧e=15∧r2=r)):=by
 by_cases h:i<10
 ·rw [Nat.min_eq_left (by omega)] at hs;obtain ⟨r2,T2,e2,s2⟩:=zIm hs h;rw [Nat.min_eq_left (by omega)];exact ⟨r2,0,T2,e2,s2,.inl ⟨h,rfl⟩⟩
 ·rw [Nat.min_eq_right (by omega)] at hs;rw [Nat.min_eq_right (by omega)];exact ⟨r,15,T,zJJ hs (by omega) hi,hs,.inr ⟨by omega,rfl,rfl⟩⟩
theorem XO:∀ i:Nat,i<15→bytesOf [[PV.i .u8 (IntKind.u8.wrap (97+(i:Int)))]]=some [UInt8.ofNat (97+i)]:=by decide
theorem HQ {l:List RC} (hl:l.length≤9223372036854775807) (hd:∀ x∈l,x.d.length≤9223372036854775807) (hsl:∀ x∈l,x.s.length≤9223372036854775807) (hx:∀ x∈l,x.x<18446744073709551616):
  aA Tryz.prog 3 [.c (.p (.sl 11 (FN l)))] [] fun r h=>r=.c (.p (.b true))∧h=[]:=by
 refine ent aC aK Tryz.func3 rfl rfl fun X0 hX=>?_;simp only [Tryz.f3,go_sem]
 repeat' (first|simp only [*,go_sem,Nat.reduceLT,Nat.reduceEqDiff,↓reduceIte,Bool.not_true]|((with_reducible refine aS [] (HS) ?_ ?_ ?_ ?_);exact rfl;exact rfl;(focus ((simp only [go_sem];done))))|((with_reducible refine aQ (zAM) ?_ ?_ ?_);exact rfl;exact rfl))
 refine dS aC aK (α:=Nat × Rm) (fun x=>⟨79,[(0,.c (.p (.sl 11 (FN l)))),(3,.c (.ptr 0 0)),(4,.c (.p (.i .i64 x.1)))],[.box [.own 1 0 x.2.N.length,.own 2 0 x.2.L.length,.mp 3,.p (.i .i64 x.2.x)],.arr 2 (bJ x.2.N) false,.arr 4 (cY x.2.L) false,.mp (nN x.2.E)]⟩)
  (fun x=>x.1≤15∧∃ T t,Sim x.2 (dpD T t (min x.1 10))) (fun x=>15-x.1) (0,zHW) ⟨Nat.zero_le _,fun _=>[],[],LW⟩ (cM (aJ (by rw [hX];rfl) rfl rfl (by simp only [aH,aN];(repeat' (first|exact rfl|exact True.intro|refine And.intro ?_ ?_))))) ?_
 rintro ⟨i,r⟩ ⟨hi,T,t,hs⟩;simp only at hi hs ⊢;by_cases hlt:i<15
 ·obtain ⟨r1,t1,s1,hdo⟩:=RF hs hd hsl hx;obtain ⟨et,okt⟩:=YL s1 (Nat.min_le_right _ _);obtain ⟨r2,e,T2,ef,s2,hfz⟩:=zCT s1 hlt;have ct:=zFO s1 et;have cc:=TX s1.okR;have cf:=PD (s:=dP) (sn:=vS i) s1 (by simp [vS]) ef;have ct2:=zFO s2 (YL s2 (Nat.min_le_right _ _)).1;have cs:=VC s2.okR;have cT:=zHe (a:=t1) (Nat.le_trans okt.len (by decide));have hfin:∃ T t,Sim r2 (dpD T t (min (i+1) 10)):=⟨_,_,s2⟩;have hfin:=PLift.up hfin;have h1:decide ((i:Int)<15)=true:=decide_eq_true (by omega);have h3:(0:Int)≤i:=by omega
  have w1:IntKind.i64.wrap ((i:Int)+1)=i+1:=wrap_i64 (by omega) (by omega);have w2:IntKind.i64.wrap ((i:Int)+2)=i+2:=wrap_i64 (by omega) (by omega);have w3:IntKind.i64.wrap (97+(i:Int))=97+i:=wrap_i64 (by omega) (by omega);clear hs s1 s2 et okt ef hd hsl hx hi;have hby:=XO i hlt;have hvl:(1:Int)+(([UInt8.ofNat (97+i)]:List UInt8).length:Int)≤9223372036854775807:=by simp
  unfold vS at cf;unfold TW at cc cs;rcases hdo with ⟨x,c,a,hxx,hcall,hdo⟩|⟨hge,rfl⟩
  ·have h5:decide ((i:Int)<(l.length:Int))=true:=decide_eq_true (by have:=(List.getElem?_eq_some_iff.1 hxx).1;omega);have h6:(i:Int)<(l.length:Int):=by have:=(List.getElem?_eq_some_iff.1 hxx).1;omega
   have hg:=zDB hxx;clear hxx;rcases hfz with ⟨g1,rfl⟩|⟨g1,rfl,rfl⟩
   ·have h7:decide ((i:Int)+2<12)=true:=decide_eq_true (by omega);clear cs
    repeat' (first|simp only [*,go_sem,Nat.reduceLT,Nat.reduceLeDiff,Nat.reduceEqDiff,↓reduceIte,Nat.reduceAdd,Nat.reduceSub,beq_self_eq_true,bne_self_eq_false,Bool.not_true]|((with_reducible refine cH (hcall) ?_ ?_ ?_);exact rfl;exact fun _=>rfl)|((with_reducible refine aS [0,1,2,3] (hdo) ?_ ?_ ?_ ?_);exact rfl;exact rfl;(focus ((simp only [go_sem];done))))|((with_reducible refine aS [0,1,2,3] (ct) ?_ ?_ ?_ ?_);exact rfl;exact rfl;(focus ((simp only [go_sem];done))))|((with_reducible refine aS [0,1,2,3] (cc) ?_ ?_ ?_ ?_);exact rfl;exact rfl;(focus ((simp only [go_sem];done))))|((with_reducible refine aS [0,1,2,3] (cf) ?_ ?_ ?_ ?_);exact rfl;exact rfl;(focus ((simp only [go_sem];done))))|((with_reducible refine aS [0,7,8,9] (ct2) ?_ ?_ ?_ ?_);exact rfl;exact rfl;(focus ((simp only [go_sem];done))))|((with_reducible refine aQ (cT) ?_ ?_ ?_);exact rfl;exact rfl)|((with_reducible refine And.intro ?_ ?_);decide))
    exact mM (i+1,r2) ⟨by simp only;omega,hfin.down⟩ (by simp only;omega) (dO (fY [0,7,8,9] rfl (by simp only [fQ,gU,fP,lX];(repeat' (first|exact rfl|exact True.intro|refine And.intro ?_ ?_))) rfl (by simp only [gQ,lH];(repeat' (first|exact rfl|exact True.intro|refine And.intro ?_ ?_)))))
   ·have h7:decide ((i:Int)+2<12)=false:=decide_eq_false (by omega)
    repeat' (first|simp only [*,go_sem,Nat.reduceLT,Nat.reduceLeDiff,Nat.reduceEqDiff,↓reduceIte,Nat.reduceAdd,Nat.reduceSub,Int.reduceBEq,Int.reduceBNe,beq_self_eq_true,bne_self_eq_false,Bool.not_true]|((with_reducible refine cH (hcall) ?_ ?_ ?_);exact rfl;exact fun _=>rfl)|((with_reducible refine aS [0,1,2,3] (hdo) ?_ ?_ ?_ ?_);exact rfl;exact rfl;(focus ((simp only [go_sem];done))))|((with_reducible refine aS [0,1,2,3] (ct) ?_ ?_ ?_ ?_);exact rfl;exact rfl;(focus ((simp only [go_sem];done))))|((with_reducible refine aS [0,1,2,3] (cc) ?_ ?_ ?_ ?_);exact rfl;exact rfl;(focus ((simp only [go_sem];done))))|((with_reducible refine aS [0,1,2,3] (cf) ?_ ?_ ?_ ?_);exact rfl;exact rfl;(focus ((simp only [go_sem];done))))|((with_reducible refine aS [0,7,8,9] (ct2) ?_ ?_ ?_ ?_);exact rfl;exact rfl;(focus ((simp only [go_sem];done))))|((with_reducible refine aQ (cT) ?_ ?_ ?_);exact rfl;exact rfl)|((with_reducible refine aS [0,7,8,9,4,5] (cs) ?_ ?_ ?_ ?_);exact rfl;exact rfl;(focus ((simp only [go_sem];done))))|((with_reducible refine And.intro ?_ ?_);decide))
    exact mM (i+1,r2) ⟨by simp only;omega,hfin.down⟩ (by simp only;omega) (dO (fY [0,7,8,9] rfl (by simp only [fQ,gU,fP,lX];(repeat' (first|exact rfl|exact True.intro|refine And.intro ?_ ?_))) rfl (by simp only [gQ,lH];(repeat' (first|exact rfl|exact True.intro|refine And.intro ?_ ?_)))))
  ·have h5:decide ((i:Int)<(l.length:Int))=false:=decide_eq_false (by omega);rcases hfz with ⟨g1,rfl⟩|⟨g1,rfl,rfl⟩
   ·have h7:decide ((i:Int)+2<12)=true:=decide_eq_true (by omega);clear cs
    repeat' (first|simp only [*,go_sem,Nat.reduceLT,Nat.reduceLeDiff,Nat.reduceEqDiff,↓reduceIte,Nat.reduceAdd,Nat.reduceSub,beq_self_eq_true,bne_self_eq_false,Bool.not_true]|((with_reducible refine aS [0,1,2,3] (ct) ?_ ?_ ?_ ?_);exact rfl;exact rfl;(focus ((simp only [go_sem];done))))|((with_reducible refine aS [0,1,2,3] (cc) ?_ ?_ ?_ ?_);exact rfl;exact rfl;(focus ((simp only [go_sem];done))))|((with_reducible refine aS [0,1,2,3] (cf) ?_ ?_ ?_ ?_);exact rfl;exact rfl;(focus ((simp only [go_sem];done))))|((with_reducible refine aS [0,7,8,9] (ct2) ?_ ?_ ?_ ?_);exact rfl;exact rfl;(focus ((simp only [go_sem];done))))|((with_reducible refine aQ (cT) ?_ ?_ ?_);exact rfl;exact rfl)|((with_reducible refine And.intro ?_ ?_);decide))
    exact mM (i+1,r2) ⟨by simp only;omega,hfin.down⟩ (by simp only;omega) (dO (fY [0,7,8,9] rfl (by simp only [fQ,gU,fP,lX];(repeat' (first|exact rfl|exact True.intro|refine And.intro ?_ ?_))) rfl (by simp only [gQ,lH];(repeat' (first|exact rfl|exact True.intro|refine And.intro ?_ ?_)))))
   ·have h7:decide ((i:Int)+2<12)=false:=decide_eq_false (by omega)
    repeat' (first|simp only [*,go_sem,Nat.reduceLT,Nat.reduceLeDiff,Nat.reduceEqDiff,↓reduceIte,Nat.reduceAdd,Nat.reduceSub,Int.reduceBEq,Int.reduceBNe,beq_self_eq_true,bne_self_eq_false,Bool.not_true]|((with_reducible refine aS [0,1,2,3] (ct) ?_ ?_ ?_ ?_);exact rfl;exact rfl;(focus ((simp only [go_sem];done))))|((with_reducible refine aS [0,1,2,3] (cc) ?_ ?_ ?_ ?_);exact rfl;exact rfl;(focus ((simp only [go_sem];done))))|((with_reducible refine aS [0,1,2,3] (cf) ?_ ?_ ?_ ?_);exact rfl;exact rfl;(focus ((simp only [go_sem];done))))|((with_reducible refine aS [0,7,8,9] (ct2) ?_ ?_ ?_ ?_);exact rfl;exact rfl;(focus ((simp only [go_sem];done))))|((with_reducible refine aQ (cT) ?_ ?_ ?_);exact rfl;exact rfl)|((with_reducible refine aS [0,7,8,9,4,5] (cs) ?_ ?_ ?_ ?_);exact rfl;exact rfl;(focus ((simp only [go_sem];done))))|((with_reducible refine And.intro ?_ ?_);decide))
    exact mM (i+1,r2) ⟨by simp only;omega,hfin.down⟩ (by simp only;omega) (dO (fY [0,7,8,9] rfl (by simp only [fQ,gU,fP,lX];(repeat' (first|exact rfl|exact True.intro|refine And.intro ?_ ?_))) rfl (by simp only [gQ,lH];(repeat' (first|exact rfl|exact True.intro|refine And.intro ?_ ?_)))))
 ·have h1:decide ((i:Int)<15)=false:=decide_eq_false (by omega);clear hs hd hsl hx
  repeat' (simp only [*,go_sem,Nat.reduceLT,Nat.reduceEqDiff,↓reduceIte,])
end Go.Proofs.YtlbfnbldeefgmaaGreatDoor
end
