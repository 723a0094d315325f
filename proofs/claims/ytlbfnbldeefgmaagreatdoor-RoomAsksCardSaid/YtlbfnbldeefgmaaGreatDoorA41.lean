/- Part 42 of the proof of roomAsks_card, set without needless blanks. No condition. -/
import Derived.Test.YtlbfnbldeefgmaaGreatDoorA40
import Derived.StringKeys
set_option linter.all false
section
namespace Go.Proofs.YtlbfnbldeefgmaaGreatDoor
open Go Go.Dm
set_option maxRecDepth 100000
set_option maxHeartbeats 4000000
theorem zLJ {p:List UInt8} {ck k m k2 m2:Int} {t t2:Nat} {d d2:List UInt8} (hp:p.length≤1000000000) (ht:t<18446744073709551616) (ht2:t2<18446744073709551616):
  aA Tryz.prog 217 [.agg [.p (.s p),.p (.i .i64 ck),.p (.i .i64 k),.p (.i .i64 m),.p (.f t),.p (.sl 1 (bO d)),.p (.i .i64 k2),.p (.i .i64 m2),.p (.f t2),.p (.sl 1 (bO d2))]] [] fun r h=>r=.c (.p (.b (zIn ⟨p,ck,⟨k,m,t,d⟩,⟨k2,m2,t2,d2⟩⟩)))∧h=[]:=by
 have c1:=zIJ (k:=k) (m:=m) (t:=t) (d:=d);have c2:=zIJ (k:=k2) (m:=m2) (t:=t2) (d:=d2);have c3:=dL (k:=k) (m:=m) (d:=d) ht;have c4:=dL (k:=k2) (m:=m2) (d:=d2) ht2;have c5:=eV hp;have c6:=zLB (k:=k) (m:=m) (t:=t) (d:=d) (k':=k2) (m':=m2) (t':=t2) (d':=d2) (!(ck == 1)) (!(ck == 2));unfold zIn;simp only;generalize sN ⟨k,m,t,d⟩=z1 at c1 ⊢;generalize sN ⟨k2,m2,t2,d2⟩=z2 at c2 ⊢;generalize aS ⟨k,m,t,d⟩=r1 at c3 ⊢;generalize aS ⟨k2,m2,t2,d2⟩=r2 at c4 ⊢;generalize bT p=ip at c5 ⊢;generalize iW (!(ck == 1)) (!(ck == 2)) ⟨k,m,t,d⟩ ⟨k2,m2,t2,d2⟩=kf at c6 ⊢;have n1:(ck != 1) = !(ck == 1):=rfl;have n2:(ck != 2) = !(ck == 2):=rfl;have n0:(ck != 0) = !(ck == 0):=rfl;have n3:(p != []) = !(p == []):=rfl;have hqq:((ck == 1) && (ck == 2))=false:=by
  cases e1:(ck == 1)
  ·rfl
  ·rw [eq_of_beq e1];rfl
 generalize (ck == 1)=q1 at n1 c6 hqq ⊢;generalize (ck == 2)=q2 at n2 c6 hqq ⊢;generalize (ck == 0)=q0 at n0 ⊢;generalize hq8:(kf == ck)=q8;generalize hp0:(p == [])=p0 at n3 ⊢;cases q1 <;> cases q2
 ·simp only [Bool.not_false,Bool.false_or,Bool.or_true,Bool.and_true] at n1 n2 c6 ⊢;clear hqq;refine ent aB aK Tryz.func217 rfl rfl fun X0 hX=>?_;simp only [Tryz.f217,go_sem]
  repeat' (first|simp only [*,go_sem,Nat.reduceLT,↓reduceIte,Bool.not_true,Bool.not_false]|((refine aN (id:=1) aB aK [] [0,1,2,3,4,5,6,7] (by decide +kernel) ?_);(repeat' (first|(refine aT ?_)|((refine bV ?_ rfl rfl ?_ ?_);(rotate_left 1);(focus ((repeat' (simp only [*,go_sem,Nat.reduceLT,Nat.reduceEqDiff,↓reduceIte,]));exact rfl));(simp only [aG])))))|((refine aN (id:=2) aB aK [] [0,1,2,3,4,5,6,7,8,9,10,11,12,13,14,15,16,17,18,19,20,21,22,23,24,25,26,27,28,29,30,31,32,33,34,35,36,37,38,39,40,41,42,43,44,45,46,47,48,49,50,51,52,53,54,55,56,57,58,59] (by decide +kernel) ?_);(repeat' (first|(refine aT ?_)|((refine bV ?_ rfl rfl ?_ ?_);(rotate_left 1);(focus ((repeat' (first|simp only [*,go_sem,Nat.reduceLT,Nat.reduceLeDiff,Nat.reduceEqDiff,↓reduceIte,Nat.reduceAdd,Bool.not_true,Bool.not_false]|((with_reducible refine dM (c1) ?_ ?_ ?_);exact rfl;exact rfl)|((with_reducible refine dM (c2) ?_ ?_ ?_);exact rfl;exact rfl)|((with_reducible refine dM (c3) ?_ ?_ ?_);exact rfl;exact rfl)|((with_reducible refine dM (c4) ?_ ?_ ?_);exact rfl;exact rfl)|((with_reducible refine dM (c5) ?_ ?_ ?_);exact rfl;exact rfl)|((with_reducible refine dM (c6) ?_ ?_ ?_);exact rfl;exact rfl)|with_reducible refine bF (fun _=>?_) (fun _=>?_)));exact rfl));(simp only [aG]))|(cases p0)|(cases ip)|(cases z1)|(cases z2)|(cases r1)|(cases r2)|(cases q0)))))
  all_goals first|(simp;done)|trace_state
 ·simp only [Bool.not_true,Bool.not_false,Bool.false_or,Bool.or_true,Bool.true_or,Bool.or_false,Bool.and_true] at n1 n2 c6 ⊢;clear hqq c4 r2;refine ent aB aK Tryz.func217 rfl rfl fun X0 hX=>?_;simp only [Tryz.f217,go_sem]
  repeat' (first|simp only [*,go_sem,Nat.reduceLT,↓reduceIte,Bool.not_true,Bool.not_false]|((refine aN (id:=1) aB aK [] [0,1,2,3,4,5,6,7] (by decide +kernel) ?_);(repeat' (first|(refine aT ?_)|((refine bV ?_ rfl rfl ?_ ?_);(rotate_left 1);(focus ((repeat' (simp only [*,go_sem,Nat.reduceLT,Nat.reduceEqDiff,↓reduceIte,]));exact rfl));(simp only [aG])))))|((refine aN (id:=2) aB aK [] [0,1,2,3,4,5,6,7,8,9,10,11,12,13,14,15,16,17,18,19,20,21,22,23,24,25,26,27,28,29,30,31,32,33,34,35,36,37,38,39,40,41,42,43,44,45,46,47,48,49,50,51,52,53,54,55,56,57,58,59] (by decide +kernel) ?_);(repeat' (first|(refine aT ?_)|((refine bV ?_ rfl rfl ?_ ?_);(rotate_left 1);(focus ((repeat' (first|simp only [*,go_sem,Nat.reduceLT,Nat.reduceLeDiff,Nat.reduceEqDiff,↓reduceIte,Nat.reduceAdd,Bool.not_true,Bool.not_false]|((with_reducible refine dM (c1) ?_ ?_ ?_);exact rfl;exact rfl)|((with_reducible refine dM (c2) ?_ ?_ ?_);exact rfl;exact rfl)|((with_reducible refine dM (c3) ?_ ?_ ?_);exact rfl;exact rfl)|((with_reducible refine dM (c5) ?_ ?_ ?_);exact rfl;exact rfl)|((with_reducible refine dM (c6) ?_ ?_ ?_);exact rfl;exact rfl)|with_reducible refine bF (fun _=>?_) (fun _=>?_)));exact rfl));(simp only [aG]))|(cases p0)|(cases ip)|(cases z1)|(cases z2)|(cases r1)|(cases q0)))))
  all_goals first|(simp;done)|trace_state
 ·simp only [Bool.not_true,Bool.not_false,Bool.false_or,Bool.or_true,Bool.true_or,Bool.or_false,Bool.and_true] at n1 n2 c6 ⊢;clear hqq c3 r1;refine ent aB aK Tryz.func217 rfl rfl fun X0 hX=>?_;simp only [Tryz.f217,go_sem]
  repeat' (first|simp only [*,go_sem,Nat.reduceLT,↓reduceIte,Bool.not_true,Bool.not_false]|((refine aN (id:=1) aB aK [] [0,1,2,3,4,5,6,7] (by decide +kernel) ?_);(repeat' (first|(refine aT ?_)|((refine bV ?_ rfl rfl ?_ ?_);(rotate_left 1);(focus ((repeat' (simp only [*,go_sem,Nat.reduceLT,Nat.reduceEqDiff,↓reduceIte,]));exact rfl));(simp only [aG])))))|((refine aN (id:=2) aB aK [] [0,1,2,3,4,5,6,7,8,9,10,11,12,13,14,15,16,17,18,19,20,21,22,23,24,25,26,27,28,29,30,31,32,33,34,35,36,37,38,39,40,41,42,43,44,45,46,47,48,49,50,51,52,53,54,55,56,57,58,59] (by decide +kernel) ?_);(repeat' (first|(refine aT ?_)|((refine bV ?_ rfl rfl ?_ ?_);(rotate_left 1);(focus ((repeat' (first|simp only [*,go_sem,Nat.reduceLT,Nat.reduceLeDiff,Nat.reduceEqDiff,↓reduceIte,Nat.reduceAdd,Bool.not_true,Bool.not_false]|((with_reducible refine dM (c1) ?_ ?_ ?_);exact rfl;exact rfl)|((with_reducible refine dM (c2) ?_ ?_ ?_);exact rfl;exact rfl)|((with_reducible refine dM (c4) ?_ ?_ ?_);exact rfl;exact rfl)|((with_reducible refine dM (c5) ?_ ?_ ?_);exact rfl;exact rfl)|((with_reducible refine dM (c6) ?_ ?_ ?_);exact rfl;exact rfl)|with_reducible refine bF (fun _=>?_) (fun _=>?_)));exact rfl));(simp only [aG]))|(cases p0)|(cases ip)|(cases z1)|(cases z2)|(cases r2)|(cases q0)))))
  all_goals first|(simp;done)|trace_state
 ·cases hqq
theorem JO {l:List Ch} (hl:l.length≤1000000) (hp:∀ x∈l,x.p.length≤1000000000∧x.o.t<18446744073709551616∧x.n.t<18446744073709551616):
  aA Tryz.prog 153 [.c (.p (.sl 10 (pD l)))] [] fun r h=>r=.c (.p (.b (gY l)))∧h=[]:=by
 refine ent aB aK Tryz.func153 rfl rfl fun X0 hX=>?_;simp only [Tryz.f153,go_sem]
 repeat' (simp only [*,go_sem,Nat.reduceLT,Nat.reduceEqDiff,↓reduceIte,])
 refine aY aB aK (α:=Nat) (fun k=>⟨32,[(0,.c (.p (.sl 10 (pD l)))),(5,.c (.p (.sl 10 (pD l)))),(6,.c (.p (.i .i64 l.length))),(7,.c (.p (.i .i64 k)))],[]⟩)
  (fun k=>k≤l.length∧eA (qM l k) (l.drop k)=gY l) (fun k=>l.length-k) 0 ⟨Nat.zero_le _,rfl⟩ (.inl (aI (by rw [hX];rfl) rfl rfl (by simp [aH,aL,aD,aJ,aF,]))) ?_
 rintro k ⟨hk,hgo⟩;by_cases hlt:k<l.length
 ·have hx:l[k]? = some l[k]:=List.getElem?_eq_getElem hlt;have hg:=ET hx;have h1:decide ((k:Int)<(l.length:Int))=true:=decide_eq_true (by omega);have w1:IntKind.i64.wrap ((k:Int)+1)=k+1:=wrap_i64 (by omega) (by omega);have hki:(k:Int)<(l.length:Int):=by omega
  have hk0:(0:Int)≤k:=by omega
  have prev:(decide ((0:Int)<k)=false∧sS (qM l k) l[k].p=true)∨∃ m:Nat,∃ y:Ch,decide ((0:Int)<k)=true∧IntKind.i64.wrap ((k:Int)-1)=(m:Int)∧(m:Int)<l.length∧l[m]? = some y∧decide (HL l[k].p y.p≤0) = !sS (qM l k) l[k].p:=by
   by_cases h0:0<k
   ·have hmk:k-1<l.length:=by omega
    refine .inr ⟨k-1,l[k-1],decide_eq_true (by omega),?_,by omega,List.getElem?_eq_getElem hmk,?_⟩
    ·rw [wrap_i64 (by omega) (by omega)];omega
    ·rw [zIW];have e:qM l k=some l[k-1].p:=by
      have:=wN (List.getElem?_eq_getElem hmk);rw [show k-1+1=k by omega] at this
      exact this
     rw [e];rfl
   ·refine .inl ⟨decide_eq_false (by omega),?_⟩;have:k=0:=by omega
    subst this;rfl
  have hdr:l.drop k=l[k]::l.drop (k+1):=List.drop_eq_getElem_cons hlt;have hnx:=wN hx;rw [hdr,eA,← hnx] at hgo;obtain ⟨p1,p2,p3⟩:=hp _ (List.getElem_mem hlt);have hc:=zLJ (p:=l[k].p) (ck:=l[k].k) (k:=l[k].o.k) (m:=l[k].o.m) (t:=l[k].o.t) (d:=l[k].o.d) (k2:=l[k].n.k) (m2:=l[k].n.m) (t2:=l[k].n.t) (d2:=l[k].n.d) p1 p2 p3;have e5:Ch.mk l[k].p l[k].k ⟨l[k].o.k,l[k].o.m,l[k].o.t,l[k].o.d⟩ ⟨l[k].n.k,l[k].n.m,l[k].n.t,l[k].n.d⟩=l[k]:=rfl;rw [e5] at hc;clear hnx hdr hp e5;generalize sS (qM l k) l[k].p=a3 at prev hgo;generalize l[k]=x at hx hg prev hc hgo p1;generalize zIn x=mc at hc hgo;cases mc
  ·have hf:gY l=false:=by rw [← hgo];rfl
   rw [hf];clear hf hgo;rcases prev with ⟨b1,rfl⟩|⟨m,y,b1,b2,b3,b4,b5⟩
   ·repeat' (first|simp only [*,go_sem,Nat.reduceLT,Nat.reduceLeDiff,Nat.reduceEqDiff,↓reduceIte,Nat.reduceAdd,]|((refine aN (id:=4) aB aK [] [0,1,2,3,4,5,6,7,8,9,10,11,12,13,14,15,16,17,18] (by decide +kernel) ?_);(repeat' (first|(refine aT ?_)|((refine bV ?_ rfl rfl ?_ ?_);(rotate_left 1);(focus ((repeat' (first|simp only [*,go_sem,Nat.reduceLT,Nat.reduceLeDiff,Nat.reduceEqDiff,↓reduceIte,Nat.reduceAdd,Bool.not_false]|((with_reducible refine dM (hc) ?_ ?_ ?_);exact rfl;exact rfl)));exact rfl));(simp only [aG]))))))
   ·have hgy:=ET b4
    repeat' (first|simp only [*,go_sem,Nat.reduceLT,Nat.reduceLeDiff,Nat.reduceEqDiff,↓reduceIte,Nat.reduceAdd,]|((refine aN (id:=4) aB aK [] [0,1,2,3,4,5,6,7,8,9,10,11,12,13,14,15,16,17,18] (by decide +kernel) ?_);(repeat' (first|(refine aT ?_)|((refine bV ?_ rfl rfl ?_ ?_);(rotate_left 1);(focus ((repeat' (first|simp only [*,go_sem,Nat.reduceLT,Nat.reduceLeDiff,Nat.reduceEqDiff,↓reduceIte,Nat.reduceAdd,Bool.not_false]|((with_reducible refine dM (hc) ?_ ?_ ?_);exact rfl;exact rfl)));exact rfl));(simp only [aG]))))))
  ·rcases prev with ⟨b1,rfl⟩|⟨m,y,b1,b2,b3,b4,b5⟩
   ·have hJ:k+1≤l.length∧eA (qM l (k+1)) (l.drop (k+1))=gY l:=⟨by omega,by rw [← hgo];simp⟩
    clear hgo
    repeat' (first|simp only [*,go_sem,Nat.reduceLT,Nat.reduceLeDiff,Nat.reduceEqDiff,↓reduceIte,Nat.reduceAdd,]|((refine aN (id:=4) aB aK [] [0,1,2,3,4,5,6,7,8,9,10,11,12,13,14,15,16,17,18] (by decide +kernel) ?_);(repeat' (first|(refine aT ?_)|((refine bV ?_ rfl rfl ?_ ?_);(rotate_left 1);(focus ((repeat' (first|simp only [*,go_sem,Nat.reduceLT,Nat.reduceLeDiff,Nat.reduceEqDiff,↓reduceIte,Nat.reduceAdd,Bool.not_true]|((with_reducible refine dM (hc) ?_ ?_ ?_);exact rfl;exact rfl)));exact rfl));(simp only [aG]))))))
    exact fD (k+1) hJ (by omega) (aI rfl rfl rfl (by simp [aH,aL,aD,aJ,aF,]))
   ·have hgy:=ET b4;have hm0:(0:Int)≤m:=by omega
    cases a3
    ·have hf:gY l=false:=by rw [← hgo];rfl
     rw [hf];rw [Bool.not_false] at b5;clear hf hgo b4
     repeat' (first|simp only [*,go_sem,Nat.reduceLT,Nat.reduceLeDiff,Nat.reduceEqDiff,↓reduceIte,Nat.reduceAdd,]|((refine aN (id:=4) aB aK [] [0,1,2,3,4,5,6,7,8,9,10,11,12,13,14,15,16,17,18] (by decide +kernel) ?_);(repeat' (first|(refine aT ?_)|((refine bV ?_ rfl rfl ?_ ?_);(rotate_left 1);(focus ((repeat' (first|simp only [*,go_sem,Nat.reduceLT,Nat.reduceLeDiff,Nat.reduceEqDiff,↓reduceIte,Nat.reduceAdd,Bool.not_true]|((with_reducible refine dM (hc) ?_ ?_ ?_);exact rfl;exact rfl)|((with_reducible refine dM (jX) ?_ ?_ ?_);exact rfl;exact rfl)));exact rfl));(simp only [aG]))))))
    ·have hJ:k+1≤l.length∧eA (qM l (k+1)) (l.drop (k+1))=gY l:=⟨by omega,by rw [← hgo];simp⟩
     rw [Bool.not_true] at b5;clear hgo b4
     repeat' (first|simp only [*,go_sem,Nat.reduceLT,Nat.reduceLeDiff,Nat.reduceEqDiff,↓reduceIte,Nat.reduceAdd,]|((refine aN (id:=4) aB aK [] [0,1,2,3,4,5,6,7,8,9,10,11,12,13,14,15,16,17,18] (by decide +kernel) ?_);(repeat' (first|(refine aT ?_)|((refine bV ?_ rfl rfl ?_ ?_);(rotate_left 1);(focus ((repeat' (first|simp only [*,go_sem,Nat.reduceLT,Nat.reduceLeDiff,Nat.reduceEqDiff,↓reduceIte,Nat.reduceAdd,Bool.not_true]|((with_reducible refine dM (hc) ?_ ?_ ?_);exact rfl;exact rfl)|((with_reducible refine dM (jX) ?_ ?_ ?_);exact rfl;exact rfl)));exact rfl));(simp only [aG]))))))
     exact fD (k+1) hJ (by omega) (aI rfl rfl rfl (by simp [aH,aL,aD,aJ,aF,]))
 ·have h1:decide ((k:Int)<(l.length:Int))=false:=decide_eq_false (by omega);rw [List.drop_of_length_le (by omega),eA] at hgo;rw [← hgo];clear hgo
  repeat' (simp only [*,go_sem,Nat.reduceLT,Nat.reduceEqDiff,↓reduceIte,])
end Go.Proofs.YtlbfnbldeefgmaaGreatDoor
end
section
namespace Go.Dm
open Go Go.WideMaps Go.MapKept Go.WideShapes
def DN (k:List UInt8):Value:=.string ⟨k.toArray⟩
theorem XC {k k':List UInt8} (h:DN k=DN k'):k=k':=by
 simp only [DN,Value.string.injEq,ByteArray.mk.injEq] at h;exact List.toArray_inj h
def qL (w:World) (b:Nat) (ks:List (List UInt8)):Prop:=∃ es clock,w.heap[b]? = some (.map es clock) ∧
 (∀ e∈es.toList,∃ k∈ks,e.key=DN k∧e.val=.bool true)∧∀ k∈ks,k.length≤maxLen∧∃ e∈es.toList,e.key=DN k
theorem qL.keys {P:Program} {kt:TypeId} (hk:P.underlying kt=some .string) {es:Array MapEntry} {ks:List (List UInt8)} (h1:∀ e∈es.toList,∃ k∈ks,e.key=DN k∧e.val=.bool true) (h2:∀ k∈ks,k.length≤maxLen∧∃ e∈es.toList,e.key=DN k):
  ∀ e∈es.toList,∃ l,keyOf P kt e.key=some l:=fun e he=>by
 obtain ⟨k,hk',he1,_⟩:=h1 e he;rw [he1];exact ⟨_,keyOf_string_mk hk (by show k.toArray.size≤maxLen;simpa using (h2 k hk').1)⟩
theorem zGV {P:Program} {t kt et:TypeId} (ht:P.underlying t=some (.map kt et)) (hk:P.underlying kt=some .string) {w:World} {b:Nat} {ks:List (List UInt8)} (hz:(zeroValue et).run P w=.ok (.bool false) w) (h:qL w b ks) {k:List UInt8} (hl:k.length≤maxLen):
  (Instr.lookup t (.map (some b)) (DN k) false).run P w=.ok (.bool (ks.contains k)) w:=by
 obtain ⟨es,clock,hb,h1,h2⟩:=h;have K:=string_law hk;have hkey:keyOf P kt (DN k)=some (.string k):=keyOf_string_mk hk (by show k.toArray.size≤maxLen;simpa using hl);rcases K.find w hkey es.toList (qL.keys hk h1 h2) with ⟨f1,f2⟩|⟨j,e,f1,f2,f3⟩
 ·have hc:ks.contains k=false:=by
   rw [Bool.eq_false_iff];intro hc;obtain ⟨_,e,he,hek⟩:=h2 k (by simpa using hc);exact f2 e he hek
  rw [hc];simp [Instr.lookup,run_underlying ht,MapKept.run_getObj_map hb,K.check w _ hkey,f1,hz,Result.andThen]
 ·obtain ⟨k',hk',he1,he2⟩:=h1 e (List.mem_of_getElem? f2);have:k'=k:=XC (he1.symm.trans f3);subst this;have hc:ks.contains k'=true:=by simpa using hk'
  rw [hc];simp [Instr.lookup,run_underlying ht,MapKept.run_getObj_map hb,K.check w _ hkey,f1,he2,Result.andThen]
theorem zJP {P:Program} {t kt et:TypeId} (ht:P.underlying t=some (.map kt et)) (hk:P.underlying kt=some .string) {w:World} {b:Nat} {ks:List (List UInt8)} (h:qL w b ks) {k:List UInt8} (hl:k.length≤maxLen):
  ∃ o,(Instr.mapUpdate t (.map (some b)) (DN k) (.bool true)).run P w=.ok () { w with heap:=w.heap.setIfInBounds b o }∧qL { w with heap:=w.heap.setIfInBounds b o } b (k::ks):=by
 obtain ⟨es,clock,hb,h1,h2⟩:=h;have K:=string_law hk;have hlt:b<w.heap.size:=(Array.getElem?_eq_some_iff.1 hb).1;have hat:∀ o:Obj,({ w with heap:=w.heap.setIfInBounds b o }:World).heap[b]? = some o:=fun o=>by
  show (w.heap.setIfInBounds b o)[b]? = some o;rw [Array.getElem?_setIfInBounds_self_of_lt hlt]
 have hkey:keyOf P kt (DN k)=some (.string k):=keyOf_string_mk hk (by show k.toArray.size≤maxLen;simpa using hl);rcases K.find w hkey es.toList (qL.keys hk h1 h2) with ⟨f1,f2⟩|⟨j,e,f1,f2,f3⟩
 ·refine ⟨.map (es.push { key:=DN k,val:=.bool true,born:=clock }) (clock+1),?_,_,_,hat _,fun e he=>?_,fun k' hk'=>?_⟩
  ·simp [Instr.mapUpdate,run_underlying ht,MapKept.run_getObj_map hb,K.check w _ hkey,f1,MapKept.run_setObj_map _ hb,Result.andThen]
  ·simp only [Array.toList_push,List.mem_append,List.mem_singleton] at he;rcases he with he|rfl
   ·obtain ⟨k',g1,g2⟩:=h1 e he;exact ⟨k',List.mem_cons_of_mem _ g1,g2⟩
   ·exact ⟨k,List.mem_cons_self,rfl,rfl⟩
  ·rcases List.mem_cons.1 hk' with rfl|hk'
   ·exact ⟨hl,{ key:=DN k',val:=.bool true,born:=clock },by simp,rfl⟩
   ·obtain ⟨g1,e,g2,g3⟩:=h2 k' hk';exact ⟨g1,e,by simp at g2 ⊢;exact .inl g2,g3⟩
 ·have hj:es[j]? = some e:=by simpa using f2
  obtain ⟨k',hk',he1,he2⟩:=h1 e (List.mem_of_getElem? f2);have:k'=k:=XC (he1.symm.trans f3);subst this;refine ⟨.map (es.modify j fun e=>{ e with key:=DN k',val:=.bool true }) clock,?_,_,_,hat _,fun e' he=>?_,fun k2 hk2=>?_⟩
  ·have hs:(Instr.keyThatStays (DN k') (DN k')).run P w=.ok (DN k') w:=K.stays w hkey;simp [Instr.mapUpdate,run_underlying ht,MapKept.run_getObj_map hb,K.check w _ hkey,f1,hj,f3,hs,MapKept.run_setObj_map _ hb,Result.andThen]
  ·obtain ⟨i,hi⟩:=List.mem_iff_getElem?.1 he;rw [Array.getElem?_toList,Array.getElem?_modify] at hi;split at hi
   ·cases hx:es[i]? with
    | none=>rw [hx] at hi;cases hi
    | some x =>
     rw [hx] at hi;simp only [Option.map_some,Option.some.injEq] at hi;subst hi;exact ⟨k',List.mem_cons_self,rfl,rfl⟩
   ·obtain ⟨k2,g1,g2⟩:=h1 e' (List.mem_iff_getElem?.2 ⟨i,by rw [Array.getElem?_toList];exact hi⟩)
    exact ⟨k2,List.mem_cons_of_mem _ g1,g2⟩
  ·have key:k2.length≤maxLen∧∃ e∈es.toList,e.key=DN k2:=by
    rcases List.mem_cons.1 hk2 with rfl|hk2
    ·exact ⟨hl,e,List.mem_of_getElem? f2,f3⟩
    ·exact h2 k2 hk2
   obtain ⟨g1,e2,g2,g3⟩:=key;refine ⟨g1,?_⟩;obtain ⟨i,hi⟩:=List.mem_iff_getElem?.1 g2;rw [Array.getElem?_toList] at hi;by_cases hij:j=i
   ·subst hij;rw [hj] at hi;cases hi;refine ⟨{ e with key:=DN k',val:=.bool true },List.mem_iff_getElem?.2 ⟨j,?_⟩,f3.symm.trans g3⟩;rw [Array.getElem?_toList,Array.getElem?_modify,if_pos rfl,hj];rfl
   ·refine ⟨e2,List.mem_iff_getElem?.2 ⟨i,?_⟩,g3⟩;rw [Array.getElem?_toList,Array.getElem?_modify,if_neg hij,hi]
def mR (X:Ctx) (b:Nat):Prop:=b<X.w.heap.size∧¬ X.S b∧∀ id db g,X.h[id]? = some db→db.live=true→X.G id=some g→g.1≠b
theorem mR.step {X X':Ctx} {b:Nat} (ha:mR X b) (hi':HInv X') (hs:Step X X'):mR X' b∧X'.w.heap[b]? = X.w.heap[b]? := by
 obtain ⟨h1,h2,h3⟩:=ha;have hS:¬ X'.S b:=fun h=>by
  rcases hs.upper b h with h|h|⟨id,db,g,hd,hl,hg,e⟩
  ·exact h2 h
  ·omega
  ·exact h3 id db g hd hl hg e
 refine ⟨⟨Nat.lt_of_lt_of_le h1 hs.size,hS,fun id db g hd hl hg e=>?_⟩,hs.frame b h1 fun id db g hd hl _ hg=>h3 id db g hd hl hg⟩;cases hf:db.fix
 ·rcases hs.mine id db g hd hl hf hg with h|⟨id0,db0,g0,hd0,hl0,_,hg0,e0⟩
  ·omega
  ·exact h3 id0 db0 g0 hd0 hl0 hg0 (e0.trans e)
 ·exact hS (e▸(hi'.own id db g hd hl hg).2 hf)
theorem qL.same {w w':World} {b:Nat} {ks:List (List UInt8)} (h:qL w b ks) (e:w'.heap[b]? = w.heap[b]?):qL w' b ks:=by
 obtain ⟨es,c,h1,h2⟩:=h;exact ⟨es,c,e.trans h1,h2⟩
section put
variable {X:Ctx} {b:Nat} {o:Obj}
def Ctx.setB (X:Ctx) (b:Nat) (o:Obj):Ctx:=X.at_ { X.w with heap:=X.w.heap.setIfInBounds b o }
theorem lX {c:Nat} (h:c≠b):(X.setB b o).w.heap[c]? = X.w.heap[c]? := by
 show (X.w.heap.setIfInBounds b o)[c]? = _;rw [Array.getElem?_setIfInBounds_ne (Ne.symm h)]
theorem jI (ha:mR X b):Kept X.w (X.setB b o).w X.S X.S:=fun c hc=>⟨hc,lX fun e=>ha.2.1 (e▸hc)⟩
theorem zEa (ha:mR X b) {x:KV} {v:Value} (h:pE X x v):pE (X.setB b o) x v:=by
 cases x <;> simp only [pE] at h ⊢
 case p=>exact cT.kept (jI ha) h
 case ptr=>exact h
theorem CS (ha:mR X b):∀ {xs:List KV} {vs:List Value},eQ X xs vs→eQ (X.setB b o) xs vs
 | [],[],_=>True.intro
 | _::_,_::_,h=>⟨zEa ha h.1,CS ha h.2⟩
 | [],_::_,h=>h.elim
 | _::_,[],h=>h.elim
theorem rX (ha:mR X b) {x:CV} {v:Value} (h:bS X x v):bS (X.setB b o) x v:=by
 cases x <;> simp only [bS] at h ⊢
 case p=>exact cT.kept (jI ha) h
 case own id off len =>
  obtain ⟨h1,h2,h3⟩:=h;refine ⟨h1,h2,fun k es ro hd=>?_⟩;obtain ⟨h4,h5⟩:=h3 k es ro hd;refine ⟨h4,?_⟩;show match X.G id with|none=>_|some g=>_
  cases hg:X.G id with
  | none=>rw [hg] at h5;exact h5
  | some g =>
   rw [hg] at h5;obtain ⟨cap,q,arr,el,fz,h6,h7⟩:=h5;exact ⟨cap,q,arr,el,fz,(lX (ha.2.2 id _ g hd rfl hg)).trans h6,h7⟩
 case ptr=>exact h
 case aptr=>exact h
 case mp=>exact h
 case bs=>exact h
 case eptr =>
  obtain ⟨bl,off,h1,h2,h3⟩:=h;exact ⟨bl,off,h1,h2,fV.kept (jI ha) h2 h3⟩
 case full =>
  obtain ⟨a,h1,h2⟩:=h;refine ⟨a,h1,h2.imp id ?_⟩;rintro ⟨bl,off,h3,h4,h5⟩;exact ⟨bl,off,h3,h4,eP.kept (jI ha) h4 h5⟩
 case clo =>
  obtain ⟨vs,h1,h2⟩:=h;exact ⟨vs,h1,CS ha h2⟩
theorem tW (ha:mR X b):∀ {xs:List CV} {vs:List Value},bB X xs vs→bB (X.setB b o) xs vs
 | [],[],_=>True.intro
 | _::_,_::_,h=>⟨rX ha h.1,tW ha h.2⟩
 | [],_::_,h=>h.elim
 | _::_,[],h=>h.elim
theorem zAj (ha:mR X b) {x:EV} {v:Value} (h:dN X x v):dN (X.setB b o) x v:=by
 cases x <;> simp only [dN] at h ⊢
 case c=>exact rX ha h
 case agg=>obtain ⟨vs,h1,h2⟩:=h;exact ⟨vs,h1,tW ha h2⟩
theorem zG (ha:mR X b):∀ {xs:List EV} {vs:List Value},cG X xs vs→cG (X.setB b o) xs vs
 | [],[],_=>True.intro
 | _::_,_::_,h=>⟨zAj ha h.1,zG ha h.2⟩
 | [],_::_,h=>h.elim
 | _::_,[],h=>h.elim
theorem zD9 (ha:mR X b) {x:DV} {v:Value} (h:bA X x v):bA (X.setB b o) x v:=by
 cases x <;> simp only [bA] at h ⊢
 case c=>exact rX ha h
 case agg=>obtain ⟨vs,h1,h2⟩:=h;exact ⟨vs,h1,tW ha h2⟩
 case tup=>obtain ⟨vs,h1,h2⟩:=h;exact ⟨vs,h1,zG ha h2⟩
theorem zD8 (ha:mR X b) {id:Nat} {db:DB} (hd:X.h[id]? = some db) (h:dU X id db):dU (X.setB b o) id db:=by
 cases db <;> simp only [dU] at h ⊢
 case box =>
  obtain ⟨g,arr,el,fz,h1,h2,h3,h4,h5⟩:=h;have hb:(X.setB b o).w.heap[g.1]? = X.w.heap[g.1]? := lX (ha.2.2 id _ g hd rfl h1);refine ⟨g,arr,el,fz,h1,hb.trans h2,h3,h4,cP.mk fun j c hj=>?_⟩;obtain ⟨v,g1,g2⟩:=h5.at_ hj;exact ⟨v,by rw [World.cell?_of_block (a:=⟨g.1,g.2+j,none⟩) hb];exact g1,rX ha g2⟩
 case arr =>
  rcases h with h|⟨g,arr,el,fz,h1,h2,h3,h4,h5⟩
  ·exact .inl h
  ·have hb:(X.setB b o).w.heap[g.1]? = X.w.heap[g.1]? := lX (ha.2.2 id _ g hd rfl h1);exact .inr ⟨g,arr,el,fz,h1,hb.trans h2,h3,h4,h5.move (jI ha) hb⟩
 case mp =>
  obtain ⟨g,ms,c,h1,h2,h3,h4⟩:=h;have hb:(X.setB b o).w.heap[g.1]? = X.w.heap[g.1]? := lX (ha.2.2 id _ g hd rfl h1);exact ⟨g,ms,c,h1,hb.trans h2,h3.kept (jI ha),h4⟩
theorem HInv.setB (hi:HInv X) (ha:mR X b):HInv (X.setB b o) where
 slt:=fun c hc=>by
  show c<(X.w.heap.setIfInBounds b o).size;rw [Array.size_setIfInBounds];exact hi.slt c hc
 blk:=fun id db h=>zD8 ha h (hi.blk id db h)
 own:=hi.own
 inj:=hi.inj
theorem mR.setB (ha:mR X b):mR (X.setB b o) b :=
 ⟨by show b<(X.w.heap.setIfInBounds b o).size;rw [Array.size_setIfInBounds];exact ha.1,ha.2⟩
theorem Step.setB {X0:Ctx} (hs:Step X0 X) (h0:X0.w.heap.size≤b) (ha:mR X b):Step X0 (X.setB b o) where
 size:=by
  show _≤(X.w.heap.setIfInBounds b o).size;rw [Array.size_setIfInBounds];exact hs.size
 os:=hs.os
 tape:=hs.tape
 output:=hs.output
 kept:=fun c hc=>⟨(hs.kept c hc).1,(lX (show c≠b from fun e=>ha.2.1 (e▸(hs.kept c hc).1))).trans (hs.kept c hc).2⟩
 len:=hs.len
 ids:=fun id db' hid hd hl=>by
  obtain ⟨db,h1,h2,h3,h4⟩:=hs.ids id db' hid hd hl;exact ⟨db,h1,h2,h3,fun g hg=>by rw [lX (ha.2.2 id db' g hd hl (h3.trans hg))];exact h4 g hg⟩
 frame:=fun c hc hn=>(lX (by omega)).trans (hs.frame c hc hn)
 mine:=hs.mine
 upper:=hs.upper
theorem TInv.setB {s:DS} {a:Act} (ha:mR X b) (ht:TInv X s a):TInv (X.setB b o) s a:=⟨ht.size,fun i=>zD9 ha (ht.rel i),ht.defs⟩
end put
end Go.Dm
end
