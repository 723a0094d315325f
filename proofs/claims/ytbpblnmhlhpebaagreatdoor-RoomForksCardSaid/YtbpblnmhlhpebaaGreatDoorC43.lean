/- Part 44 of the proof of roomForks_card, set without needless blanks. No condition. -/
import Derived.Test.YtbpblnmhlhpebaaGreatDoorC42
import Derived.StringKeys
set_option linter.unusedSimpArgs false
set_option linter.unusedVariables false
set_option maxRecDepth 100000
set_option maxHeartbeats 4000000
namespace Go.Proofs.YtbpblnmhlhpebaaGreatDoor
open Go Go.Dm
section
theorem zKx {p:List UInt8} {ck k m k2 m2:Int} {t t2:Nat} {d d2:List UInt8} (hp:p.length≤1000000000) (ht:t<18446744073709551616) (ht2:t2<18446744073709551616):
  aA Tryz.prog 164 [.agg [.p (.s p),.p (.i .i64 ck),.p (.i .i64 k),.p (.i .i64 m),.p (.f t),.p (.sl 1 (bT d)),.p (.i .i64 k2),.p (.i .i64 m2),.p (.f t2),.p (.sl 1 (bT d2))]] [] fun r h=>r=.c (.p (.b (zHj ⟨p,ck,⟨k,m,t,d⟩,⟨k2,m2,t2,d2⟩⟩)))∧h=[]:=by
 have c1:=zHL (k:=k) (m:=m) (t:=t) (d:=d)
 have c2:=zHL (k:=k2) (m:=m2) (t:=t2) (d:=d2)
 have c3:=dL (k:=k) (m:=m) (d:=d) ht
 have c4:=dL (k:=k2) (m:=m2) (d:=d2) ht2
 have c5:=eQ hp
 have c6:=zLg (k:=k) (m:=m) (t:=t) (d:=d) (k':=k2) (m':=m2) (t':=t2) (d':=d2) (!(ck == 1)) (!(ck == 2))
 unfold zHj
 simp only
 generalize rB ⟨k,m,t,d⟩=z1 at c1 ⊢
 generalize rB ⟨k2,m2,t2,d2⟩=z2 at c2 ⊢
 generalize aU ⟨k,m,t,d⟩=r1 at c3 ⊢
 generalize aU ⟨k2,m2,t2,d2⟩=r2 at c4 ⊢
 generalize bV p=ip at c5 ⊢
 generalize iQ (!(ck == 1)) (!(ck == 2)) ⟨k,m,t,d⟩ ⟨k2,m2,t2,d2⟩=kf at c6 ⊢
 have n1:(ck != 1) = !(ck == 1):=rfl
 have n2:(ck != 2) = !(ck == 2):=rfl
 have n0:(ck != 0) = !(ck == 0):=rfl
 have n3:(p != []) = !(p == []):=rfl
 have hqq:((ck == 1) && (ck == 2))=false:=by
  cases e1:(ck == 1)
  ·rfl
  ·rw [eq_of_beq e1];rfl
 generalize (ck == 1)=q1 at n1 c6 hqq ⊢
 generalize (ck == 2)=q2 at n2 c6 hqq ⊢
 generalize (ck == 0)=q0 at n0 ⊢
 generalize hq8:(kf == ck)=q8
 generalize hp0:(p == [])=p0 at n3 ⊢
 cases q1 <;> cases q2
 ·simp only [Bool.not_false,Bool.false_or,Bool.or_true,Bool.and_true] at n1 n2 c6 ⊢
  clear hqq
  refine ent aB aK Tryz.func164 rfl rfl fun X0 hX=>?_
  simp only [Tryz.f164,go_sem]
  repeat' (first|simp only [*,go_sem,Nat.reduceLT,↓reduceIte,Bool.not_true,Bool.not_false]|((refine aP (id:=1) aB aK [] [0,1,2,3,4,5,6,7] (by decide +kernel) ?_);(repeat' (first|(refine bA ?_)|((refine cQ ?_ rfl rfl ?_ ?_);(rotate_left 1);(focus ((repeat' (simp only [*,go_sem,Nat.reduceLT,Nat.reduceEqDiff,↓reduceIte]));exact rfl));(simp only [aJ])))))|((refine aP (id:=2) aB aK [] [0,1,2,3,4,5,6,7,8,9,10,11,12,13,14,15,16,17,18,19,20,21,22,23,24,25,26,27,28,29,30,31,32,33,34,35,36,37,38,39,40,41,42,43,44,45,46,47,48,49,50,51,52,53,54,55,56,57,58,59] (by decide +kernel) ?_);(repeat' (first|(refine bA ?_)|((refine cQ ?_ rfl rfl ?_ ?_);(rotate_left 1);(focus ((repeat' (first|simp only [*,go_sem,Nat.reduceLT,Nat.reduceLeDiff,Nat.reduceEqDiff,↓reduceIte,Nat.reduceAdd,Bool.not_true,Bool.not_false]|((with_reducible refine aQ (c1) ?_ ?_ ?_);exact rfl;exact rfl)|((with_reducible refine aQ (c2) ?_ ?_ ?_);exact rfl;exact rfl)|((with_reducible refine aQ (c3) ?_ ?_ ?_);exact rfl;exact rfl)|((with_reducible refine aQ (c4) ?_ ?_ ?_);exact rfl;exact rfl)|((with_reducible refine aQ (c5) ?_ ?_ ?_);exact rfl;exact rfl)|((with_reducible refine aQ (c6) ?_ ?_ ?_);exact rfl;exact rfl)|with_reducible refine bF (fun _=>?_) (fun _=>?_)));exact rfl));(simp only [aJ]))|(cases p0)|(cases ip)|(cases z1)|(cases z2)|(cases r1)|(cases r2)|(cases q0)))))
  all_goals first|(simp;done)|trace_state
 ·simp only [Bool.not_true,Bool.not_false,Bool.false_or,Bool.or_true,Bool.true_or,Bool.or_false,Bool.and_true] at n1 n2 c6 ⊢
  clear hqq c4 r2
  refine ent aB aK Tryz.func164 rfl rfl fun X0 hX=>?_
  simp only [Tryz.f164,go_sem]
  repeat' (first|simp only [*,go_sem,Nat.reduceLT,↓reduceIte,Bool.not_true,Bool.not_false]|((refine aP (id:=1) aB aK [] [0,1,2,3,4,5,6,7] (by decide +kernel) ?_);(repeat' (first|(refine bA ?_)|((refine cQ ?_ rfl rfl ?_ ?_);(rotate_left 1);(focus ((repeat' (simp only [*,go_sem,Nat.reduceLT,Nat.reduceEqDiff,↓reduceIte]));exact rfl));(simp only [aJ])))))|((refine aP (id:=2) aB aK [] [0,1,2,3,4,5,6,7,8,9,10,11,12,13,14,15,16,17,18,19,20,21,22,23,24,25,26,27,28,29,30,31,32,33,34,35,36,37,38,39,40,41,42,43,44,45,46,47,48,49,50,51,52,53,54,55,56,57,58,59] (by decide +kernel) ?_);(repeat' (first|(refine bA ?_)|((refine cQ ?_ rfl rfl ?_ ?_);(rotate_left 1);(focus ((repeat' (first|simp only [*,go_sem,Nat.reduceLT,Nat.reduceLeDiff,Nat.reduceEqDiff,↓reduceIte,Nat.reduceAdd,Bool.not_true,Bool.not_false]|((with_reducible refine aQ (c1) ?_ ?_ ?_);exact rfl;exact rfl)|((with_reducible refine aQ (c2) ?_ ?_ ?_);exact rfl;exact rfl)|((with_reducible refine aQ (c3) ?_ ?_ ?_);exact rfl;exact rfl)|((with_reducible refine aQ (c5) ?_ ?_ ?_);exact rfl;exact rfl)|((with_reducible refine aQ (c6) ?_ ?_ ?_);exact rfl;exact rfl)|with_reducible refine bF (fun _=>?_) (fun _=>?_)));exact rfl));(simp only [aJ]))|(cases p0)|(cases ip)|(cases z1)|(cases z2)|(cases r1)|(cases q0)))))
  all_goals first|(simp;done)|trace_state
 ·simp only [Bool.not_true,Bool.not_false,Bool.false_or,Bool.or_true,Bool.true_or,Bool.or_false,Bool.and_true] at n1 n2 c6 ⊢
  clear hqq c3 r1
  refine ent aB aK Tryz.func164 rfl rfl fun X0 hX=>?_
  simp only [Tryz.f164,go_sem]
  repeat' (first|simp only [*,go_sem,Nat.reduceLT,↓reduceIte,Bool.not_true,Bool.not_false]|((refine aP (id:=1) aB aK [] [0,1,2,3,4,5,6,7] (by decide +kernel) ?_);(repeat' (first|(refine bA ?_)|((refine cQ ?_ rfl rfl ?_ ?_);(rotate_left 1);(focus ((repeat' (simp only [*,go_sem,Nat.reduceLT,Nat.reduceEqDiff,↓reduceIte]));exact rfl));(simp only [aJ])))))|((refine aP (id:=2) aB aK [] [0,1,2,3,4,5,6,7,8,9,10,11,12,13,14,15,16,17,18,19,20,21,22,23,24,25,26,27,28,29,30,31,32,33,34,35,36,37,38,39,40,41,42,43,44,45,46,47,48,49,50,51,52,53,54,55,56,57,58,59] (by decide +kernel) ?_);(repeat' (first|(refine bA ?_)|((refine cQ ?_ rfl rfl ?_ ?_);(rotate_left 1);(focus ((repeat' (first|simp only [*,go_sem,Nat.reduceLT,Nat.reduceLeDiff,Nat.reduceEqDiff,↓reduceIte,Nat.reduceAdd,Bool.not_true,Bool.not_false]|((with_reducible refine aQ (c1) ?_ ?_ ?_);exact rfl;exact rfl)|((with_reducible refine aQ (c2) ?_ ?_ ?_);exact rfl;exact rfl)|((with_reducible refine aQ (c4) ?_ ?_ ?_);exact rfl;exact rfl)|((with_reducible refine aQ (c5) ?_ ?_ ?_);exact rfl;exact rfl)|((with_reducible refine aQ (c6) ?_ ?_ ?_);exact rfl;exact rfl)|with_reducible refine bF (fun _=>?_) (fun _=>?_)));exact rfl));(simp only [aJ]))|(cases p0)|(cases ip)|(cases z1)|(cases z2)|(cases r2)|(cases q0)))))
  all_goals first|(simp;done)|trace_state
 ·cases hqq
theorem MY {l:List Ch} (hl:l.length≤1000000) (hp:∀ x∈l,x.p.length≤1000000000∧x.o.t<18446744073709551616∧x.n.t<18446744073709551616):
  aA Tryz.prog 96 [.c (.p (.sl 10 (oX l)))] [] fun r h=>r=.c (.p (.b (gQ l)))∧h=[]:=by
 refine ent aB aK Tryz.func96 rfl rfl fun X0 hX=>?_
 simp only [Tryz.f96,go_sem]
 repeat' (simp only [*,go_sem,Nat.reduceLT,Nat.reduceEqDiff,↓reduceIte])
 refine aY aB aK (α:=Nat) (fun k=>⟨32,[(0,.c (.p (.sl 10 (oX l)))),(5,.c (.p (.sl 10 (oX l)))),(6,.c (.p (.i .i64 l.length))),(7,.c (.p (.i .i64 k)))],[]⟩)
  (fun k=>k≤l.length∧dY (rH l k) (l.drop k)=gQ l) (fun k=>l.length-k) 0 ⟨Nat.zero_le _,rfl⟩ (.inl (aI (by rw [hX];rfl) rfl rfl (by simp [aH,aL,aC,aG,aF]))) ?_
 rintro k ⟨hk,hgo⟩
 by_cases hlt:k<l.length
 ·have hx:l[k]? = some l[k]:=List.getElem?_eq_getElem hlt
  have hg:=EW hx
  have h1:decide ((k:Int)<(l.length:Int))=true:=decide_eq_true (by omega)
  have w1:IntKind.i64.wrap ((k:Int)+1)=k+1:=wrap_i64 (by omega) (by omega)
  have hki:(k:Int)<(l.length:Int):=by omega
  have hk0:(0:Int)≤k:=by omega
  have prev:(decide ((0:Int)<k)=false∧tM (rH l k) l[k].p=true)∨∃ m:Nat,∃ y:Ch,decide ((0:Int)<k)=true∧IntKind.i64.wrap ((k:Int)-1)=(m:Int)∧(m:Int)<l.length∧l[m]? = some y∧decide (GY l[k].p y.p≤0) = !tM (rH l k) l[k].p:=by
   by_cases h0:0<k
   ·have hmk:k-1<l.length:=by omega
    refine .inr ⟨k-1,l[k-1],decide_eq_true (by omega),?_,by omega,List.getElem?_eq_getElem hmk,?_⟩
    ·rw [wrap_i64 (by omega) (by omega)];omega
    ·rw [zJs]
     have e:rH l k=some l[k-1].p:=by
      have:=yM (List.getElem?_eq_getElem hmk)
      rw [show k-1+1=k by omega] at this
      exact this
     rw [e];rfl
   ·refine .inl ⟨decide_eq_false (by omega),?_⟩
    have:k=0:=by omega
    subst this;rfl
  have hdr:l.drop k=l[k]::l.drop (k+1):=List.drop_eq_getElem_cons hlt
  have hnx:=yM hx
  rw [hdr,dY,← hnx] at hgo
  obtain ⟨p1,p2,p3⟩:=hp _ (List.getElem_mem hlt)
  have hc:=zKx (p:=l[k].p) (ck:=l[k].k) (k:=l[k].o.k) (m:=l[k].o.m) (t:=l[k].o.t) (d:=l[k].o.d) (k2:=l[k].n.k) (m2:=l[k].n.m) (t2:=l[k].n.t) (d2:=l[k].n.d) p1 p2 p3
  have e5:Ch.mk l[k].p l[k].k ⟨l[k].o.k,l[k].o.m,l[k].o.t,l[k].o.d⟩ ⟨l[k].n.k,l[k].n.m,l[k].n.t,l[k].n.d⟩=l[k]:=rfl
  rw [e5] at hc
  clear hnx hdr hp e5
  generalize tM (rH l k) l[k].p=a3 at prev hgo
  generalize l[k]=x at hx hg prev hc hgo p1
  generalize zHj x=mc at hc hgo
  cases mc
  ·have hf:gQ l=false:=by rw [← hgo];rfl
   rw [hf]
   clear hf hgo
   rcases prev with ⟨b1,rfl⟩|⟨m,y,b1,b2,b3,b4,b5⟩
   ·repeat' (first|simp only [*,go_sem,Nat.reduceLT,Nat.reduceLeDiff,Nat.reduceEqDiff,↓reduceIte,Nat.reduceAdd]|((refine aP (id:=4) aB aK [] [0,1,2,3,4,5,6,7,8,9,10,11,12,13,14,15,16,17,18] (by decide +kernel) ?_);(repeat' (first|(refine bA ?_)|((refine cQ ?_ rfl rfl ?_ ?_);(rotate_left 1);(focus ((repeat' (first|simp only [*,go_sem,Nat.reduceLT,Nat.reduceLeDiff,Nat.reduceEqDiff,↓reduceIte,Nat.reduceAdd,Bool.not_false]|((with_reducible refine aQ (hc) ?_ ?_ ?_);exact rfl;exact rfl)));exact rfl));(simp only [aJ]))))))
   ·have hgy:=EW b4
    repeat' (first|simp only [*,go_sem,Nat.reduceLT,Nat.reduceLeDiff,Nat.reduceEqDiff,↓reduceIte,Nat.reduceAdd]|((refine aP (id:=4) aB aK [] [0,1,2,3,4,5,6,7,8,9,10,11,12,13,14,15,16,17,18] (by decide +kernel) ?_);(repeat' (first|(refine bA ?_)|((refine cQ ?_ rfl rfl ?_ ?_);(rotate_left 1);(focus ((repeat' (first|simp only [*,go_sem,Nat.reduceLT,Nat.reduceLeDiff,Nat.reduceEqDiff,↓reduceIte,Nat.reduceAdd,Bool.not_false]|((with_reducible refine aQ (hc) ?_ ?_ ?_);exact rfl;exact rfl)));exact rfl));(simp only [aJ]))))))
  ·rcases prev with ⟨b1,rfl⟩|⟨m,y,b1,b2,b3,b4,b5⟩
   ·have hJ:k+1≤l.length∧dY (rH l (k+1)) (l.drop (k+1))=gQ l:=⟨by omega,by rw [← hgo];simp⟩
    clear hgo
    repeat' (first|simp only [*,go_sem,Nat.reduceLT,Nat.reduceLeDiff,Nat.reduceEqDiff,↓reduceIte,Nat.reduceAdd]|((refine aP (id:=4) aB aK [] [0,1,2,3,4,5,6,7,8,9,10,11,12,13,14,15,16,17,18] (by decide +kernel) ?_);(repeat' (first|(refine bA ?_)|((refine cQ ?_ rfl rfl ?_ ?_);(rotate_left 1);(focus ((repeat' (first|simp only [*,go_sem,Nat.reduceLT,Nat.reduceLeDiff,Nat.reduceEqDiff,↓reduceIte,Nat.reduceAdd,Bool.not_true]|((with_reducible refine aQ (hc) ?_ ?_ ?_);exact rfl;exact rfl)));exact rfl));(simp only [aJ]))))))
    exact eM (k+1) hJ (by omega) (aI rfl rfl rfl (by simp [aH,aL,aC,aG,aF]))
   ·have hgy:=EW b4
    have hm0:(0:Int)≤m:=by omega
    cases a3
    ·have hf:gQ l=false:=by rw [← hgo];rfl
     rw [hf]
     rw [Bool.not_false] at b5
     clear hf hgo b4
     repeat' (first|simp only [*,go_sem,Nat.reduceLT,Nat.reduceLeDiff,Nat.reduceEqDiff,↓reduceIte,Nat.reduceAdd]|((refine aP (id:=4) aB aK [] [0,1,2,3,4,5,6,7,8,9,10,11,12,13,14,15,16,17,18] (by decide +kernel) ?_);(repeat' (first|(refine bA ?_)|((refine cQ ?_ rfl rfl ?_ ?_);(rotate_left 1);(focus ((repeat' (first|simp only [*,go_sem,Nat.reduceLT,Nat.reduceLeDiff,Nat.reduceEqDiff,↓reduceIte,Nat.reduceAdd,Bool.not_true]|((with_reducible refine aQ (hc) ?_ ?_ ?_);exact rfl;exact rfl)|((with_reducible refine aQ (jK) ?_ ?_ ?_);exact rfl;exact rfl)));exact rfl));(simp only [aJ]))))))
    ·have hJ:k+1≤l.length∧dY (rH l (k+1)) (l.drop (k+1))=gQ l:=⟨by omega,by rw [← hgo];simp⟩
     rw [Bool.not_true] at b5
     clear hgo b4
     repeat' (first|simp only [*,go_sem,Nat.reduceLT,Nat.reduceLeDiff,Nat.reduceEqDiff,↓reduceIte,Nat.reduceAdd]|((refine aP (id:=4) aB aK [] [0,1,2,3,4,5,6,7,8,9,10,11,12,13,14,15,16,17,18] (by decide +kernel) ?_);(repeat' (first|(refine bA ?_)|((refine cQ ?_ rfl rfl ?_ ?_);(rotate_left 1);(focus ((repeat' (first|simp only [*,go_sem,Nat.reduceLT,Nat.reduceLeDiff,Nat.reduceEqDiff,↓reduceIte,Nat.reduceAdd,Bool.not_true]|((with_reducible refine aQ (hc) ?_ ?_ ?_);exact rfl;exact rfl)|((with_reducible refine aQ (jK) ?_ ?_ ?_);exact rfl;exact rfl)));exact rfl));(simp only [aJ]))))))
     exact eM (k+1) hJ (by omega) (aI rfl rfl rfl (by simp [aH,aL,aC,aG,aF]))
 ·have h1:decide ((k:Int)<(l.length:Int))=false:=decide_eq_false (by omega)
  rw [List.drop_of_length_le (by omega),dY] at hgo
  rw [← hgo]
  clear hgo
  repeat' (simp only [*,go_sem,Nat.reduceLT,Nat.reduceEqDiff,↓reduceIte])
end
end Go.Proofs.YtbpblnmhlhpebaaGreatDoor
namespace Go.Dm
open Go Go.WideMaps Go.MapKept Go.WideShapes
section
def CX (k:List UInt8):Value:=.string ⟨k.toArray⟩
theorem TS {k k':List UInt8} (h:CX k=CX k'):k=k':=by
 simp only [CX,Value.string.injEq,ByteArray.mk.injEq] at h
 exact List.toArray_inj h
def sA (w:World) (b:Nat) (ks:List (List UInt8)):Prop:=∃ es clock,w.heap[b]? = some (.map es clock) ∧
 (∀ e∈es.toList,∃ k∈ks,e.key=CX k∧e.val=.bool true)∧∀ k∈ks,k.length≤maxLen∧∃ e∈es.toList,e.key=CX k
theorem sA.keys {P:Program} {kt:TypeId} (hk:P.underlying kt=some .string) {es:Array MapEntry} {ks:List (List UInt8)} (h1:∀ e∈es.toList,∃ k∈ks,e.key=CX k∧e.val=.bool true) (h2:∀ k∈ks,k.length≤maxLen∧∃ e∈es.toList,e.key=CX k):
  ∀ e∈es.toList,∃ l,keyOf P kt e.key=some l:=fun e he=>by
 obtain ⟨k,hk',he1,_⟩:=h1 e he
 rw [he1]
 exact ⟨_,keyOf_string_mk hk (by show k.toArray.size≤maxLen;simpa using (h2 k hk').1)⟩
theorem zGj {P:Program} {t kt et:TypeId} (ht:P.underlying t=some (.map kt et)) (hk:P.underlying kt=some .string) {w:World} {b:Nat} {ks:List (List UInt8)} (hz:(zeroValue et).run P w=.ok (.bool false) w) (h:sA w b ks) {k:List UInt8} (hl:k.length≤maxLen):
  (Instr.lookup t (.map (some b)) (CX k) false).run P w=.ok (.bool (ks.contains k)) w:=by
 obtain ⟨es,clock,hb,h1,h2⟩:=h
 have K:=string_law hk
 have hkey:keyOf P kt (CX k)=some (.string k):=keyOf_string_mk hk (by show k.toArray.size≤maxLen;simpa using hl)
 rcases K.find w hkey es.toList (sA.keys hk h1 h2) with ⟨f1,f2⟩|⟨j,e,f1,f2,f3⟩
 ·have hc:ks.contains k=false:=by
   rw [Bool.eq_false_iff]
   intro hc
   obtain ⟨_,e,he,hek⟩:=h2 k (by simpa using hc)
   exact f2 e he hek
  rw [hc]
  simp [Instr.lookup,run_underlying ht,MapKept.run_getObj_map hb,K.check w _ hkey,f1,hz,Result.andThen]
 ·obtain ⟨k',hk',he1,he2⟩:=h1 e (List.mem_of_getElem? f2)
  have:k'=k:=TS (he1.symm.trans f3)
  subst this
  have hc:ks.contains k'=true:=by simpa using hk'
  rw [hc]
  simp [Instr.lookup,run_underlying ht,MapKept.run_getObj_map hb,K.check w _ hkey,f1,he2,Result.andThen]
theorem zJL {P:Program} {t kt et:TypeId} (ht:P.underlying t=some (.map kt et)) (hk:P.underlying kt=some .string) {w:World} {b:Nat} {ks:List (List UInt8)} (h:sA w b ks) {k:List UInt8} (hl:k.length≤maxLen):
  ∃ o,(Instr.mapUpdate t (.map (some b)) (CX k) (.bool true)).run P w=.ok () { w with heap:=w.heap.setIfInBounds b o }∧sA { w with heap:=w.heap.setIfInBounds b o } b (k::ks):=by
 obtain ⟨es,clock,hb,h1,h2⟩:=h
 have K:=string_law hk
 have hlt:b<w.heap.size:=(Array.getElem?_eq_some_iff.1 hb).1
 have hat:∀ o:Obj,({ w with heap:=w.heap.setIfInBounds b o }:World).heap[b]? = some o:=fun o=>by
  show (w.heap.setIfInBounds b o)[b]? = some o
  rw [Array.getElem?_setIfInBounds_self_of_lt hlt]
 have hkey:keyOf P kt (CX k)=some (.string k):=keyOf_string_mk hk (by show k.toArray.size≤maxLen;simpa using hl)
 rcases K.find w hkey es.toList (sA.keys hk h1 h2) with ⟨f1,f2⟩|⟨j,e,f1,f2,f3⟩
 ·refine ⟨.map (es.push { key:=CX k,val:=.bool true,born:=clock }) (clock+1),?_,_,_,hat _,fun e he=>?_,fun k' hk'=>?_⟩
  ·simp [Instr.mapUpdate,run_underlying ht,MapKept.run_getObj_map hb,K.check w _ hkey,f1,MapKept.run_setObj_map _ hb,Result.andThen]
  ·simp only [Array.toList_push,List.mem_append,List.mem_singleton] at he
   rcases he with he|rfl
   ·obtain ⟨k',g1,g2⟩:=h1 e he
    exact ⟨k',List.mem_cons_of_mem _ g1,g2⟩
   ·exact ⟨k,List.mem_cons_self,rfl,rfl⟩
  ·rcases List.mem_cons.1 hk' with rfl|hk'
   ·exact ⟨hl,{ key:=CX k',val:=.bool true,born:=clock },by simp,rfl⟩
   ·obtain ⟨g1,e,g2,g3⟩:=h2 k' hk'
    exact ⟨g1,e,by simp at g2 ⊢;exact .inl g2,g3⟩
 ·have hj:es[j]? = some e:=by simpa using f2
  obtain ⟨k',hk',he1,he2⟩:=h1 e (List.mem_of_getElem? f2)
  have:k'=k:=TS (he1.symm.trans f3)
  subst this
  refine ⟨.map (es.modify j fun e=>{ e with key:=CX k',val:=.bool true }) clock,?_,_,_,hat _,fun e' he=>?_,fun k2 hk2=>?_⟩
  ·have hs:(Instr.keyThatStays (CX k') (CX k')).run P w=.ok (CX k') w:=K.stays w hkey
   simp [Instr.mapUpdate,run_underlying ht,MapKept.run_getObj_map hb,K.check w _ hkey,f1,hj,f3,hs,MapKept.run_setObj_map _ hb,Result.andThen]
  ·obtain ⟨i,hi⟩:=List.mem_iff_getElem?.1 he
   rw [Array.getElem?_toList,Array.getElem?_modify] at hi
   split at hi
   ·cases hx:es[i]? with
    | none=>rw [hx] at hi;cases hi
    | some x =>
     rw [hx] at hi
     simp only [Option.map_some,Option.some.injEq] at hi
     subst hi
     exact ⟨k',List.mem_cons_self,rfl,rfl⟩
   ·obtain ⟨k2,g1,g2⟩:=h1 e' (List.mem_iff_getElem?.2 ⟨i,by rw [Array.getElem?_toList];exact hi⟩)
    exact ⟨k2,List.mem_cons_of_mem _ g1,g2⟩
  ·have key:k2.length≤maxLen∧∃ e∈es.toList,e.key=CX k2:=by
    rcases List.mem_cons.1 hk2 with rfl|hk2
    ·exact ⟨hl,e,List.mem_of_getElem? f2,f3⟩
    ·exact h2 k2 hk2
   obtain ⟨g1,e2,g2,g3⟩:=key
   refine ⟨g1,?_⟩
   obtain ⟨i,hi⟩:=List.mem_iff_getElem?.1 g2
   rw [Array.getElem?_toList] at hi
   by_cases hij:j=i
   ·subst hij
    rw [hj] at hi
    cases hi
    refine ⟨{ e with key:=CX k',val:=.bool true },List.mem_iff_getElem?.2 ⟨j,?_⟩,f3.symm.trans g3⟩
    rw [Array.getElem?_toList,Array.getElem?_modify,if_pos rfl,hj];rfl
   ·refine ⟨e2,List.mem_iff_getElem?.2 ⟨i,?_⟩,g3⟩
    rw [Array.getElem?_toList,Array.getElem?_modify,if_neg hij,hi]
def oS (X:Ctx) (b:Nat):Prop:=b<X.w.heap.size∧¬ X.S b∧∀ id db g,X.h[id]? = some db→db.live=true→X.G id=some g→g.1≠b
theorem oS.step {X X':Ctx} {b:Nat} (ha:oS X b) (hi':HInv X') (hs:Step X X'):oS X' b∧X'.w.heap[b]? = X.w.heap[b]? := by
 obtain ⟨h1,h2,h3⟩:=ha
 have hS:¬ X'.S b:=fun h=>by
  rcases hs.upper b h with h|h|⟨id,db,g,hd,hl,hg,e⟩
  ·exact h2 h
  ·omega
  ·exact h3 id db g hd hl hg e
 refine ⟨⟨Nat.lt_of_lt_of_le h1 hs.size,hS,fun id db g hd hl hg e=>?_⟩,hs.frame b h1 fun id db g hd hl _ hg=>h3 id db g hd hl hg⟩
 cases hf:db.fix
 ·rcases hs.mine id db g hd hl hf hg with h|⟨id0,db0,g0,hd0,hl0,_,hg0,e0⟩
  ·omega
  ·exact h3 id0 db0 g0 hd0 hl0 hg0 (e0.trans e)
 ·exact hS (e▸(hi'.own id db g hd hl hg).2 hf)
theorem sA.same {w w':World} {b:Nat} {ks:List (List UInt8)} (h:sA w b ks) (e:w'.heap[b]? = w.heap[b]?):sA w' b ks:=by
 obtain ⟨es,c,h1,h2⟩:=h
 exact ⟨es,c,e.trans h1,h2⟩
section put
variable {X:Ctx} {b:Nat} {o:Obj}
def Ctx.setB (X:Ctx) (b:Nat) (o:Obj):Ctx:=X.at_ { X.w with heap:=X.w.heap.setIfInBounds b o }
theorem nL {c:Nat} (h:c≠b):(X.setB b o).w.heap[c]? = X.w.heap[c]? := by
 show (X.w.heap.setIfInBounds b o)[c]? = _
 rw [Array.getElem?_setIfInBounds_ne (Ne.symm h)]
theorem kI (ha:oS X b):Kept X.w (X.setB b o).w X.S X.S:=fun c hc=>⟨hc,nL fun e=>ha.2.1 (e▸hc)⟩
theorem zCo (ha:oS X b) {x:KV} {v:Value} (h:pG X x v):pG (X.setB b o) x v:=by
 cases x <;> simp only [pG] at h ⊢
 case p=>exact cF.kept (kI ha) h
 case ptr=>exact h
theorem BA (ha:oS X b):∀ {xs:List KV} {vs:List Value},eP X xs vs→eP (X.setB b o) xs vs
 | [],[],_=>True.intro
 | _::_,_::_,h=>⟨zCo ha h.1,BA ha h.2⟩
 | [],_::_,h=>h.elim
 | _::_,[],h=>h.elim
theorem rT (ha:oS X b) {x:CV} {v:Value} (h:bR X x v):bR (X.setB b o) x v:=by
 cases x <;> simp only [bR] at h ⊢
 case p=>exact cF.kept (kI ha) h
 case own id off len =>
  obtain ⟨h1,h2,h3⟩:=h
  refine ⟨h1,h2,fun k es ro hd=>?_⟩
  obtain ⟨h4,h5⟩:=h3 k es ro hd
  refine ⟨h4,?_⟩
  show match X.G id with|none=>_|some g=>_
  cases hg:X.G id with
  | none=>rw [hg] at h5;exact h5
  | some g =>
   rw [hg] at h5
   obtain ⟨cap,q,arr,el,fz,h6,h7⟩:=h5
   exact ⟨cap,q,arr,el,fz,(nL (ha.2.2 id _ g hd rfl hg)).trans h6,h7⟩
 case ptr=>exact h
 case aptr=>exact h
 case mp=>exact h
 case bs=>exact h
 case eptr =>
  obtain ⟨bl,off,h1,h2,h3⟩:=h
  exact ⟨bl,off,h1,h2,fC.kept (kI ha) h2 h3⟩
 case full =>
  obtain ⟨a,h1,h2⟩:=h
  refine ⟨a,h1,h2.imp id ?_⟩
  rintro ⟨bl,off,h3,h4,h5⟩
  exact ⟨bl,off,h3,h4,eD.kept (kI ha) h4 h5⟩
 case clo =>
  obtain ⟨vs,h1,h2⟩:=h
  exact ⟨vs,h1,BA ha h2⟩
theorem sJ (ha:oS X b):∀ {xs:List CV} {vs:List Value},bC X xs vs→bC (X.setB b o) xs vs
 | [],[],_=>True.intro
 | _::_,_::_,h=>⟨rT ha h.1,sJ ha h.2⟩
 | [],_::_,h=>h.elim
 | _::_,[],h=>h.elim
theorem XA (ha:oS X b) {x:EV} {v:Value} (h:dN X x v):dN (X.setB b o) x v:=by
 cases x <;> simp only [dN] at h ⊢
 case c=>exact rT ha h
 case agg=>obtain ⟨vs,h1,h2⟩:=h;exact ⟨vs,h1,sJ ha h2⟩
theorem wH (ha:oS X b):∀ {xs:List EV} {vs:List Value},cG X xs vs→cG (X.setB b o) xs vs
 | [],[],_=>True.intro
 | _::_,_::_,h=>⟨XA ha h.1,wH ha h.2⟩
 | [],_::_,h=>h.elim
 | _::_,[],h=>h.elim
theorem zDU (ha:oS X b) {x:DV} {v:Value} (h:bB X x v):bB (X.setB b o) x v:=by
 cases x <;> simp only [bB] at h ⊢
 case c=>exact rT ha h
 case agg=>obtain ⟨vs,h1,h2⟩:=h;exact ⟨vs,h1,sJ ha h2⟩
 case tup=>obtain ⟨vs,h1,h2⟩:=h;exact ⟨vs,h1,wH ha h2⟩
theorem zBz (ha:oS X b) {id:Nat} {db:DB} (hd:X.h[id]? = some db) (h:dK X id db):dK (X.setB b o) id db:=by
 cases db <;> simp only [dK] at h ⊢
 case box =>
  obtain ⟨g,arr,el,fz,h1,h2,h3,h4,h5⟩:=h
  have hb:(X.setB b o).w.heap[g.1]? = X.w.heap[g.1]? := nL (ha.2.2 id _ g hd rfl h1)
  refine ⟨g,arr,el,fz,h1,hb.trans h2,h3,h4,cE.mk fun j c hj=>?_⟩
  obtain ⟨v,g1,g2⟩:=h5.at_ hj
  exact ⟨v,by rw [World.cell?_of_block (a:=⟨g.1,g.2+j,none⟩) hb];exact g1,rT ha g2⟩
 case arr =>
  rcases h with h|⟨g,arr,el,fz,h1,h2,h3,h4,h5⟩
  ·exact .inl h
  ·have hb:(X.setB b o).w.heap[g.1]? = X.w.heap[g.1]? := nL (ha.2.2 id _ g hd rfl h1)
   exact .inr ⟨g,arr,el,fz,h1,hb.trans h2,h3,h4,h5.move (kI ha) hb⟩
 case mp =>
  obtain ⟨g,ms,c,h1,h2,h3,h4⟩:=h
  have hb:(X.setB b o).w.heap[g.1]? = X.w.heap[g.1]? := nL (ha.2.2 id _ g hd rfl h1)
  exact ⟨g,ms,c,h1,hb.trans h2,h3.kept (kI ha),h4⟩
theorem HInv.setB (hi:HInv X) (ha:oS X b):HInv (X.setB b o) where
 slt:=fun c hc=>by
  show c<(X.w.heap.setIfInBounds b o).size
  rw [Array.size_setIfInBounds];exact hi.slt c hc
 blk:=fun id db h=>zBz ha h (hi.blk id db h)
 own:=hi.own
 inj:=hi.inj
theorem oS.setB (ha:oS X b):oS (X.setB b o) b :=
 ⟨by show b<(X.w.heap.setIfInBounds b o).size;rw [Array.size_setIfInBounds];exact ha.1,ha.2⟩
theorem Step.setB {X0:Ctx} (hs:Step X0 X) (h0:X0.w.heap.size≤b) (ha:oS X b):Step X0 (X.setB b o) where
 size:=by
  show _≤(X.w.heap.setIfInBounds b o).size
  rw [Array.size_setIfInBounds];exact hs.size
 os:=hs.os
 tape:=hs.tape
 output:=hs.output
 kept:=fun c hc=>⟨(hs.kept c hc).1,(nL (show c≠b from fun e=>ha.2.1 (e▸(hs.kept c hc).1))).trans (hs.kept c hc).2⟩
 len:=hs.len
 ids:=fun id db' hid hd hl=>by
  obtain ⟨db,h1,h2,h3,h4⟩:=hs.ids id db' hid hd hl
  exact ⟨db,h1,h2,h3,fun g hg=>by rw [nL (ha.2.2 id db' g hd hl (h3.trans hg))];exact h4 g hg⟩
 frame:=fun c hc hn=>(nL (by omega)).trans (hs.frame c hc hn)
 mine:=hs.mine
 upper:=hs.upper
theorem TInv.setB {s:DS} {a:Act} (ha:oS X b) (ht:TInv X s a):TInv (X.setB b o) s a:=⟨ht.size,fun i=>zDU ha (ht.rel i),ht.defs⟩
end put
end
end Go.Dm
