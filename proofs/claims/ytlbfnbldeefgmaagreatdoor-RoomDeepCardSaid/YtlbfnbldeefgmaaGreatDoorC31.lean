/- Part 32 of the proof of roomDeep_card, set without needless blanks. No condition. -/
import Derived.Test.YtlbfnbldeefgmaaGreatDoorC30
set_option linter.all false
section
namespace Go.Proofs.YtlbfnbldeefgmaaGreatDoor
open Go Go.Dm Go.Proofs
set_option maxRecDepth 100000
set_option maxHeartbeats 8000000
theorem vG (t:List It) (i:Nat) (p:List UInt8) (k m:Int) (tt:Nat) (d:List UInt8):eU i [.s p,.i .i64 k,.i .i64 m,.f tt,.sl 1 (bW d)] (aZ t)=aZ (t.take i++⟨p,⟨k,m,tt,d⟩⟩::t.drop i):=by
 simp [eU,aZ,It.cs,List.map_take,List.map_drop]
theorem zJ4 {t:List It} {p:List UInt8} {k m:Int} {tt:Nat} {d:List UInt8} (h:OkT t) (hp:p.length≤1000000000) (hd:d.length≤140737488355328) (htt:tt<18446744073709551616):
  aA Tryz.prog 293 [.c (.p (.sl 5 (aZ t))),.c (.p (.s p)),.agg (ndc k m tt d)] [] fun r h =>
   r=.tup [.c (.p (.sl 5 (aZ (sL t p ⟨k,m,tt,d⟩).1))),.c (.p (.i .i64 (sL t p ⟨k,m,tt,d⟩).2))]∧h=[]:=by
 have htl:=h.len;have hdl:∀ x∈t,x.n.d.length≤140737488355328:=fun x hx=>Nat.le_trans (h.dlen x hx) (by decide);have hdir:=eG (t:=t) (p:=aP p) (by omega) h.srt;have hpath:=fA hp;have hnode:=eC (k:=k) (m:=m) (d:=d) htt;refine bN ?_;unfold sL;cases q0:(p == [])
 case true =>
  refine ent aC aK Tryz.func293 rfl rfl fun X0 hX=>?_;simp only [Tryz.f293,go_sem]
  repeat' (simp only [*,go_sem,Nat.reduceLT,Nat.reduceEqDiff,↓reduceIte,Nat.reduceAdd,])
  all_goals simp
 cases q1:cJ p
 case false =>
  rw [q1] at hpath;refine ent aC aK Tryz.func293 rfl rfl fun X0 hX=>?_;simp only [Tryz.f293,go_sem]
  repeat' (first|simp only [*,go_sem,Nat.reduceLT,Nat.reduceEqDiff,↓reduceIte,Nat.reduceAdd,Bool.not_false]|((with_reducible refine aQ (hpath) ?_ ?_ ?_);exact rfl;exact rfl))
  all_goals simp
 cases q2:aV ⟨k,m,tt,d⟩
 case false =>
  rw [q1] at hpath;rw [q2] at hnode;refine ent aC aK Tryz.func293 rfl rfl fun X0 hX=>?_;simp only [Tryz.f293,go_sem]
  repeat' (first|simp only [*,go_sem,Nat.reduceLT,Nat.reduceLeDiff,Nat.reduceEqDiff,↓reduceIte,Nat.reduceAdd,Bool.not_true,Bool.not_false]|((with_reducible refine aQ (hpath) ?_ ?_ ?_);exact rfl;exact rfl)|((with_reducible refine aQ (hnode) ?_ ?_ ?_);exact rfl;exact rfl))
  all_goals simp
 cases q3:aU t (aP p)
 case false =>
  rw [q1] at hpath;rw [q2] at hnode;rw [q3] at hdir;refine ent aC aK Tryz.func293 rfl rfl fun X0 hX=>?_;simp only [Tryz.f293,go_sem]
  repeat' (first|simp only [*,go_sem,Nat.reduceLT,Nat.reduceLeDiff,Nat.reduceEqDiff,↓reduceIte,Nat.reduceAdd,Bool.not_true,Bool.not_false]|((with_reducible refine aQ (hpath) ?_ ?_ ?_);exact rfl;exact rfl)|((with_reducible refine aQ (hnode) ?_ ?_ ?_);exact rfl;exact rfl)|((with_reducible refine aQ (dQ hp) ?_ ?_ ?_);exact rfl;exact rfl)|((with_reducible refine aQ (hdir) ?_ ?_ ?_);exact rfl;exact rfl))
  all_goals simp
 rw [q1] at hpath;rw [q2] at hnode;rw [q3] at hdir;have e0:(false || !true || !true)=false:=rfl;rw [e0,if_neg (by decide),if_neg (by decide)];clear e0 q1 q2 q3;have hcp:=EN (k:=k) (m:=m) (t:=tt) (d:=d) hd;have hgo:(t.filter fun x=>!goF p false x)=bS t p:=by
  unfold bS
  congr 1
  funext x
  simp [goF]
 have hub:=h.toOkT0.filter (fun x=>!aM p x.p);change OkT0 (bS t p) at hub;cases q4:(k != 2)
 ·simp only [Bool.false_eq_true,if_false];have hs:=h.srt;have hle0:t.length≤(aZ t).length:=Nat.le_of_eq (cS t).symm;have hes0:(aZ t).take t.length=aZ t:=List.take_of_length_le (Nat.le_of_eq (cS t));have hsl:=tQ t p ⟨k,m,tt,d⟩;refine ent aC aK Tryz.func293 rfl rfl fun X0 hX=>?_;simp only [Tryz.f293,go_sem]
  repeat' (first|simp only [*,go_sem,Nat.reduceLT,Nat.reduceLeDiff,Nat.reduceEqDiff,↓reduceIte,Nat.reduceAdd,Bool.not_true]|((with_reducible refine aQ (hpath) ?_ ?_ ?_);exact rfl;exact rfl)|((with_reducible refine aQ (hnode) ?_ ?_ ?_);exact rfl;exact rfl)|((with_reducible refine aQ (dQ hp) ?_ ?_ ?_);exact rfl;exact rfl)|((with_reducible refine aQ (hdir) ?_ ?_ ?_);exact rfl;exact rfl)|refine uG (by omega) hdl ?_|refine zAj (i:=1) (t:=t) rfl hes0 (by omega) hs ?_)
  intro j hj;unfold kL;have hj1:=hj.1;have hat:At t p j:=hj;cases hf:fF t p j
  ·have hnew:=DF (n:=⟨k,m,tt,d⟩) hs hat (fun x hx=>by unfold fF at hf;rw [hx] at hf;exact hf)
   rw [hnew];have hln:(t.take j++(⟨p,⟨k,m,tt,d⟩⟩:It)::t.drop j).length=t.length+1:=by
    rw [List.length_append,List.length_cons,List.length_take,List.length_drop];omega
   rw [hln]
   repeat' (first|simp only [*,go_sem,Nat.reduceLT,Nat.reduceLeDiff,Nat.reduceEqDiff,↓reduceIte,Nat.reduceAdd,Nat.reduceMul,]|((with_reducible refine cH (hcp) ?_ ?_ ?_);exact rfl;exact fun _=>rfl)|refine insert_k (x:=[.s p,.i .i64 k,.i .i64 m,.f tt,.sl 1 (bW d)]) rfl rfl (by decide) hle0 hj1 (by omega) ?_|with_reducible refine aR (fun _=>?_) (fun _=>?_)|((with_reducible refine And.intro ?_ ?_);decide))
   all_goals first|exact .inr ⟨_,rfl⟩|(rw [vG,List.take_of_length_le (by rw [cS,hln];exact Nat.le_refl _)])
  ·unfold fF at hf;have hlt:j<t.length:=by
    rcases Nat.lt_or_ge j t.length with h|h
    ·exact h
    ·rw [List.getElem?_eq_none h] at hf;cases hf
   have hx:t[j]? = some t[j]:=List.getElem?_eq_getElem hlt;rw [hx] at hf;have hset:=AA (n:=⟨k,m,tt,d⟩) hs hat hx hf;rw [hset];have hln:(t.set j ⟨p,⟨k,m,tt,d⟩⟩).length=t.length:=List.length_set
   rw [hln];have hjl:(j:Int)<(t.length:Int):=by omega
   have hgj:=dD (t:=t) (k:=j) hx;have hse:=pK t j ⟨p,⟨k,m,tt,d⟩⟩;clear hx hf hset hat hj;generalize t[j]=y at hgj
   repeat' (first|simp only [*,go_sem,Nat.reduceLT,Nat.reduceLeDiff,Nat.reduceEqDiff,↓reduceIte,Nat.reduceAdd,]|((with_reducible refine cH (hcp) ?_ ?_ ?_);exact rfl;exact fun _=>rfl)|with_reducible refine aR (fun _=>?_) (fun _=>?_)|((with_reducible refine And.intro ?_ ?_);omega))
   all_goals first|exact .inr ⟨_,rfl⟩|(rw [List.take_of_length_le (by rw [hln];exact Nat.le_refl _)])
 ·simp only [if_true];have hs:=hub.srt;have hul:=CM t p;have hsl:=tQ (bS t p) p ⟨k,m,tt,d⟩;have hw:∀ (h:aB) (K:DV→aB→Prop),(∀ es:List (List PV),es.take (bS t p).length=aZ (bS t p)→K (.c (.own (2+h.length) 0 (bS t p).length)) (h++[.box [.p (.s p)],.box [.p (.b false)],.arr 5 es false])) →
    aA Tryz.prog 248 [.c (.p (.sl 5 (aZ t))),.c (.p (.s p)),.c (.p (.b false))] h K:=fun h K hk=>by
   refine zCq hp (by omega) hdl ?_;rw [hgo];exact hk
  refine ent aC aK Tryz.func293 rfl rfl fun X0 hX=>?_;simp only [Tryz.f293,go_sem]
  repeat' (first|simp only [*,go_sem,Nat.reduceLT,Nat.reduceLeDiff,Nat.reduceEqDiff,↓reduceIte,Nat.reduceAdd,Bool.not_true]|((with_reducible refine aQ (hpath) ?_ ?_ ?_);exact rfl;exact rfl)|((with_reducible refine aQ (hnode) ?_ ?_ ?_);exact rfl;exact rfl)|((with_reducible refine aQ (dQ hp) ?_ ?_ ?_);exact rfl;exact rfl)|((with_reducible refine aQ (hdir) ?_ ?_ ?_);exact rfl;exact rfl)|refine uG (by omega) hdl ?_|refine hw _ _ ?_)
  intro es hes;clear hw hgo;generalize bS t p=u at hub hs hul hsl hes ⊢;have hle0:u.length≤es.length:=by
   have:=congrArg List.length hes;rw [List.length_take,cS] at this;omega
  repeat' (first|simp only [*,go_sem,Nat.reduceLT,Nat.reduceLeDiff,Nat.reduceEqDiff,↓reduceIte,Nat.reduceAdd,]|refine zAj (i:=4) (t:=u) rfl hes (by omega) hs ?_)
  intro j hj;unfold kL;have hj1:=hj.1;have hat:At u p j:=hj;cases hf:fF u p j
  ·have hnew:=DF (n:=⟨k,m,tt,d⟩) hs hat (fun x hx=>by unfold fF at hf;rw [hx] at hf;exact hf)
   rw [hnew];have hln:(u.take j++(⟨p,⟨k,m,tt,d⟩⟩:It)::u.drop j).length=u.length+1:=by
    rw [List.length_append,List.length_cons,List.length_take,List.length_drop];omega
   rw [hln]
   repeat' (first|simp only [*,go_sem,Nat.reduceLT,Nat.reduceLeDiff,Nat.reduceEqDiff,↓reduceIte,Nat.reduceAdd,Nat.reduceMul,]|((with_reducible refine cH (hcp) ?_ ?_ ?_);exact rfl;exact fun _=>rfl)|refine insert_k (x:=[.s p,.i .i64 k,.i .i64 m,.f tt,.sl 1 (bW d)]) rfl rfl (by decide) hle0 hj1 (by omega) ?_|with_reducible refine aR (fun _=>?_) (fun _=>?_)|((with_reducible refine And.intro ?_ ?_);decide))
   all_goals first|exact .inr ⟨_,rfl⟩|(rw [vG,List.take_of_length_le (by rw [cS,hln];exact Nat.le_refl _)])
  ·unfold fF at hf;have hlt:j<u.length:=by
    rcases Nat.lt_or_ge j u.length with h|h
    ·exact h
    ·rw [List.getElem?_eq_none h] at hf;cases hf
   have hx:u[j]? = some u[j]:=List.getElem?_eq_getElem hlt;rw [hx] at hf;have hset:=AA (n:=⟨k,m,tt,d⟩) hs hat hx hf;rw [hset];have hln:(u.set j ⟨p,⟨k,m,tt,d⟩⟩).length=u.length:=List.length_set
   rw [hln];have hjl:(j:Int)<(u.length:Int):=by omega
   have hgj:es.getD j []=u[j].cs:=by
    have h1:=dD (t:=u) (k:=j) hx;rw [← hes,List.getD_eq_getElem?_getD,List.getElem?_take,if_pos hlt,← List.getD_eq_getElem?_getD] at h1;exact h1
   have hse:(es.set j [.s p,.i .i64 k,.i .i64 m,.f tt,.sl 1 (bW d)]).take u.length=aZ (u.set j ⟨p,⟨k,m,tt,d⟩⟩):=by
    rw [List.take_set,hes];exact pK u j ⟨p,⟨k,m,tt,d⟩⟩
   have hje:(j:Int)<(es.length:Int):=by omega
   clear hx hf hset hat hj;generalize u[j]=y at hgj;unfold It.cs at hgj
   repeat' (first|simp only [*,go_sem,Nat.reduceLT,Nat.reduceLeDiff,Nat.reduceEqDiff,↓reduceIte,Nat.reduceAdd,]|((with_reducible refine cH (hcp) ?_ ?_ ?_);exact rfl;exact fun _=>rfl)|with_reducible refine aR (fun _=>?_) (fun _=>?_)|((with_reducible refine And.intro ?_ ?_);omega))
   all_goals first|exact .inr ⟨_,rfl⟩|rw [hse]
end Go.Proofs.YtlbfnbldeefgmaaGreatDoor
end
section
namespace Go.Proofs.YtlbfnbldeefgmaaGreatDoor
open Go Go.Dm Go.Proofs
set_option maxRecDepth 100000
set_option maxHeartbeats 8000000
theorem zIS {q:List UInt8} {k m:Int} {tt:Nat} {d p:List UInt8}:aA Tryz.prog 348 [.agg [.p (.s q),.p (.i .i64 k),.p (.i .i64 m),.p (.f tt),.p (.sl 1 (bW d))],.c (.p (.s p))] [] fun r h=>r=.c (.p (.i .i64 (NP q p)))∧h=[]:=by
 refine ent aC aK Tryz.func348 rfl rfl fun X0 hX=>?_;simp only [Tryz.f348,go_sem]
 repeat' (first|simp only [*,go_sem,Nat.reduceLT,Nat.reduceEqDiff,↓reduceIte,]|((with_reducible refine aQ (qK) ?_ ?_ ?_);exact rfl;exact rfl))
theorem QQ {t:List It} {p:List UInt8} (ht:t.length≤1000000) (hs:Srt t):
  aA Tryz.prog 289 [.c (.p (.sl 5 (aZ t))),.c (.p (.s p)),.c (.clo 348 [])] [] fun r h =>
   ∃ i:Nat,AR t p i∧r=kL t p i∧h=[]:=by
 have hmon:∀ (k k':Nat) (x x':It),t[k]? = some x→t[k']? = some x'→k<k'→bZ x.p x'.p=true:=fun k k' x x' h1 h2 h3=>by
  obtain ⟨h4,rfl⟩:=List.getElem?_eq_some_iff.1 h1;obtain ⟨h5,rfl⟩:=List.getElem?_eq_some_iff.1 h2;exact List.pairwise_iff_getElem.1 hs _ _ h4 h5 h3
 refine ent aC aK Tryz.func289 rfl rfl fun X0 hX=>?_;simp only [Tryz.f289,go_sem]
 repeat' (simp only [*,go_sem,Nat.reduceLT,Nat.reduceEqDiff,↓reduceIte,Nat.reduceAdd,])
 refine bQ aC aK (α:=Nat × Nat) (fun x=>⟨49,[(0,.c (.p (.sl 5 (aZ t)))),(1,.c (.p (.s p))),(2,.c (.clo 348 [])),(8,.c (.p (.i .i64 t.length))),(9,.c (.p (.i .i64 x.1))),(10,.c (.p (.i .i64 x.2)))],[]⟩)
  (fun x=>x.1≤x.2∧x.2≤t.length∧∀ k y,t[k]? = some y→(k<x.1→bZ y.p p=true)∧(x.2≤k→bZ y.p p=false)) (fun x=>x.2-x.1) (0,t.length) ⟨Nat.zero_le _,Nat.le_refl _,fun k y hy=>⟨fun h=>by omega,fun h=>by rw [List.getElem?_eq_none h] at hy;cases hy⟩⟩ (.inl (aJ (by rw [hX];rfl) rfl rfl (by simp [aH,aN,aD,aL,aG,]))) ?_
 rintro ⟨i,j⟩ ⟨hij,hj,hl⟩;simp only at hij hj hl;by_cases hlt:i<j
 ·have h1:decide ((i:Int)<(j:Int))=true:=decide_eq_true (by omega);have w1:IntKind.i64.wrap ((i:Int)+j)=(i:Int)+j:=wrap_i64 (by omega) (by omega);have w2:IntKind.u64.wrap ((i:Int)+j)=(i:Int)+j:=wrap_u64 (by omega) (by omega);obtain ⟨m,hm,hmi,hmj⟩:∃ m:Nat,((i:Int)+j).fdiv (2 ^ min 1 64)=(m:Int)∧i≤m∧m<j :=
   ⟨(i+j) / 2,by rw [show (2:Int) ^ min 1 64=2 from rfl,Int.fdiv_eq_ediv_of_nonneg _ (by decide)];omega,by omega,by omega⟩
  have w3:IntKind.i64.wrap (m:Int)=m:=wrap_i64 (by omega) (by omega);have w4:IntKind.i64.wrap ((m:Int)+1)=m+1:=wrap_i64 (by omega) (by omega);have hml:m<t.length:=by omega
  have hx:t[m]? = some t[m]:=List.getElem?_eq_getElem hml;have hg:=dD hx;generalize t[m]=x at hx hg
  repeat' (first|simp only [*,go_sem,Nat.reduceLT,Nat.reduceLeDiff,Nat.reduceEqDiff,↓reduceIte,Nat.reduceAdd,Int.reduceLE,Int.reduceToNat,]|((with_reducible refine aQ (zIS) ?_ ?_ ?_);exact rfl;exact rfl)|with_reducible refine aR (fun _=>?_) (fun _=>?_)|((with_reducible refine And.intro ?_ ?_);omega))
  ·rename_i hb;have hb:bZ x.p p=true:=by rw [← nU];exact hb
   exact jC (m+1,j) ⟨by simp only;omega,hj,fun k y hy=>⟨fun hk=>by
    rcases Nat.lt_or_ge k m with h|h
    ·exact cO (hmon _ _ _ _ hy hx h) hb
    ·have:k=m:=by simp only at hk;omega
     subst this;rw [hx] at hy;cases hy;exact hb,(hl k y hy).2⟩⟩ (by simp only;omega) (aJ rfl rfl rfl (by simp [aH,aN,aD,aL,aG,]))
  ·rename_i hb;have hb:bZ x.p p=false:=by rw [← nU];exact hb
   exact jC (i,m) ⟨hmi,by simp only;omega,fun k y hy=>⟨(hl k y hy).1,fun hk=>by
    rcases Nat.lt_or_ge m k with h|h
    ·cases hc:bZ y.p p
     ·rfl
     ·have:=cO (hmon _ _ _ _ hx hy h) hc;rw [hb] at this;cases this
    ·have:k=m:=by simp only at hk;omega
     subst this;rw [hx] at hy;cases hy;exact hb⟩⟩ (by simp only;omega) (aJ rfl rfl rfl (by simp [aH,aN,aD,aL,aG,]))
 ·have h1:decide ((i:Int)<(j:Int))=false:=decide_eq_false (by omega);have:i=j:=by omega
  subst this;by_cases hil:i<t.length
  ·have hx:t[i]? = some t[i]:=List.getElem?_eq_getElem hil;have hg:=dD hx;have h2:decide ((i:Int)<(t.length:Int))=true:=decide_eq_true (by omega);generalize t[i]=x at hx hg
   repeat' (first|simp only [*,go_sem,Nat.reduceLT,Nat.reduceLeDiff,Nat.reduceEqDiff,↓reduceIte,Nat.reduceAdd,]|((with_reducible refine aQ (zIS) ?_ ?_ ?_);exact rfl;exact rfl)|((with_reducible refine And.intro ?_ ?_);omega))
   refine ⟨i,⟨hj,hl⟩,?_⟩;simp only [kL,fF,hx,KI]
  ·have h2:decide ((i:Int)<(t.length:Int))=false:=decide_eq_false (by omega)
   repeat' (simp only [*,go_sem,Nat.reduceLT,Nat.reduceEqDiff,↓reduceIte,])
   refine ⟨i,⟨hj,hl⟩,?_⟩;simp only [kL,fF,List.getElem?_eq_none (Nat.le_of_not_lt hil)]
theorem QP {h:aB} {i n:Nat} {es:List (List PV)} {t:List It} {p:List UInt8} {K:DV→aB→Prop} (h0:h[i]? = some (.arr 5 es false)) (hes:es.take n=aZ t) (ht:t.length≤1000000) (hs:Srt t) (hk:∀ j,AR t p j→K (kL t p j) h):
  aA Tryz.prog 289 [.c (.own i 0 n),.c (.p (.s p)),.c (.clo 348 [])] h K :=
 zJa (R:=fun d=>∃ j,AR t p j∧d=kL t p j) rfl rfl hes (aA.mono (QQ ht hs) fun d h' ⟨j,a,b,c⟩=>⟨⟨j,a,b⟩,c⟩) h0 (fun d ⟨j,h1,h2⟩=>by subst h2;exact ⟨rfl,hk j h1⟩)
theorem PK {h:aB} {i n:Nat} {es:List (List PV)} {t:List It} {p:List UInt8} {K:DV→aB→Prop} (h0:h[i]? = some (.arr 5 es false)) (hes:es.take n=aZ t) (ht:t.length≤1000000) (hs:Srt t) (hk:K (.c (.p (.b (aU t p)))) h):
  aA Tryz.prog 223 [.c (.own i 0 n),.c (.p (.s p))] h K :=
 VS rfl hes (eG ht hs) h0 (fun d h1=>by subst h1;exact ⟨rfl,hk⟩)
theorem zEC {h:aB} {i n:Nat} {es:List (List PV)} {t:List It} {K:DV→aB→Prop} (h0:h[i]? = some (.arr 5 es false)) (hes:es.take n=aZ t) (hl:t.length≤1000000) (hp:∀ x∈t,x.p.length≤1000000000) (ht:∀ x∈t,x.n.t<18446744073709551616) (hk:K (.c (.p (.b (lG t)))) h):
  aA Tryz.prog 158 [.c (.own i 0 n)] h K :=
 zKm hes (JL hl hp ht) h0 (fun d h1=>by subst h1;exact ⟨rfl,hk⟩)
theorem zGW (t:List It) (x:En):lJ t x=t.filter fun y=>!goC x.p (lQ t x) y:=rfl
theorem LO {t:List It} {l:List En} (ht:OkT t) (h:OkE l):
  aA Tryz.prog 232 [.c (.p (.sl 5 (aZ t))),.c (.p (.sl 7 (eZ l)))] [] fun r h=>r=.tup [.c (.p (.sl 5 (aZ (oF t l).1))),.c (.p (.b (oF t l).2))]∧h=[]:=by
 have hR:=GM h;have htl:=ht.len;have hll:=h.len;have hdl:∀ x∈t,x.n.d.length≤140737488355328:=fun x hx=>Nat.le_trans (ht.dlen x hx) (by decide);refine bN ?_;refine ent aC aK Tryz.func232 rfl rfl fun X0 hX=>?_;simp only [Tryz.f232,go_sem]
 repeat' (first|simp only [*,go_sem,Nat.reduceLT,Nat.reduceEqDiff,↓reduceIte,Bool.not_true]|((with_reducible refine aQ (hR) ?_ ?_ ?_);exact rfl;exact rfl)|refine uG (by omega) hdl ?_)
 refine bQ aC aK (α:=Nat × List (List PV)) (fun x=>⟨28,[(14,.c (.p (.sl 7 (eZ l)))),(15,.c (.p (.i .i64 l.length))),(16,.c (.p (.i .i64 x.1))),(6,.c (.own 0 0 (eR t (l.take x.1)).length))],[.arr 5 x.2 false]⟩)
  (fun x=>x.1≤l.length∧x.2.take (eR t (l.take x.1)).length=aZ (eR t (l.take x.1))) (fun x=>l.length-x.1) (0,aZ t) ⟨Nat.zero_le _,List.take_of_length_le (Nat.le_of_eq (cS t))⟩ (.inl (aJ (by rw [hX];rfl) rfl rfl (by simp [aH,aN,aD,aL,aG,eR]))) ?_
 rintro ⟨k,es⟩ ⟨hk,hes⟩;simp only at hk hes;have hus:Srt (eR t (l.take k)):=wE ht.srt;have hul:(eR t (l.take k)).length≤t.length+k:=HE t l k;by_cases hlt:k<l.length
 ·have hx:l[k]? = some l[k]:=List.getElem?_eq_getElem hlt;have hg:=nX hx;have h1:decide ((k:Int)<(l.length:Int))=true:=decide_eq_true (by omega);have w1:IntKind.i64.wrap ((k:Int)+1)=k+1:=wrap_i64 (by omega) (by omega);have hnx:eR t (l.take (k+1))=jI (eR t (l.take k)) l[k]:=by
   unfold eR;rw [List.take_add_one,hx,List.foldl_append];rfl
  have p1:=h.plen _ (List.getElem_mem hlt);have p2:=h.dlen _ (List.getElem_mem hlt);have p3:l[k].n.d.length≤140737488355328:=by omega
  generalize l[k]=x at hx hg hnx p1 p2 p3;generalize eR t (l.take k)=u at hes hus hul hnx;have hsplit:es=aZ u++es.drop u.length:=by rw [← hes,List.take_append_drop]
  generalize es.drop u.length=J at hsplit;subst hsplit;have hlu:=HD u x;have hll1:=GN u x;have hls:=vQ hus x;have hno:=zEc (t:=u) (x:=x);have hsh:=NA (p:=x.p) (k:=x.k) (o:=x.o) (nk:=x.n.k) (nm:=x.n.m) (nt:=x.n.t) (nd:=x.n.d);rw [show (⟨x.p,x.k,x.o,⟨x.n.k,x.n.m,x.n.t,x.n.d⟩⟩:En)=x from rfl] at hsh
  have hcv:lQ u x=(x.o || (gP x || !aU u x.p)):=rfl;have hlg:=zGW u x;have hcp:=EN (k:=x.n.k) (m:=x.n.m) (t:=x.n.t) (d:=x.n.d) p3;clear h hx hdl ht;have hes2:(aZ u++J).take u.length=aZ u:=List.take_left' (cS u);have hN:=PLift.up hnx;have hE:=PLift.up hes2;have hLG:=PLift.up hlg;have hNo:=PLift.up hno;clear hnx hes hes2 hlg hno;by_cases c4:(x.k == 2)=true
  ·have ho:jI u x=lJ u x:=by unfold jI;rw [if_pos c4]
   cases c1:x.o <;> cases c2:gP x <;> cases c3:aU u x.p
   all_goals rw [c1,c2,c3] at hcv
   all_goals rw [c1,c2] at hsh
   all_goals simp only [Bool.not_true,Bool.not_false,Bool.or_true,Bool.or_false,] at hcv
   all_goals have hdo:=fun (h:aB) (i:Nat) (K:DV→aB→Prop) (h0:h[i]? = some (.arr 5 (aZ u++J) false)) (hk:K (.c (.p (.b (aU u x.p)))) h)=>PK (p:=x.p) h0 hE.down (by omega) hus hk
   all_goals rw [c3] at hdo
   all_goals rw [hcv] at hLG
   all_goals repeat' (first|simp only [*,go_sem,Nat.reduceLT,Nat.reduceLeDiff,Nat.reduceEqDiff,↓reduceIte,Nat.reduceAdd,Bool.not_true,Bool.not_false]|((with_reducible refine PC aC aK Tryz.func285 rfl rfl fun _ _=>?_);simp only [Tryz.f285,go_sem])|((with_reducible refine aQ (hsh) ?_ ?_ ?_);exact rfl;exact rfl)|refine hdo _ 0 _ rfl ?_|refine zB (by omega) (by omega) ?_|((with_reducible refine And.intro ?_ ?_);omega))
   all_goals intro es' hes'
   all_goals rw [← hLG.down] at hes' ⊢
   all_goals repeat' (first|simp only [*,go_sem,Nat.reduceLT,Nat.reduceLeDiff,Nat.reduceEqDiff,↓reduceIte,Nat.reduceAdd,Nat.reduceSub,Nat.reduceMul,Int.reduceLT,Int.reduceLE,Int.reduceAdd,Int.reduceSub,Int.reduceMul,Int.reduceNeg,Int.reduceToNat,Int.reduceEq,Int.reduceBEq,Int.reduceBNe,Nat.reduceBEq,beq_self_eq_true,bne_self_eq_false]|with_reducible refine aR (fun _=>?_) (fun _=>?_)|with_reducible refine cL (fun _=>?_) (fun _=>?_)|((with_reducible apply aA.frz);exact rfl;exact rfl)|((with_reducible refine And.intro ?_ ?_);((first|omega|decide|assumption|(simp only [decide_eq_true_eq,decide_eq_false_iff_not] at *;omega)))))
   all_goals exact jC (k+1,es') ⟨by simp only;omega,by rw [hN.down,ho];exact hes'⟩ (by simp only;omega) (aJ rfl rfl rfl (by simp [aH,aN,aD,aL,aG,hN.down,ho]))
  ·have c4:(x.k == 2)=false:=by simpa using c4
   have ho:jI u x=sZ (lJ u x) x.p x.n:=by unfold jI;rw [if_neg (by rw [c4];decide)]
   cases c1:x.o <;> cases c2:gP x <;> cases c3:aU u x.p
   all_goals rw [c1,c2,c3] at hcv
   all_goals rw [c1,c2] at hsh
   all_goals simp only [Bool.not_true,Bool.not_false,Bool.or_true,Bool.or_false,] at hcv
   all_goals have hdo:=fun (h:aB) (i:Nat) (K:DV→aB→Prop) (h0:h[i]? = some (.arr 5 (aZ u++J) false)) (hk:K (.c (.p (.b (aU u x.p)))) h)=>PK (p:=x.p) h0 hE.down (by omega) hus hk
   all_goals rw [c3] at hdo
   all_goals rw [hcv] at hLG
   all_goals repeat' (first|simp only [*,go_sem,Nat.reduceLT,Nat.reduceLeDiff,Nat.reduceEqDiff,↓reduceIte,Nat.reduceAdd,Bool.not_true,Bool.not_false]|((with_reducible refine PC aC aK Tryz.func285 rfl rfl fun _ _=>?_);simp only [Tryz.f285,go_sem])|((with_reducible refine aQ (hsh) ?_ ?_ ?_);exact rfl;exact rfl)|refine hdo _ 0 _ rfl ?_|refine zB (by omega) (by omega) ?_|((with_reducible refine And.intro ?_ ?_);omega))
   all_goals intro es' hes'
   all_goals rw [← hLG.down] at hes' ⊢
   all_goals repeat' (first|simp only [*,go_sem,Nat.reduceLT,Nat.reduceEqDiff,↓reduceIte,]|refine QP (i:=0) (t:=lJ u x) rfl hes' (by omega) hls ?_)
   all_goals intro j hj
   all_goals unfold kL
   all_goals have hj1:=hj.1
   all_goals have hat:At (lJ u x) x.p j:=hj
   all_goals have hnew:=DF (n:=x.n) hls hat (fun y hy=>hNo.down y (List.mem_of_getElem? hy))
   all_goals have hle:(lJ u x).length≤es'.length:=by have:=congrArg List.length hes';rw [List.length_take,cS] at this;omega
   all_goals have hjm:(j:Int)≤((lJ u x).length:Int):=by omega
   all_goals clear hat hj
   all_goals repeat' (first|simp only [*,go_sem,Nat.reduceLT,Nat.reduceEqDiff,↓reduceIte,]|((refine aO (id:=6) aC aK [8,9] [2,3,4,5,6,7,8,0,1,9,10] (by decide +kernel) ?_);(repeat' (first|(refine bC ?_)|((refine dB ?_ ?_ rfl rfl rfl ?_ ?_);(rotate_left 2);(focus ((repeat' (first|simp only [*,go_sem,Nat.reduceLT,Nat.reduceLeDiff,Nat.reduceEqDiff,↓reduceIte,Nat.reduceAdd,Nat.reduceMul,]|refine insert_k (x:=[.s x.p,.i .i64 x.n.k,.i .i64 x.n.m,.f x.n.t,.sl 1 (bW x.n.d)]) rfl rfl (by decide) hle hj1 (by omega) ?_|((with_reducible refine And.intro ?_ ?_);decide)));((refine And.intro ?_ ?_ <;> exact rfl))));(simp only [aF]))|((refine dA ?_ rfl rfl rfl ?_ ?_);(rotate_left 1);(focus ((repeat' (first|exact bI|refine bA ?_ ?_));(all_goals ((repeat' (first|simp only [*,go_sem,Nat.reduceLT,Nat.reduceLeDiff,Nat.reduceEqDiff,↓reduceIte,Nat.reduceAdd,]|((with_reducible refine cH (hcp) ?_ ?_ ?_);exact rfl;exact fun _=>rfl)));(try (exact rfl))))));(simp only [aF]))))))
   all_goals have hrow:aZ (jI u x)=eU j [.s x.p,.i .i64 x.n.k,.i .i64 x.n.m,.f x.n.t,.sl 1 (bW x.n.d)] (aZ (lJ u x)):=by rw [ho,hnew];exact (vG (lJ u x) j x.p x.n.k x.n.m x.n.t x.n.d).symm
   all_goals have hln:(jI u x).length=(lJ u x).length+1:=by rw [ho,hnew,List.length_append,List.length_cons,List.length_take,List.length_drop];omega
   all_goals exact zK (k+1,aZ (jI u x)) 0 6 ⟨by simp only;omega,by rw [hN.down];exact List.take_of_length_le (Nat.le_of_eq (cS _))⟩ (by simp only;omega) rfl rfl (aJ rfl (by rw [hrow];rfl) rfl (by simp [aH,aN,aD,aL,aG,zBF,WC,zBD,hN.down,hln]))
 ·have h1:decide ((k:Int)<(l.length:Int))=false:=decide_eq_false (by omega);have hk2:k=l.length:=by omega
  subst hk2;rw [List.take_length] at hes hus hul;rw [List.take_length];have hmem:∀ y∈eR t l,y.p.length≤1000000000∧y.n.t<18446744073709551616:=fun y hy=>by
   rcases wD hy with hy|⟨x,hx,rfl⟩
   ·exact ⟨Nat.le_trans (ht.plen y hy) (by decide),ht.tlen y hy⟩
   ·exact ⟨Nat.le_trans (h.plen x hx) (by decide),h.tlen x hx⟩
  have hro:=fun (h:aB) (K:DV→aB→Prop) (h0:h[0]? = some (.arr 5 es false)) (hk:K (.c (.p (.b (lG (eR t l))))) h)=>zEC (t:=eR t l) (i:=0) h0 hes (by omega) (fun x hx=>(hmem x hx).1) (fun x hx=>(hmem x hx).2) hk;unfold oF;have hE:=PLift.up hes;clear hes hmem hdl ht h hlt;generalize eR t l=u at *;cases c1:lG u
  ·rw [c1] at hro
   repeat' (first|simp only [*,go_sem,Nat.reduceLT,Nat.reduceEqDiff,↓reduceIte,Bool.not_false]|refine hro _ _ rfl ?_)
   all_goals exact .inr ⟨_,rfl⟩
  ·rw [c1] at hro
   repeat' (first|simp only [*,go_sem,Nat.reduceLT,Nat.reduceEqDiff,↓reduceIte,Bool.not_true]|refine hro _ _ rfl ?_)
   all_goals rw [hE.down]
end Go.Proofs.YtlbfnbldeefgmaaGreatDoor
end
