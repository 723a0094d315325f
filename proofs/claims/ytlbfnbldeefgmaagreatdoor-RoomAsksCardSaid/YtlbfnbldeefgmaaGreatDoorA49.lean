/- Part 50 of the proof of roomAsks_card, set without needless blanks. No condition. -/
import Derived.Test.YtlbfnbldeefgmaaGreatDoorA48
set_option linter.all false
section
namespace Go.Proofs.YtlbfnbldeefgmaaGreatDoor
open Go Go.Dm
set_option maxRecDepth 100000
set_option maxHeartbeats 4000000
theorem zJn {l:List (List UInt8)} {s:List UInt8} (hl:l.length≤1000000):
  aA Tryz.prog 159 [.c (.p (.sl 1 (Go.Dm.encS l))),.c (.p (.s s))] [] fun r h=>r=.c (.p (.sl 1 (Go.Dm.encS (CA s l))))∧h=[]:=by
 refine ent aB aK Tryz.func159 rfl rfl fun X0 hX=>?_;simp only [Tryz.f159,go_sem]
 repeat' (simp only [*,go_sem,Nat.reduceLT,])
 refine aY aB aK (α:=Nat) (fun k=>⟨48,[(0,.c (.p (.sl 1 (Go.Dm.encS l)))),(1,.c (.p (.s s))),(5,.c (.p (.i .i64 k)))],[]⟩)
  (fun k=>k≤l.length∧∀ j x,l[j]? = some x→j<k→bL x s=true) (fun k=>l.length-k) 0 ⟨Nat.zero_le _,fun j x _ h=>by omega⟩ (.inl (aI (by rw [hX];rfl) rfl rfl (by simp [aH,aL,aD,aJ,aF,]))) ?_
 rintro k ⟨hk,hs⟩;by_cases hlt:k<l.length
 ·have hx:l[k]? = some l[k]:=List.getElem?_eq_getElem hlt;have hg:=Go.Dm.encS_at hx;have h1:decide ((k:Int)<(l.length:Int))=true:=decide_eq_true (by omega);have w1:IntKind.i64.wrap ((k:Int)+1)=k+1:=wrap_i64 (by omega) (by omega);have hli:(k:Int)≤(l.length:Int):=by omega
  have hli2:(k:Int)<(l.length:Int):=by omega
  have hmin:min k l.length=k:=Nat.min_eq_left hk;have hk0:(0:Int)≤(k:Int):=by omega
  have ht1:(l.take k).length=k:=by rw [List.length_take];exact hmin
  have ht2:(l.drop k).length=l.length-k:=List.length_drop;generalize l[k]=x at hx hg;cases hb:bL x s
  ·have hat:=RE (s:=s) hk hs (fun y hy=>by rw [hx] at hy;cases hy;exact hb)
   rw [hx] at hat;simp only at hat;rw [hat];clear hat hs hx;cases he:(x == s)
   ·repeat' (first|simp only [*,go_sem,Nat.reduceLT,Nat.reduceLeDiff,Nat.reduceEqDiff,↓reduceIte,Nat.reduceAdd,Int.reduceLE,Int.reduceToNat,Nat.reduceBEq,Bool.false_eq_true]|((with_reducible refine And.intro ?_ ?_);((first|omega|decide))))
    rw [List.take_of_length_le (by simp;omega)];simp
   ·repeat' (simp only [*,go_sem,Nat.reduceLT,Nat.reduceEqDiff,↓reduceIte,])
  ·have hs':k+1≤l.length∧∀ j y,l[j]? = some y→j<k+1→bL y s=true:=⟨by omega,fun j y hy hj=>by
    rcases Nat.lt_or_ge j k with h|h
    ·exact hs j y hy h
    ·have:j=k:=by omega
     subst this;rw [hx] at hy;cases hy;exact hb⟩
   clear hs hx
   repeat' (simp only [*,go_sem,Nat.reduceLT,Nat.reduceEqDiff,↓reduceIte,])
   exact fD (k+1) hs' (by omega) (aI rfl rfl rfl (by simp [aH,aL,aD,aJ,aF,]))
 ·have h1:decide ((k:Int)<(l.length:Int))=false:=decide_eq_false (by omega);have hkl:k=l.length:=by omega
  subst hkl;have hx:l[l.length]? = none:=List.getElem?_eq_none (Nat.le_refl _);have hat:=RE (s:=s) hk hs (fun y hy=>by rw [hx] at hy;cases hy)
  rw [hx] at hat;simp only at hat;rw [hat];clear hat hs hx;have hdl:l.drop l.length=[]:=List.drop_length
  repeat' (first|simp only [*,go_sem,Nat.reduceLT,Nat.reduceLeDiff,Nat.reduceEqDiff,↓reduceIte,Nat.reduceAdd,Int.reduceLE,Int.reduceToNat,Nat.reduceBEq,List.append_nil,List.length_nil,Nat.add_zero]|((with_reducible refine And.intro ?_ ?_);((first|omega|decide))))
  rw [List.take_of_length_le (by simp)]
theorem zJY {ts:List (List It)} (hl:ts.length≤3) (ht:∀ t∈ts,t.length≤120):
  aA Tryz.prog 83 [.c (.p (.sl 1 (ts.map fun t=>[.sl 5 (aU t)])))] [] fun r h=>r=.c (.p (.sl 1 (Go.Dm.encS (ts.foldl dZ []))))∧h=[]:=by
 have hgen:(ts.map fun t=>[PV.sl 5 (aU t)]).length=ts.length:=List.length_map _;have hone:(∀ x∈(ts.map fun t=>[PV.sl 5 (aU t)]),x.length=1)=True:=eq_true fun x hx=>by
  obtain ⟨t,_,rfl⟩:=List.mem_map.1 hx;rfl
 have hat:∀ i t,ts[i]? = some t→(ts.map fun t=>[PV.sl 5 (aU t)]).getD i []=[.sl 5 (aU t)]:=fun i t h=>by
  simp only [List.getD_eq_getElem?_getD,List.getElem?_map,h];rfl
 generalize (ts.map fun t=>[PV.sl 5 (aU t)])=arg at *;refine ent aB aK Tryz.func83 rfl rfl fun X0 hX=>?_;simp only [Tryz.f83,go_sem]
 repeat' (simp only [*,go_sem,Nat.reduceLT,])
 refine zKC 3 1 rfl ?_;refine aY aB aK (α:=Nat) (fun i=>⟨32,[(0,.c (.p (.sl 1 arg))),(3,.c (.p (.sl 1 (Go.Dm.encS ((ts.take i).foldl dZ []))))),(4,.c (.p (.i .i64 i)))],[]⟩)
  (fun i=>i≤ts.length∧((ts.take i).foldl dZ []).length≤120*i) (fun i=>ts.length-i) 0 ⟨Nat.zero_le _,Nat.le_refl _⟩ (.inl (aI (by rw [hX];rfl) rfl rfl (by simp [aH,aL,aD,aJ,aF,lL]))) ?_
 rintro i ⟨hi,hol⟩;by_cases hlt:i<ts.length
 ·have hx:ts[i]? = some ts[i]:=List.getElem?_eq_getElem hlt;have hg:=hat _ _ hx;have h1:decide ((i:Int)<(ts.length:Int))=true:=decide_eq_true (by omega);have hli:(i:Int)<(ts.length:Int):=by omega
  have w1:IntKind.i64.wrap ((i:Int)+1)=i+1:=wrap_i64 (by omega) (by omega);have htl:=ht _ (List.getElem_mem hlt);have hnext:(ts.take (i+1)).foldl dZ []=dZ ((ts.take i).foldl dZ []) ts[i]:=by
   rw [List.take_add_one,hx,List.foldl_append];rfl
  generalize ts[i]=t at hx hg htl hnext;generalize (ts.take i).foldl dZ []=o at hol hnext;clear hat hx
  repeat' (simp only [*,go_sem,Nat.reduceLT,Nat.reduceEqDiff,↓reduceIte,])
  refine aY aB aK (α:=Nat) (fun k=>⟨32,[(0,.c (.p (.sl 1 arg))),(3,.c (.p (.sl 1 (Go.Dm.encS (dZ o (t.take k)))))),(4,.c (.p (.i .i64 i))),(5,.c (.p (.i .i64 k)))],[]⟩)
   (fun k=>k≤t.length) (fun k=>t.length-k) 0 (Nat.zero_le _) (.inl (aI (by rw [hX];rfl) rfl rfl (by simp [aH,aL,aD,aJ,aF,dZ]))) ?_
  intro k hk;by_cases hkl:k<t.length
  ·have hy:t[k]? = some t[k]:=List.getElem?_eq_getElem hkl;have hg2:=cQ hy;have h2:decide ((k:Int)<(t.length:Int))=true:=decide_eq_true (by omega);have w2:IntKind.i64.wrap ((k:Int)+1)=k+1:=wrap_i64 (by omega) (by omega);have hn2:dZ o (t.take (k+1))=CA t[k].p (dZ o (t.take k)):=by
    unfold dZ;rw [List.take_add_one,hy,List.foldl_append];rfl
   have hle:(dZ o (t.take k)).length≤o.length+k:=by
    have:=kX (t.take k) o;rw [List.length_take] at this;omega
   generalize t[k]=y at hy hg2 hn2;generalize hq:dZ o (t.take k)=q at hle hn2;clear hq hy hnext
   repeat' (first|simp only [*,go_sem,Nat.reduceLT,Nat.reduceEqDiff,↓reduceIte,]|((with_reducible refine kM (zJn (by omega)) ?_ ?_ ?_);exact rfl;exact fun _=>rfl)|((with_reducible refine And.intro ?_ ?_);omega))
   exact fD (k+1) (by omega) (by omega) (aI rfl rfl rfl (by simp [aH,aL,aD,aJ,aF,hn2]))
  ·have h2:decide ((k:Int)<(t.length:Int))=false:=decide_eq_false (by omega);rw [List.take_of_length_le (by omega)];have hle:=kX t o;rw [← hnext] at hle ⊢;have hfin:i+1≤ts.length∧((ts.take (i+1)).foldl dZ []).length≤120*(i+1):=⟨by omega,by omega⟩
   clear hnext hle
   repeat' (first|simp only [*,go_sem,Nat.reduceLT,Nat.reduceEqDiff,↓reduceIte,]|((with_reducible refine And.intro ?_ ?_);omega))
   exact fD (i+1) hfin (by omega) (aI rfl rfl rfl (by simp [aH,aL,aD,aJ,aF,]))
 ·have h1:decide ((i:Int)<(ts.length:Int))=false:=decide_eq_false (by omega);rw [List.take_of_length_le (by omega)]
  repeat' (simp only [*,go_sem,Nat.reduceLT,Nat.reduceEqDiff,↓reduceIte,])
theorem ML {k m k' m':Int} {t t':Nat} {d d':List UInt8} (p q:Bool):aA Tryz.prog 85 [.agg (ndc k m t d),.agg (ndc k' m' t' d'),.c (.p (.b p)),.c (.p (.b q))] [] fun r h=>r=.c (.p (.i .i64 (AX ⟨k,m,t,d⟩ ⟨k',m',t',d'⟩ p q)))∧h=[]:=by
 cases p <;> cases q
 all_goals
  refine ent aB aK Tryz.func85 rfl rfl fun X0 hX=>?_;simp only [Tryz.f85,go_sem]
 all_goals repeat' (first|simp only [*,go_sem,Nat.reduceLT,Nat.reduceEqDiff,↓reduceIte,Nat.reduceAdd,]|with_reducible refine aO (fun _=>?_) (fun _=>?_))
 all_goals simp_all [AX]
end Go.Proofs.YtlbfnbldeefgmaaGreatDoor
end
section
namespace Go.Proofs.YtlbfnbldeefgmaaGreatDoor
open Go Go.Dm
set_option maxRecDepth 100000
set_option maxHeartbeats 4000000
theorem zD7 {a b:List It} (ha:OkT a) (hb:OkT b):aA Tryz.prog 31 [.c (.p (.sl 5 (aU a))),.c (.p (.sl 5 (aU b)))] [] fun r h=>r=.c (.p (.sl 10 (pD (GQ a b))))∧h=[]:=by
 have hal:=ha.len;have hbl:=hb.len;have hp:=zJY (ts:=[a,b]) (by simp) (by intro t ht;simp at ht;rcases ht with rfl|rfl <;> assumption);simp only [List.map_cons,List.map_nil,List.foldl_cons,List.foldl_nil] at hp;have hpl:(uV a b).length≤240:=by
  have h1:=kX a [];have h2:=kX b (dZ [] a);simp only [List.length_nil] at h1;unfold uV;omega
 change aA _ _ _ _ (fun r h=>r=.c (.p (.sl 1 (Go.Dm.encS (uV a b))))∧h=[]) at hp;unfold GQ;generalize uV a b=ps at hp hpl;refine ent aB aK Tryz.func31 rfl rfl fun X0 hX=>?_;simp only [Tryz.f31,go_sem]
 repeat' (first|simp only [*,go_sem,Nat.reduceLT,Nat.reduceLeDiff,Nat.reduceEqDiff,↓reduceIte,]|((with_reducible refine kM (hp) ?_ ?_ ?_);exact rfl;exact fun _=>rfl)|((with_reducible apply aA.frz);exact rfl;exact rfl)|((with_reducible refine And.intro ?_ ?_);decide))
 refine mB aB aK 5 10 rfl ?_;refine aY aB aK (α:=Nat × List Ch) (fun x=>⟨65,[(0,.c (.p (.sl 5 (aU a)))),(1,.c (.p (.sl 5 (aU b)))),(6,.c (.p (.sl 1 (Go.Dm.encS ps)))),(7,.c (.p (.i .i64 x.1))),(5,.c (.own 1 0 x.2.length))],[.arr 1 [[.sl 5 (aU a)],[.sl 5 (aU b)]] true,.arr 10 (pD x.2) false]⟩)
  (fun x=>x.1≤ps.length∧x.2.length≤x.1∧x.2++mL a b (ps.drop x.1)=mL a b ps) (fun x=>ps.length-x.1) (0,[]) ⟨Nat.zero_le _,Nat.le_refl _,rfl⟩ (.inl (aI (by rw [hX];rfl) rfl rfl (by simp [aH,aL,aD,aJ,aF,vZ]))) ?_
 rintro ⟨k,out⟩ ⟨hk,hol,hout⟩;simp only at hk hol hout;by_cases hlt:k<ps.length
 ·have hx:ps[k]? = some ps[k]:=List.getElem?_eq_getElem hlt;have hd:=drop_at hx;have hg:=Go.Dm.encS_at hx;have h1:decide ((k:Int)<(ps.length:Int))=true:=decide_eq_true (by omega);have w1:IntKind.i64.wrap ((k:Int)+1)=k+1:=wrap_i64 (by omega) (by omega);generalize ps[k]=p at hx hg hd;rw [hd,mL,zHk] at hout;have g1:=xZ (t:=a) (p:=p) (by omega);have g2:=xZ (t:=b) (p:=p) (by omega);clear hp hx hd;generalize (aQ a p).getD nd0=x at g1 hout;generalize (aQ a p).isSome=u at g1 hout;generalize (aQ b p).getD nd0=y at g2 hout;generalize (aQ b p).isSome=v at g2 hout;cases hq:(u && v && gE x y)
  ·rw [hq,if_neg (by decide)] at hout;have hJ:k+1≤ps.length∧(out++[(⟨p,AX x y u v,x,y⟩:Ch)]).length≤k+1∧(out++[(⟨p,AX x y u v,x,y⟩:Ch)])++mL a b (ps.drop (k+1))=mL a b ps:=⟨by omega,by simp;omega,by simpa using hout⟩
   clear hout;cases u <;> cases v
   case true.true =>
    have hq2:gE x y=false:=by simpa using hq
    clear hq
    repeat' (first|simp only [*,go_sem,Nat.reduceLT,Nat.reduceLeDiff,Nat.reduceEqDiff,↓reduceIte,Nat.reduceAdd,]|((with_reducible refine kM (g1) ?_ ?_ ?_);exact rfl;exact fun _=>rfl)|((with_reducible refine kM (g2) ?_ ?_ ?_);exact rfl;exact fun _=>rfl)|((with_reducible refine dM (uB) ?_ ?_ ?_);exact rfl;exact rfl)|((refine aN (id:=9) aB aK [13,14] [1,2,3,4,5,6,7,8,9,10,11,12,13,0,14,15] (by decide +kernel) ?_);(repeat' (first|(refine aT ?_)|((refine cV ?_ ?_ rfl rfl rfl ?_ ?_);(rotate_left 2);(focus ((repeat' (first|simp only [*,go_sem,Nat.reduceLT,Nat.reduceLeDiff,Nat.reduceEqDiff,↓reduceIte,Nat.reduceAdd,Nat.reduceMul,Nat.reduceBEq,]|((with_reducible refine And.intro ?_ ?_);((first|omega|decide)))));((refine And.intro ?_ ?_ <;> exact rfl))));(simp only [aG]))|((refine cU ?_ rfl rfl rfl ?_ ?_);(rotate_left 1);(focus ((repeat' (first|exact bG|refine aZ ?_ ?_));(all_goals ((repeat' (first|simp only [*,go_sem,Nat.reduceLT,Nat.reduceLeDiff,Nat.reduceEqDiff,↓reduceIte,Nat.reduceAdd,]|((with_reducible refine dM (ML _ _) ?_ ?_ ?_);exact rfl;exact rfl)|((with_reducible refine And.intro ?_ ?_);omega)));(try (exact rfl))))));(simp only [aG])))))|((with_reducible refine And.intro ?_ ?_);omega))
    exact gV (k+1,out++[⟨p,AX x y true true,x,y⟩]) 1 5 hJ (by simp only;omega) rfl rfl (aI rfl rfl rfl (by simp [aH,aL,aD,aJ,aF,vB,tY,vA,]))
   all_goals clear hq
   all_goals repeat' (first|simp only [*,go_sem,Nat.reduceLT,Nat.reduceLeDiff,Nat.reduceEqDiff,↓reduceIte,Nat.reduceAdd,]|((with_reducible refine kM (g1) ?_ ?_ ?_);exact rfl;exact fun _=>rfl)|((with_reducible refine kM (g2) ?_ ?_ ?_);exact rfl;exact fun _=>rfl)|((refine aN (id:=9) aB aK [13,14] [1,2,3,4,5,6,7,8,9,10,11,12,13,0,14,15] (by decide +kernel) ?_);(repeat' (first|(refine aT ?_)|((refine cV ?_ ?_ rfl rfl rfl ?_ ?_);(rotate_left 2);(focus ((repeat' (first|simp only [*,go_sem,Nat.reduceLT,Nat.reduceLeDiff,Nat.reduceEqDiff,↓reduceIte,Nat.reduceAdd,Nat.reduceMul,Nat.reduceBEq,]|((with_reducible refine And.intro ?_ ?_);((first|omega|decide)))));((refine And.intro ?_ ?_ <;> exact rfl))));(simp only [aG]))|((refine cU ?_ rfl rfl rfl ?_ ?_);(rotate_left 1);(focus ((repeat' (first|exact bG|refine aZ ?_ ?_));(all_goals ((repeat' (first|simp only [*,go_sem,Nat.reduceLT,Nat.reduceLeDiff,Nat.reduceEqDiff,↓reduceIte,Nat.reduceAdd,]|((with_reducible refine dM (ML _ _) ?_ ?_ ?_);exact rfl;exact rfl)|((with_reducible refine And.intro ?_ ?_);omega)));(try (exact rfl))))));(simp only [aG])))))|((with_reducible refine And.intro ?_ ?_);omega))
   ·exact gV (k+1,out++[⟨p,AX x y false false,x,y⟩]) 1 5 hJ (by simp only;omega) rfl rfl (aI rfl rfl rfl (by simp [aH,aL,aD,aJ,aF,vB,tY,vA,]))
   ·exact gV (k+1,out++[⟨p,AX x y false true,x,y⟩]) 1 5 hJ (by simp only;omega) rfl rfl (aI rfl rfl rfl (by simp [aH,aL,aD,aJ,aF,vB,tY,vA,]))
   ·exact gV (k+1,out++[⟨p,AX x y true false,x,y⟩]) 1 5 hJ (by simp only;omega) rfl rfl (aI rfl rfl rfl (by simp [aH,aL,aD,aJ,aF,vB,tY,vA,]))
  ·rw [hq,if_pos rfl,List.nil_append] at hout;simp only [Bool.and_eq_true] at hq;obtain ⟨⟨rfl,rfl⟩,hq⟩:=hq;have hJ:k+1≤ps.length∧out.length≤k+1∧out++mL a b (ps.drop (k+1))=mL a b ps:=⟨by omega,by omega,hout⟩
   clear hout
   repeat' (first|simp only [*,go_sem,Nat.reduceLT,Nat.reduceLeDiff,Nat.reduceEqDiff,↓reduceIte,Nat.reduceAdd,]|((with_reducible refine kM (g1) ?_ ?_ ?_);exact rfl;exact fun _=>rfl)|((with_reducible refine kM (g2) ?_ ?_ ?_);exact rfl;exact fun _=>rfl)|((with_reducible refine dM (uB) ?_ ?_ ?_);exact rfl;exact rfl)|((with_reducible refine And.intro ?_ ?_);omega))
   exact fD (k+1,out) hJ (by simp only;omega) (aI rfl rfl rfl (by simp [aH,aL,aD,aJ,aF,]))
 ·have h1:decide ((k:Int)<(ps.length:Int))=false:=decide_eq_false (by omega);rw [List.drop_of_length_le (by omega),mL,List.append_nil] at hout;rw [← hout];clear hout hp
  repeat' (simp only [*,go_sem,Nat.reduceLT,Nat.reduceEqDiff,↓reduceIte,])
  all_goals rw [List.take_of_length_le (by simp)]
end Go.Proofs.YtlbfnbldeefgmaaGreatDoor
end
section
namespace Go.Proofs.YtlbfnbldeefgmaaGreatDoor
open Go Go.Dm Go.Proofs
set_option maxRecDepth 100000
set_option maxHeartbeats 8000000
theorem zMJ {a b:List It} (ha:OkT a) (hb:OkT b):(gG a b).length≤100000∧(∀ x∈gG a b,x.p.length≤1000000000∧x.o.t<18446744073709551616∧x.n.t<18446744073709551616)∧∀ x∈gG a b,x.n.d.length≤140737488355328:=by
 have h1:=ha.len;have h2:=hb.len;have h3:=zBC a b;refine ⟨by omega,fun x hx=>⟨?_,VC ha hb hx⟩,fun x hx=>by rw [(gL hx).2];exact Nat.le_trans (hb.getd _) (by decide)⟩
 have:=JN ha hb x hx;unfold zIn at this;simp only [Bool.and_eq_true] at this;exact Nat.le_trans (pP this.1.1.1.1.1.1.2) (by decide)
theorem zJX {r r':Rm} {d:Dr} {e:Int} {s:List UInt8} {a b:List It} (h:Sim r d) (ha:OkT a) (hb:OkT b) (he:kC r s (gG a b)=(r',e)):
  aA Tryz.prog 30 [.c (.ptr 0 0),.c (.p (.s s)),.c (.p (.sl 10 (pD (gG a b))))] (cB r) fun d h=>d=.c (.p (.i .i64 e))∧h=cB r' :=
 have h3:=zMJ ha hb
 zIO h h3.1 h3.2.1 h3.2.2 he
theorem zAh {a b:List It} (ha:OkT a) (hb:OkT b):aA Tryz.prog 31 [.c (.p (.sl 5 (aU a))),.c (.p (.sl 5 (aU b)))] [] fun r h=>r=.c (.p (.sl 10 (pD (gG a b))))∧h=[]:=by
 have:=zD7 ha hb;rw [zAi ha hb] at this;exact this
theorem zAg {b:List It} (hb:OkT b):aA Tryz.prog 31 [.c (.p .nil),.c (.p (.sl 5 (aU b)))] [] fun r h=>r=.c (.p (.sl 10 (pD (gG [] b))))∧h=[] :=
 aA.wkargs (by simp [zE8,wkD,wkC,wkP,gA]) (zAh OkT.nil hb)
end Go.Proofs.YtlbfnbldeefgmaaGreatDoor
end
section
namespace Go.Dm
open Go
theorem zDA (t:List It) (p:List UInt8):(fR t p).length≤t.length:=by
 unfold fR vX;rw [List.length_mergeSort,List.length_map];exact List.length_filter_le ..
theorem zA8 {t:List It} (h:OkT t) {p:List UInt8} {is:Bool} {n:Nd} {c:Cl} (hn:n.d.length≤2000):(gJ t p is n c).d.length≤2000∧(gJ t p is n c).l.length≤120:=by
 have h1:=zDA t p;have h2:=h.len;unfold gJ rW
 repeat' split
 all_goals first
  | exact ⟨Nat.zero_le _,Nat.zero_le _⟩
  | exact ⟨Nat.zero_le _,Nat.le_trans h1 h2⟩
  | exact ⟨hn,Nat.zero_le _⟩
  | exact ⟨Nat.zero_le _,Nat.le_trans h1 h2⟩
  | exact ⟨by simp only [List.length_take,List.length_drop];omega,Nat.zero_le _⟩
  | (refine ⟨?_,?_⟩ <;> simp [anE];done)
theorem XN {t:List It} (h:OkT t) {c:Cl}:(doP t c).2.d.length≤2000∧(doP t c).2.l.length≤120:=by
 unfold doP;split
 ·exact ⟨Nat.zero_le _,Nat.zero_le _⟩
 ·split
  ·exact ⟨Nat.zero_le _,Nat.zero_le _⟩
  ·split
   ·refine zA8 h ?_;unfold nodeAt;split
    ·exact Nat.zero_le _
    ·exact h.getd _
   ·split <;> exact ⟨Nat.zero_le _,Nat.zero_le _⟩
end Go.Dm
end
section
namespace Go.Proofs.YtlbfnbldeefgmaaGreatDoor
open Go Go.Dm Go.Proofs
set_option maxRecDepth 100000
set_option maxHeartbeats 16000000
theorem NF {e:Int} {nk nm:Int} {nt:Nat} {nd ad:List UInt8} {al:List (List UInt8)} (hl:al.length≤1000000) (hd:ad.length≤1000000):
  aA Tryz.prog 34 [.agg (anc e nk nm nt nd ad al),.agg (anc e nk nm nt nd ad al)] [] fun r h=>r=.c (.p (.b true))∧h=[]:=by
 have hsn:=qE ⟨nk,nm,nt,nd⟩;have e1:(e != e)=false:=by simp
 have e2:(ad != ad)=false:=by simp
 have e3:((al.length:Int) != (al.length:Int))=false:=by simp
 have hlen:(Go.Dm.encS al).length=al.length:=by simp [Go.Dm.encS]
 refine ent aB aK Tryz.func34 rfl rfl fun X0 hX=>?_;simp only [Tryz.f34,go_sem]
 repeat' (first|simp only [*,go_sem,Nat.reduceLT,Nat.reduceLeDiff,Nat.reduceEqDiff,↓reduceIte,Nat.reduceAdd,beq_self_eq_true,bne_self_eq_false,Bool.not_true]|((with_reducible refine dM (uB) ?_ ?_ ?_);exact rfl;exact rfl))
 refine aY aB aK (α:=Nat) (fun k=>⟨55,[(2,.c (.ptr 0 0)),(3,.c (.ptr 1 0)),(5,.c (.p (.i .i64 k)))],[.box [.p (.i .i64 e),.p (.i .i64 nk),.p (.i .i64 nm),.p (.f nt),.p (.sl 1 (bO nd)),.p (.sl 1 (bO ad)),.p (.sl 1 (Go.Dm.encS al))],.box [.p (.i .i64 e),.p (.i .i64 nk),.p (.i .i64 nm),.p (.f nt),.p (.sl 1 (bO nd)),.p (.sl 1 (bO ad)),.p (.sl 1 (Go.Dm.encS al))]]⟩)
  (fun k=>k≤al.length) (fun k=>al.length-k) 0 (Nat.zero_le _) (.inl (aI (by rw [hX];rfl) rfl rfl (by simp [aH,aL,aD,aJ,aF,]))) ?_
 intro k hk;by_cases hlt:k<al.length
 ·have hx:al[k]? = some al[k]:=List.getElem?_eq_getElem hlt;have hg:(Go.Dm.encS al).getD k []=[.s al[k]]:=by simp [Go.Dm.encS,List.getD_eq_getElem?_getD,hx]
  have h1:decide ((k:Int)<(al.length:Int))=true:=decide_eq_true (by omega);have hki:(k:Int)<(al.length:Int):=by omega
  have hk0:(0:Int)≤k:=by omega
  have w1:IntKind.i64.wrap ((k:Int)+1)=k+1:=wrap_i64 (by omega) (by omega);generalize al[k]=x at hx hg;have e4:(x != x)=false:=by simp
  clear hx
  repeat' (first|simp only [*,go_sem,Nat.reduceLT,Nat.reduceEqDiff,↓reduceIte,]|((refine aN (id:=6) aB aK [] [0,1,2,3,4,5,6,7,8,9,10] (by decide +kernel) ?_);(repeat' (first|(refine aT ?_)|((refine bV ?_ rfl rfl ?_ ?_);(rotate_left 1);(focus ((repeat' (simp only [*,go_sem,Nat.reduceLT,Nat.reduceEqDiff,↓reduceIte,beq_self_eq_true,Bool.not_true]));exact rfl));(simp only [aG]))))))
  all_goals first|exact fD (k+1) (by omega) (by omega) (aI rfl rfl rfl (by simp [aH,aL,aD,aJ,aF,]))|trace_state
 ·have h1:decide ((k:Int)<(al.length:Int))=false:=decide_eq_false (by omega)
  repeat' (simp only [*,go_sem,Nat.reduceLT,Nat.reduceEqDiff,↓reduceIte,])
end Go.Proofs.YtlbfnbldeefgmaaGreatDoor
end
section
namespace Go.Proofs.YtlbfnbldeefgmaaGreatDoor
open Go Go.Dm Go.Proofs
set_option maxRecDepth 100000
set_option maxHeartbeats 16000000
theorem zEq {a:An} (h:a.d.length≤2000∧a.l.length≤120):aA Tryz.prog 34 [.agg (anv a),.agg (anv a)] [] fun r h=>r=.c (.p (.b true))∧h=[] :=
 NF (Nat.le_trans h.2 (by decide)) (Nat.le_trans h.1 (by decide))
theorem XS {r:Rm} {b:List It} (hb:OkT b) (h:Sim r (fkD b)) {x:RC} (hs:x.s.length≤9223372036854775807) (hd:x.d.length≤9223372036854775807) (hx:x.x<18446744073709551616):
  ∃ c:Cl,(aA Tryz.prog 11 [.agg (rcv x)] [] fun d h=>d=.agg (clv c)∧h=[]) ∧
   ((fI c.k=true∧∃ a:An,(a.e == 14)=true∧aA Tryz.prog 10 [.c (.ptr 0 0),.c (.p (.s v1S)),.agg (clv c)] (cB r) fun d h=>d=.agg (anv a)∧h=cB r) ∨
    (fI c.k=false∧∃ a:An,(a.e == 14)=false∧(aA Tryz.prog 10 [.c (.ptr 0 0),.c (.p (.s v1S)),.agg (clv c)] (cB r) fun d h=>d=.agg (anv a)∧h=cB r) ∧
     (aA Tryz.prog 10 [.c (.ptr 0 0),.c (.p (.s fM)),.agg (clv c)] (cB r) fun d h=>d=.agg (anv a)∧h=cB r) ∧
     aA Tryz.prog 34 [.agg (anv a),.agg (anv a)] [] fun r h=>r=.c (.p (.b true))∧h=[])):=by
 obtain ⟨k,hcall⟩:=zK0 (x:=x) hs hd;have hok:=zFs (k:=k) (x:=x) hs hx;refine ⟨_,hcall,?_⟩;cases hk:fI (EL k x).k
 ·right;obtain ⟨e1,e2⟩:=zFn h hk;refine ⟨rfl,_,?_,EK h hok e1,EK h hok e2,zEq (XN hb)⟩;have:=zML (t:=b) hk;simp;omega
 ·exact .inl ⟨rfl,anE 14,rfl,EK h hok (zA9 h hk)⟩
theorem MV {l:List RI} {c:List RC} (hl:l.length≤9223372036854775807) (hd:∀ x∈l,x.n.d.length≤9223372036854775807) (hdx:∀ x∈l,x.n.x<18446744073709551616)
  (hl2:c.length≤9223372036854775807) (hd2:∀ x∈c,x.d.length≤9223372036854775807) (hs2:∀ x∈c,x.s.length≤9223372036854775807) (hx2:∀ x∈c,x.x<18446744073709551616):
  aA Tryz.prog 5 [.c (.p (.sl 6 (Go.Dm.encI l))),.c (.p (.sl 11 (KD c)))] [] fun r h=>r=.c (.p (.b true))∧h=[]:=by
 have tr:=zKv hl hd hdx;have hb:=zHL hdx;generalize zEM l=b at *;obtain ⟨r1,r,d1,e1,s1,e2,s2⟩:=XR hb;have c1:=zJX GA OkT.nil hb e1;have c2:=VQ s1 (by decide) e2;have f0:=zAg hb;have cc:=zAu s2.okR;have cs:=zAz s2.okR;have hrd:=fun x hx=>XS hb s2 (hs2 x hx) (hd2 x hx) (hx2 x hx);generalize gG [] b=x0 at *;clear hl hd hdx hb e1 s1 e2 s2 hd2 hs2 hx2 d1;refine ent aB aK Tryz.func5 rfl rfl fun X0 hX=>?_;simp only [Tryz.f5,go_sem]
 repeat' (first|exact ⟨⟩|refine sq ?_|refine uS [] (MX) ?_|refine uN (tr) ?_|refine uF (zDg) ?_|refine uN (f0) ?_|refine uS [0,1,2,3] (c1) ?_|refine uS [0,1,2,3] (c2) ?_|refine uS [0,4,5,6] (cc) ?_)
 clear tr c1 c2 f0 cc;unfold zAt at cs;refine dS aB aK (α:=Nat) (fun k=>⟨83,[(1,.c (.p (.sl 11 (KD c)))),(5,.c (.ptr 0 0)),(6,.c (.ptr 4 0)),(7,.c (.p (.i .i64 k)))],[.box [.own 1 0 r.N.length,.own 2 0 r.L.length,.mp 3,.p (.i .i64 r.x)],.arr 2 (bM r.N) false,.arr 4 (cZ r.L) false,.mp (oL r.E),.box [.p (.sl 2 (bM r.N)),.p (.sl 4 (cZ r.L)),.mp 5,.p (.i .i64 r.x)],.mp (oL r.E)]⟩)
  (fun k=>k≤20) (fun k=>20-k) 0 (Nat.zero_le _) (by rw [hX];exact fP (jZ [0,4,5,6,7,8] rfl (by simp only [iD,kW,iC,rH];(repeat' (first|exact rfl|exact True.intro|refine And.intro ?_ ?_))) rfl (by simp only [mD,sM];(repeat' (first|exact rfl|exact True.intro|refine And.intro ?_ ?_))))) ?_
 intro i hi;by_cases hlt:i<20
 ·have h1:decide ((i:Int)<20)=true:=decide_eq_true (by omega);have h3:(0:Int)≤i:=by omega
  have w1:IntKind.i64.wrap ((i:Int)+1)=i+1:=wrap_i64 (by omega) (by omega);by_cases hlc:i<c.length
  ·have hx:c[i]? = some c[i]:=List.getElem?_eq_getElem hlc;have hg:=zGg hx;have h5:decide ((i:Int)<(c.length:Int))=true:=decide_eq_true (by omega);have h6:(i:Int)<(c.length:Int):=by omega
   obtain ⟨q,hcall,hdo⟩:=hrd _ (List.getElem_mem hlc);generalize c[i]=x at hx hg hcall hdo;have ht:=PN (k:=q.k);clear hx hrd;rcases hdo with ⟨hk,a,ha,hdo⟩|⟨hk,a,ha,hdo,hdo2,hsa⟩
   ·rw [hk] at ht;clear hk
    repeat' (first|exact ⟨⟩|refine sp ?_|refine uN (hcall) ?_|refine uS [0,1,2,3] (hdo) ?_|refine uF (ht) ?_|((refine aN (id:=10) aB aK [] [0,1,2,3,4,5,6,7,8,9,10,11,12,13,14,15,16] (by decide +kernel) ?_);(repeat' (first|(refine aT ?_)|((refine bV ?_ rfl rfl ?_ ?_);(rotate_left 1);(focus ((repeat' (first|exact ⟨⟩|refine sp ?_|refine uF (ht) ?_|refine uS [0,1,2,3,4,5] (cs) ?_));exact rfl));(simp only [aG]))))))
    exact qB (i+1) (by omega) (by omega) (cJ (aI rfl rfl rfl (by simp only [aH,aL];(repeat' (first|exact rfl|exact True.intro|refine And.intro ?_ ?_)))))
   ·rw [hk] at ht;clear hk
    repeat' (first|exact ⟨⟩|refine sp ?_|refine uN (hcall) ?_|refine uS [0,1,2,3] (hdo) ?_|refine uF (ht) ?_|((refine aN (id:=10) aB aK [] [0,1,2,3,4,5,6,7,8,9,10,11,12,13,14,15,16] (by decide +kernel) ?_);(repeat' (first|(refine aT ?_)|((refine bV ?_ rfl rfl ?_ ?_);(rotate_left 1);(focus ((repeat' (first|exact ⟨⟩|refine sp ?_|refine uF (ht) ?_|refine uS [0,1,2,3,4,5] (cs) ?_));exact rfl));(simp only [aG])))))|((refine aN (id:=13) aB aK [] [0,1,2,3,4,5,6,7,8,9,10,11] (by decide +kernel) ?_);(repeat' (first|(refine aT ?_)|((refine bV ?_ rfl rfl ?_ ?_);(rotate_left 1);(focus ((repeat' (first|exact ⟨⟩|refine sp ?_|refine uS [0,1,2,3] (hdo2) ?_|refine uF (hsa) ?_|refine uS [0,1,2,3,4,5] (cs) ?_));exact rfl));(simp only [aG]))))))
    exact qB (i+1) (by omega) (by omega) (cJ (aI rfl rfl rfl (by simp only [aH,aL];(repeat' (first|exact rfl|exact True.intro|refine And.intro ?_ ?_)))))
  ·have h5:decide ((i:Int)<(c.length:Int))=false:=decide_eq_false (by omega);clear hrd
   repeat' (first|exact ⟨⟩|refine sp ?_)
 ·have h1:decide ((i:Int)<20)=false:=decide_eq_false (by omega);clear hrd;by_cases hlc:i<c.length
  ·have h5:decide ((i:Int)<(c.length:Int))=true:=decide_eq_true (by omega)
   repeat' (first|exact ⟨⟩|refine sp ?_)
  ·have h5:decide ((i:Int)<(c.length:Int))=false:=decide_eq_false (by omega)
   repeat' (first|exact ⟨⟩|refine sp ?_)
end Go.Proofs.YtlbfnbldeefgmaaGreatDoor
end
