/- Part 48 of the proof of roomForks_card, set without needless blanks. No condition. -/
import Derived.Test.YtbpblnmhlhpebaaGreatDoorC46
set_option linter.unusedSimpArgs false
set_option linter.unusedVariables false
set_option maxRecDepth 100000
set_option maxHeartbeats 8000000
namespace Go.Proofs.YtbpblnmhlhpebaaGreatDoor
open Go Go.Dm
section
theorem zJE {l:List (List UInt8)} {s:List UInt8} (hl:l.length≤1000000):
  aA Tryz.prog 107 [.c (.p (.sl 1 (Go.Dm.encS l))),.c (.p (.s s))] [] fun r h=>r=.c (.p (.sl 1 (Go.Dm.encS (CM s l))))∧h=[]:=by
 refine ent aB aK Tryz.func107 rfl rfl fun X0 hX=>?_
 simp only [Tryz.f107,go_sem]
 repeat' (simp only [*,go_sem,Nat.reduceLT])
 refine aY aB aK (α:=Nat) (fun k=>⟨48,[(0,.c (.p (.sl 1 (Go.Dm.encS l)))),(1,.c (.p (.s s))),(5,.c (.p (.i .i64 k)))],[]⟩)
  (fun k=>k≤l.length∧∀ j x,l[j]? = some x→j<k→bO x s=true) (fun k=>l.length-k) 0 ⟨Nat.zero_le _,fun j x _ h=>by omega⟩ (.inl (aI (by rw [hX];rfl) rfl rfl (by simp [aH,aL,aC,aG,aF]))) ?_
 rintro k ⟨hk,hs⟩
 by_cases hlt:k<l.length
 ·have hx:l[k]? = some l[k]:=List.getElem?_eq_getElem hlt
  have hg:=Go.Dm.encS_at hx
  have h1:decide ((k:Int)<(l.length:Int))=true:=decide_eq_true (by omega)
  have w1:IntKind.i64.wrap ((k:Int)+1)=k+1:=wrap_i64 (by omega) (by omega)
  have hli:(k:Int)≤(l.length:Int):=by omega
  have hli2:(k:Int)<(l.length:Int):=by omega
  have hmin:min k l.length=k:=Nat.min_eq_left hk
  have hk0:(0:Int)≤(k:Int):=by omega
  have ht1:(l.take k).length=k:=by rw [List.length_take];exact hmin
  have ht2:(l.drop k).length=l.length-k:=List.length_drop
  generalize l[k]=x at hx hg
  cases hb:bO x s
  ·have hat:=PS (s:=s) hk hs (fun y hy=>by rw [hx] at hy;cases hy;exact hb)
   rw [hx] at hat
   simp only at hat
   rw [hat]
   clear hat hs hx
   cases he:(x == s)
   ·repeat' (first|simp only [*,go_sem,Nat.reduceLT,Nat.reduceLeDiff,Nat.reduceEqDiff,↓reduceIte,Nat.reduceAdd,Int.reduceLE,Int.reduceToNat,Nat.reduceBEq,Bool.false_eq_true]|((with_reducible refine And.intro ?_ ?_);(focus (first|omega|decide))))
    rw [List.take_of_length_le (by simp;omega)]
    simp
   ·repeat' (simp only [*,go_sem,Nat.reduceLT,Nat.reduceEqDiff,↓reduceIte])
  ·have hs':k+1≤l.length∧∀ j y,l[j]? = some y→j<k+1→bO y s=true:=⟨by omega,fun j y hy hj=>by
    rcases Nat.lt_or_ge j k with h|h
    ·exact hs j y hy h
    ·have:j=k:=by omega
     subst this;rw [hx] at hy;cases hy;exact hb⟩
   clear hs hx
   repeat' (simp only [*,go_sem,Nat.reduceLT,Nat.reduceEqDiff,↓reduceIte])
   exact eM (k+1) hs' (by omega) (aI rfl rfl rfl (by simp [aH,aL,aC,aG,aF]))
 ·have h1:decide ((k:Int)<(l.length:Int))=false:=decide_eq_false (by omega)
  have hkl:k=l.length:=by omega
  subst hkl
  have hx:l[l.length]? = none:=List.getElem?_eq_none (Nat.le_refl _)
  have hat:=PS (s:=s) hk hs (fun y hy=>by rw [hx] at hy;cases hy)
  rw [hx] at hat
  simp only at hat
  rw [hat]
  clear hat hs hx
  have hdl:l.drop l.length=[]:=List.drop_length
  repeat' (first|simp only [*,go_sem,Nat.reduceLT,Nat.reduceLeDiff,Nat.reduceEqDiff,↓reduceIte,Nat.reduceAdd,Int.reduceLE,Int.reduceToNat,Nat.reduceBEq,List.append_nil,List.length_nil,Nat.add_zero]|((with_reducible refine And.intro ?_ ?_);(focus (first|omega|decide))))
  rw [List.take_of_length_le (by simp)]
theorem zIQ {ts:List (List It)} (hl:ts.length≤3) (ht:∀ t∈ts,t.length≤120):
  aA Tryz.prog 45 [.c (.p (.sl 1 (ts.map fun t=>[.sl 5 (aT t)])))] [] fun r h=>r=.c (.p (.sl 1 (Go.Dm.encS (ts.foldl dW []))))∧h=[]:=by
 have hgen:(ts.map fun t=>[PV.sl 5 (aT t)]).length=ts.length:=List.length_map _
 have hone:(∀ x∈(ts.map fun t=>[PV.sl 5 (aT t)]),x.length=1)=True:=eq_true fun x hx=>by
  obtain ⟨t,_,rfl⟩:=List.mem_map.1 hx
  rfl
 have hat:∀ i t,ts[i]? = some t→(ts.map fun t=>[PV.sl 5 (aT t)]).getD i []=[.sl 5 (aT t)]:=fun i t h=>by
  simp only [List.getD_eq_getElem?_getD,List.getElem?_map,h];rfl
 generalize (ts.map fun t=>[PV.sl 5 (aT t)])=arg at *
 refine ent aB aK Tryz.func45 rfl rfl fun X0 hX=>?_
 simp only [Tryz.f45,go_sem]
 repeat' (simp only [*,go_sem,Nat.reduceLT])
 refine zH7 3 1 rfl ?_
 refine aY aB aK (α:=Nat) (fun i=>⟨32,[(0,.c (.p (.sl 1 arg))),(3,.c (.p (.sl 1 (Go.Dm.encS ((ts.take i).foldl dW []))))),(4,.c (.p (.i .i64 i)))],[]⟩)
  (fun i=>i≤ts.length∧((ts.take i).foldl dW []).length≤120*i) (fun i=>ts.length-i) 0 ⟨Nat.zero_le _,Nat.le_refl _⟩ (.inl (aI (by rw [hX];rfl) rfl rfl (by simp [aH,aL,aC,aG,aF,lS]))) ?_
 rintro i ⟨hi,hol⟩
 by_cases hlt:i<ts.length
 ·have hx:ts[i]? = some ts[i]:=List.getElem?_eq_getElem hlt
  have hg:=hat _ _ hx
  have h1:decide ((i:Int)<(ts.length:Int))=true:=decide_eq_true (by omega)
  have hli:(i:Int)<(ts.length:Int):=by omega
  have w1:IntKind.i64.wrap ((i:Int)+1)=i+1:=wrap_i64 (by omega) (by omega)
  have htl:=ht _ (List.getElem_mem hlt)
  have hnext:(ts.take (i+1)).foldl dW []=dW ((ts.take i).foldl dW []) ts[i]:=by
   rw [List.take_add_one,hx,List.foldl_append];rfl
  generalize ts[i]=t at hx hg htl hnext
  generalize (ts.take i).foldl dW []=o at hol hnext
  clear hat hx
  repeat' (simp only [*,go_sem,Nat.reduceLT,Nat.reduceEqDiff,↓reduceIte])
  refine aY aB aK (α:=Nat) (fun k=>⟨32,[(0,.c (.p (.sl 1 arg))),(3,.c (.p (.sl 1 (Go.Dm.encS (dW o (t.take k)))))),(4,.c (.p (.i .i64 i))),(5,.c (.p (.i .i64 k)))],[]⟩)
   (fun k=>k≤t.length) (fun k=>t.length-k) 0 (Nat.zero_le _) (.inl (aI (by rw [hX];rfl) rfl rfl (by simp [aH,aL,aC,aG,aF,dW]))) ?_
  intro k hk
  by_cases hkl:k<t.length
  ·have hy:t[k]? = some t[k]:=List.getElem?_eq_getElem hkl
   have hg2:=cB hy
   have h2:decide ((k:Int)<(t.length:Int))=true:=decide_eq_true (by omega)
   have w2:IntKind.i64.wrap ((k:Int)+1)=k+1:=wrap_i64 (by omega) (by omega)
   have hn2:dW o (t.take (k+1))=CM t[k].p (dW o (t.take k)):=by
    unfold dW
    rw [List.take_add_one,hy,List.foldl_append];rfl
   have hle:(dW o (t.take k)).length≤o.length+k:=by
    have:=kZ (t.take k) o
    rw [List.length_take] at this
    omega
   generalize t[k]=y at hy hg2 hn2
   generalize hq:dW o (t.take k)=q at hle hn2
   clear hq hy hnext
   repeat' (first|simp only [*,go_sem,Nat.reduceLT,Nat.reduceEqDiff,↓reduceIte]|((with_reducible refine bK (zJE (by omega)) ?_ ?_ ?_);exact rfl;exact fun _=>rfl)|((with_reducible refine And.intro ?_ ?_);(focus (omega))))
   exact eM (k+1) (by omega) (by omega) (aI rfl rfl rfl (by simp [aH,aL,aC,aG,aF,hn2]))
  ·have h2:decide ((k:Int)<(t.length:Int))=false:=decide_eq_false (by omega)
   rw [List.take_of_length_le (by omega)]
   have hle:=kZ t o
   rw [← hnext] at hle ⊢
   have hfin:i+1≤ts.length∧((ts.take (i+1)).foldl dW []).length≤120*(i+1):=⟨by omega,by omega⟩
   clear hnext hle
   repeat' (first|simp only [*,go_sem,Nat.reduceLT,Nat.reduceEqDiff,↓reduceIte]|((with_reducible refine And.intro ?_ ?_);(focus (omega))))
   exact eM (i+1) hfin (by omega) (aI rfl rfl rfl (by simp [aH,aL,aC,aG,aF]))
 ·have h1:decide ((i:Int)<(ts.length:Int))=false:=decide_eq_false (by omega)
  rw [List.take_of_length_le (by omega)]
  repeat' (simp only [*,go_sem,Nat.reduceLT,Nat.reduceEqDiff,↓reduceIte])
theorem HL {k m k' m':Int} {t t':Nat} {d d':List UInt8} (p q:Bool):aA Tryz.prog 47 [.agg (ndc k m t d),.agg (ndc k' m' t' d'),.c (.p (.b p)),.c (.p (.b q))] [] fun r h=>r=.c (.p (.i .i64 (AG ⟨k,m,t,d⟩ ⟨k',m',t',d'⟩ p q)))∧h=[]:=by
 cases p <;> cases q
 all_goals
  refine ent aB aK Tryz.func47 rfl rfl fun X0 hX=>?_
  simp only [Tryz.f47,go_sem]
 all_goals repeat' (first|simp only [*,go_sem,Nat.reduceLT,Nat.reduceEqDiff,↓reduceIte,Nat.reduceAdd]|with_reducible refine aM (fun _=>?_) (fun _=>?_))
 all_goals simp_all [AG]
end
section
theorem zAE {a b:List It} (ha:OkT a) (hb:OkT b):aA Tryz.prog 11 [.c (.p (.sl 5 (aT a))),.c (.p (.sl 5 (aT b)))] [] fun r h=>r=.c (.p (.sl 10 (oX (EK a b))))∧h=[]:=by
 have hal:=ha.len
 have hbl:=hb.len
 have hp:=zIQ (ts:=[a,b]) (by simp) (by intro t ht;simp at ht;rcases ht with rfl|rfl <;> assumption)
 simp only [List.map_cons,List.map_nil,List.foldl_cons,List.foldl_nil] at hp
 have hpl:(uE a b).length≤240:=by
  have h1:=kZ a []
  have h2:=kZ b (dW [] a)
  simp only [List.length_nil] at h1
  unfold uE;omega
 change aA _ _ _ _ (fun r h=>r=.c (.p (.sl 1 (Go.Dm.encS (uE a b))))∧h=[]) at hp
 unfold EK
 generalize uE a b=ps at hp hpl
 refine ent aB aK Tryz.func11 rfl rfl fun X0 hX=>?_
 simp only [Tryz.f11,go_sem]
 repeat' (first|simp only [*,go_sem,Nat.reduceLT,Nat.reduceLeDiff,Nat.reduceEqDiff,↓reduceIte]|((with_reducible refine bK (hp) ?_ ?_ ?_);exact rfl;exact fun _=>rfl)|((with_reducible apply aA.frz);exact rfl;exact rfl)|((with_reducible refine And.intro ?_ ?_);(focus (decide))))
 refine jW aB aK 5 10 rfl ?_
 refine aY aB aK (α:=Nat × List Ch) (fun x=>⟨65,[(0,.c (.p (.sl 5 (aT a)))),(1,.c (.p (.sl 5 (aT b)))),(6,.c (.p (.sl 1 (Go.Dm.encS ps)))),(7,.c (.p (.i .i64 x.1))),(5,.c (.own 1 0 x.2.length))],[.arr 1 [[.sl 5 (aT a)],[.sl 5 (aT b)]] true,.arr 10 (oX x.2) false]⟩)
  (fun x=>x.1≤ps.length∧x.2.length≤x.1∧x.2++mF a b (ps.drop x.1)=mF a b ps) (fun x=>ps.length-x.1) (0,[]) ⟨Nat.zero_le _,Nat.le_refl _,rfl⟩ (.inl (aI (by rw [hX];rfl) rfl rfl (by simp [aH,aL,aC,aG,aF,vV]))) ?_
 rintro ⟨k,out⟩ ⟨hk,hol,hout⟩
 simp only at hk hol hout
 by_cases hlt:k<ps.length
 ·have hx:ps[k]? = some ps[k]:=List.getElem?_eq_getElem hlt
  have hd:=drop_at hx
  have hg:=Go.Dm.encS_at hx
  have h1:decide ((k:Int)<(ps.length:Int))=true:=decide_eq_true (by omega)
  have w1:IntKind.i64.wrap ((k:Int)+1)=k+1:=wrap_i64 (by omega) (by omega)
  generalize ps[k]=p at hx hg hd
  rw [hd,mF,zF9] at hout
  have g1:=oT (t:=a) (p:=p) (by omega)
  have g2:=oT (t:=b) (p:=p) (by omega)
  clear hp hx hd
  generalize (aR a p).getD nd0=x at g1 hout
  generalize (aR a p).isSome=u at g1 hout
  generalize (aR b p).getD nd0=y at g2 hout
  generalize (aR b p).isSome=v at g2 hout
  cases hq:(u && v && fS x y)
  ·rw [hq,if_neg (by decide)] at hout
   have hJ:k+1≤ps.length∧(out++[(⟨p,AG x y u v,x,y⟩:Ch)]).length≤k+1∧(out++[(⟨p,AG x y u v,x,y⟩:Ch)])++mF a b (ps.drop (k+1))=mF a b ps:=⟨by omega,by simp;omega,by simpa using hout⟩
   clear hout
   cases u <;> cases v
   case true.true =>
    have hq2:fS x y=false:=by simpa using hq
    clear hq
    repeat' (first|simp only [*,go_sem,Nat.reduceLT,Nat.reduceLeDiff,Nat.reduceEqDiff,↓reduceIte,Nat.reduceAdd]|((with_reducible refine bK (g1) ?_ ?_ ?_);exact rfl;exact fun _=>rfl)|((with_reducible refine bK (g2) ?_ ?_ ?_);exact rfl;exact fun _=>rfl)|((with_reducible refine aQ (tD) ?_ ?_ ?_);exact rfl;exact rfl)|((refine aP (id:=9) aB aK [13,14] [1,2,3,4,5,6,7,8,9,10,11,12,13,0,14,15] (by decide +kernel) ?_);(repeat' (first|(refine bA ?_)|((refine dB ?_ ?_ rfl rfl rfl ?_ ?_);(rotate_left 2);(focus ((repeat' (first|simp only [*,go_sem,Nat.reduceLT,Nat.reduceLeDiff,Nat.reduceEqDiff,↓reduceIte,Nat.reduceAdd,Nat.reduceMul,Nat.reduceBEq]|((with_reducible refine And.intro ?_ ?_);(focus (first|omega|decide)))));((refine And.intro ?_ ?_ <;> exact rfl))));(simp only [aJ]))|((refine dC ?_ rfl rfl rfl ?_ ?_);(rotate_left 1);(focus ((repeat' (first|exact bP|refine bE ?_ ?_));(all_goals ((repeat' (first|simp only [*,go_sem,Nat.reduceLT,Nat.reduceLeDiff,Nat.reduceEqDiff,↓reduceIte,Nat.reduceAdd]|((with_reducible refine aQ (HL _ _) ?_ ?_ ?_);exact rfl;exact rfl)|((with_reducible refine And.intro ?_ ?_);(focus (omega)))));(try (exact rfl))))));(simp only [aJ])))))|((with_reducible refine And.intro ?_ ?_);(focus (omega))))
    exact fW (k+1,out++[⟨p,AG x y true true,x,y⟩]) 1 5 hJ (by simp only;omega) rfl rfl (aI rfl rfl rfl (by simp [aH,aL,aC,aG,aF,tG,sF,sU]))
   all_goals clear hq
   all_goals repeat' (first|simp only [*,go_sem,Nat.reduceLT,Nat.reduceLeDiff,Nat.reduceEqDiff,↓reduceIte,Nat.reduceAdd]|((with_reducible refine bK (g1) ?_ ?_ ?_);exact rfl;exact fun _=>rfl)|((with_reducible refine bK (g2) ?_ ?_ ?_);exact rfl;exact fun _=>rfl)|((refine aP (id:=9) aB aK [13,14] [1,2,3,4,5,6,7,8,9,10,11,12,13,0,14,15] (by decide +kernel) ?_);(repeat' (first|(refine bA ?_)|((refine dB ?_ ?_ rfl rfl rfl ?_ ?_);(rotate_left 2);(focus ((repeat' (first|simp only [*,go_sem,Nat.reduceLT,Nat.reduceLeDiff,Nat.reduceEqDiff,↓reduceIte,Nat.reduceAdd,Nat.reduceMul,Nat.reduceBEq]|((with_reducible refine And.intro ?_ ?_);(focus (first|omega|decide)))));((refine And.intro ?_ ?_ <;> exact rfl))));(simp only [aJ]))|((refine dC ?_ rfl rfl rfl ?_ ?_);(rotate_left 1);(focus ((repeat' (first|exact bP|refine bE ?_ ?_));(all_goals ((repeat' (first|simp only [*,go_sem,Nat.reduceLT,Nat.reduceLeDiff,Nat.reduceEqDiff,↓reduceIte,Nat.reduceAdd]|((with_reducible refine aQ (HL _ _) ?_ ?_ ?_);exact rfl;exact rfl)|((with_reducible refine And.intro ?_ ?_);(focus (omega)))));(try (exact rfl))))));(simp only [aJ])))))|((with_reducible refine And.intro ?_ ?_);(focus (omega))))
   ·exact fW (k+1,out++[⟨p,AG x y false false,x,y⟩]) 1 5 hJ (by simp only;omega) rfl rfl (aI rfl rfl rfl (by simp [aH,aL,aC,aG,aF,tG,sF,sU]))
   ·exact fW (k+1,out++[⟨p,AG x y false true,x,y⟩]) 1 5 hJ (by simp only;omega) rfl rfl (aI rfl rfl rfl (by simp [aH,aL,aC,aG,aF,tG,sF,sU]))
   ·exact fW (k+1,out++[⟨p,AG x y true false,x,y⟩]) 1 5 hJ (by simp only;omega) rfl rfl (aI rfl rfl rfl (by simp [aH,aL,aC,aG,aF,tG,sF,sU]))
  ·rw [hq,if_pos rfl,List.nil_append] at hout
   simp only [Bool.and_eq_true] at hq
   obtain ⟨⟨rfl,rfl⟩,hq⟩:=hq
   have hJ:k+1≤ps.length∧out.length≤k+1∧out++mF a b (ps.drop (k+1))=mF a b ps:=⟨by omega,by omega,hout⟩
   clear hout
   repeat' (first|simp only [*,go_sem,Nat.reduceLT,Nat.reduceLeDiff,Nat.reduceEqDiff,↓reduceIte,Nat.reduceAdd]|((with_reducible refine bK (g1) ?_ ?_ ?_);exact rfl;exact fun _=>rfl)|((with_reducible refine bK (g2) ?_ ?_ ?_);exact rfl;exact fun _=>rfl)|((with_reducible refine aQ (tD) ?_ ?_ ?_);exact rfl;exact rfl)|((with_reducible refine And.intro ?_ ?_);(focus (omega))))
   exact eM (k+1,out) hJ (by simp only;omega) (aI rfl rfl rfl (by simp [aH,aL,aC,aG,aF]))
 ·have h1:decide ((k:Int)<(ps.length:Int))=false:=decide_eq_false (by omega)
  rw [List.drop_of_length_le (by omega),mF,List.append_nil] at hout
  rw [← hout]
  clear hout hp
  repeat' (simp only [*,go_sem,Nat.reduceLT,Nat.reduceEqDiff,↓reduceIte])
  all_goals rw [List.take_of_length_le (by simp)]
end
end Go.Proofs.YtbpblnmhlhpebaaGreatDoor
namespace Go.Proofs.YtbpblnmhlhpebaaGreatDoor
open Go Go.Dm Go.Proofs
section
theorem zMl {a b:List It} (ha:OkT a) (hb:OkT b):(eX a b).length≤100000∧(∀ x∈eX a b,x.p.length≤1000000000∧x.o.t<18446744073709551616∧x.n.t<18446744073709551616)∧∀ x∈eX a b,x.n.d.length≤140737488355328:=by
 have h1:=ha.len
 have h2:=hb.len
 have h3:=zDu a b
 refine ⟨by omega,fun x hx=>⟨?_,VT ha hb hx⟩,fun x hx=>by rw [(gA hx).2];exact Nat.le_trans (hb.getd _) (by decide)⟩
 have:=JR ha hb x hx
 unfold zHj at this
 simp only [Bool.and_eq_true] at this
 exact Nat.le_trans (pX this.1.1.1.1.1.1.2) (by decide)
theorem QG {r r':Rm} {d:Dr} {e:Int} {s:List UInt8} {a b:List It} (h:Sim r d) (ha:OkT a) (hb:OkT b) (he:gP r s (eX a b)=(r',e)):
  aA Tryz.prog 10 [.c (.ptr 0 0),.c (.p (.s s)),.c (.p (.sl 10 (oX (eX a b))))] (bX r) fun d h=>d=.c (.p (.i .i64 e))∧h=bX r' :=
 have h3:=zMl ha hb
 zIF h h3.1 h3.2.1 h3.2.2 he
theorem sX {a b:List It} (ha:OkT a) (hb:OkT b):aA Tryz.prog 11 [.c (.p (.sl 5 (aT a))),.c (.p (.sl 5 (aT b)))] [] fun r h=>r=.c (.p (.sl 10 (oX (eX a b))))∧h=[]:=by
 have:=zAE ha hb
 rw [WX ha hb] at this
 exact this
theorem YF {b:List It} (hb:OkT b):aA Tryz.prog 11 [.c (.p .nil),.c (.p (.sl 5 (aT b)))] [] fun r h=>r=.c (.p (.sl 10 (oX (eX [] b))))∧h=[] :=
 aA.wkargs (by simp [zEp,wkD,wkC,wkP,dR]) (sX OkT.nil hb)
end
end Go.Proofs.YtbpblnmhlhpebaaGreatDoor
namespace Go.Dm
section
def tC (p:List UInt8):Nat→Nat→List It→List It
 | 0,_,u=>u
 | r+1,k,u =>
  if p.getD k 0 == 47 && !aW u (p.take k) then (if (aR u (p.take k)).isSome then u else tC p r (k+1) (kM u (jQ u (p.take k) ⟨2,493,0,[]⟩)))
  else tC p r (k+1) u
def zBe (u:List It) (p:List UInt8) (n:Nd):List It :=
 if (aR u p).isSome && (((aR u p).getD nd0).k == 2 && (n.k != 2)) then u else kM u (jQ u p n)
def xT (t:List It) (x:RI):List It:=zBe (tC (pE x.p) (pE x.p).length 0 t) (pE x.p) (AV x.n)
def QA (l:List RI):List It:=(l.take 30).foldl xT []
theorem vE {p:List UInt8}:∀ (r k:Nat) {u:List It},OkT u→OkT (tC p r k u)
 | 0,_,_,h=>h
 | r+1,k,u,h=>by
  rw [tC]
  split
  ·split
   ·exact h
   ·exact vE r (k+1) (nX h (show (0:Nat)<18446744073709551616 by decide))
  ·exact vE r (k+1) h
theorem zFz {t:List It} {x:RI} (h:OkT t) (hx:x.n.x<18446744073709551616):OkT (xT t x):=by
 unfold xT zBe
 split
 ·exact vE _ _ h
 ·exact nX (vE _ _ h) (vL hx)
theorem EC:∀ {l:List RI} {t:List It},OkT t→(∀ x∈l,x.n.x<18446744073709551616)→OkT (l.foldl xT t)
 | [],_,h,_=>h
 | a::r,t,h,hx=>EC (l:=r) (t:=xT t a) (zFz h (hx _ List.mem_cons_self)) fun y hy=>hx y (List.mem_cons_of_mem _ hy)
theorem zGU {l:List RI} (hx:∀ x∈l,x.n.x<18446744073709551616):OkT (QA l) :=
 EC OkT.nil fun x hm=>hx x (List.take_subset _ _ hm)
theorem ZH {t:List It} {l:List RI} {i:Nat} {x:RI} (h:l[i]? = some x):(l.take (i+1)).foldl xT t=xT ((l.take i).foldl xT t) x:=by
 rw [List.take_add_one,h];simp
theorem KW {l:List RI} {i:Nat} (h:l.length≤i∨30≤i) (h2:i≤30):(l.take i).foldl xT []=QA l:=by
 unfold QA
 rcases h with h|h
 ·rw [List.take_of_length_le h,List.take_of_length_le (Nat.le_trans h h2)]
 ·rw [show i=30 by omega]
theorem YO {p:List UInt8} {k:Nat} {u:List It} {b:UInt8} (h:p[k]? = some b):tC p (p.length-k) k u =
  if b == 47 && !aW u (p.take k) then (if (aR u (p.take k)).isSome then u else tC p (p.length-(k+1)) (k+1) (kM u (jQ u (p.take k) ⟨2,493,0,[]⟩)))
  else tC p (p.length-(k+1)) (k+1) u:=by
 have hk:=(List.getElem?_eq_some_iff.1 h).1
 rw [show p.length-k=(p.length-(k+1))+1 by omega,tC]
 have:p.getD k 0=b:=by simp [List.getD,h]
 rw [this]
end
end Go.Dm
namespace Go.Proofs.YtbpblnmhlhpebaaGreatDoor
open Go Go.Dm
section
theorem zJ6 (b:UInt8):((b.toNat:Int) == 47)=(b == 47):=by
 rw [Bool.eq_iff_iff]
 simp only [beq_iff_eq]
 constructor
 ·intro h
  have h2:b.toNat=47:=by omega
  exact UInt8.toNat_inj.1 h2
 ·rintro rfl
  rfl
theorem zJc {l:List RI} (hl:l.length≤9223372036854775807) (hd:∀ x∈l,x.n.d.length≤9223372036854775807) (hdx:∀ x∈l,x.n.x<18446744073709551616):
  aA Tryz.prog 8 [.c (.p (.sl 6 (Go.Dm.encI l)))] [] fun r h=>r=.c (.p (.sl 5 (aT (QA l))))∧h=[]:=by
 refine bJ ?_
 refine ent aB aK Tryz.func8 rfl rfl fun X0 hX=>?_
 simp only [Tryz.f8,go_sem]
 repeat' (simp only [*,go_sem,Nat.reduceLT])
 refine zH7 3 5 rfl ?_
 refine aY aB aK (α:=Nat × List It) (fun x=>⟨105,[(0,.c (.p (.sl 6 (Go.Dm.encI l)))),(3,.c (.p (.sl 5 (aT x.2)))),(4,.c (.p (.i .i64 x.1)))],[]⟩)
  (fun x=>x.1≤l.length∧x.1≤30∧(l.take x.1).foldl xT []=x.2) (fun x=>l.length-x.1) (0,[]) ⟨Nat.zero_le _,Nat.zero_le _,rfl⟩ (.inl (aI (by rw [hX];rfl) rfl rfl (by simp [aH,aL,aC,aG,aF,dR]))) ?_
 rintro ⟨i,t⟩ ⟨hi,hi2,htq⟩
 simp only at hi hi2 htq
 have ht:OkT t:=htq▸EC OkT.nil fun x hm=>hdx x (List.take_subset _ _ hm)
 by_cases hlt:i<l.length
 ·by_cases hl2:i<30
  ·have hx:l[i]? = some l[i]:=List.getElem?_eq_getElem hlt
   have hstep:=ZH (t:=[]) hx
   rw [htq] at hstep
   clear htq
   have hg:=zIX hx
   have h1:decide ((i:Int)<(l.length:Int))=true:=decide_eq_true (by omega)
   have h30:decide ((i:Int)<30)=true:=decide_eq_true (by omega)
   have w1:IntKind.i64.wrap ((i:Int)+1)=i+1:=wrap_i64 (by omega) (by omega)
   have hxd:=hd _ (List.mem_of_getElem? hx)
   have hxx:=hdx _ (List.mem_of_getElem? hx)
   generalize l[i]=x at hx hg hstep hxd hxx
   have hpl:=lE x.p
   rw [show xT t x=zBe (tC (pE x.p) (pE x.p).length 0 t) (pE x.p) (AV x.n) from rfl] at hstep
   obtain ⟨nn,hnq,⟨hnn,hnt⟩,hnc⟩:∃ nn:Nd,AV x.n=nn∧(nn.d.length≤60∧nn.t<18446744073709551616)∧aA Tryz.prog 38 [.agg (rnc x.n.k x.n.m x.n.t x.n.x x.n.d)] [] fun r h=>r=.agg (ndc nn.k nn.m nn.t nn.d)∧h=[] :=
    ⟨AV x.n,rfl,⟨KY x.n,vL hxx⟩,zCj hxd⟩
   rw [hnq] at hstep
   clear hnq
   have hSP:=PLift.up hstep
   clear hstep
   repeat' (first|simp only [*,go_sem,Nat.reduceLT,Nat.reduceEqDiff,↓reduceIte]|((with_reducible refine aQ (VP) ?_ ?_ ?_);exact rfl;exact rfl)|((with_reducible refine And.intro ?_ ?_);(focus (omega))))
   have hstep:=hSP.down
   clear hSP
   generalize pE x.p=p at hpl hstep ⊢
   obtain ⟨U,hUq⟩:∃ U,tC p p.length 0 t=U:=⟨_,rfl⟩
   rw [hUq] at hstep
   have hSP:=PLift.up hstep
   clear hstep
   refine aY aB aK (α:=Nat × List It) (fun x=>⟨105,[(0,.c (.p (.sl 6 (Go.Dm.encI l)))),(3,.c (.p (.sl 5 (aT x.2)))),(4,.c (.p (.i .i64 i))),(5,.c (.p (.s p))),(6,.c (.p (.i .i64 x.1)))],[]⟩)
    (fun x=>x.1≤p.length∧OkT x.2∧tC p (p.length-x.1) x.1 x.2=U) (fun x=>p.length-x.1) (0,t) ⟨Nat.zero_le _,ht,hUq⟩ (.inl (aI (by rw [hX];rfl) rfl rfl (by simp [aH,aL,aC,aG,aF]))) ?_
   clear ht hUq hi2
   rintro ⟨k,u⟩ ⟨hk,hu,hU⟩
   simp only at hk hu hU
   have hul:=hu.len
   have hup:∀ x∈u,x.p.length≤9223372036854775807:=fun x hx=>Nat.le_trans (hu.plen x hx) (by decide)
   by_cases hlk:k<p.length
   ·have hpx:p[k]? = some p[k]:=List.getElem?_eq_getElem hlk
    have hs:=YO (u:=u) hpx
    rw [hU] at hs
    clear hU
    have hg2:=NZ hpx
    have h2:decide ((k:Int)<(p.length:Int))=true:=decide_eq_true (by omega)
    have w2:IntKind.i64.wrap ((k:Int)+1)=k+1:=wrap_i64 (by omega) (by omega)
    have htk:(p.take k).length≤11:=Nat.le_trans (List.length_take_le ..) (Nat.le_trans hk hpl)
    have h47:=zJ6 p[k]
    generalize p[k]=b at hpx hg2 hs h47
    cases c1:(b == 47)
    ·rw [c1] at hs h47
     rw [if_neg (by simp)] at hs
     have hQ:=PLift.up hs
     clear hs c1
     repeat' (first|simp only [*,go_sem,Nat.reduceLT,Nat.reduceEqDiff,↓reduceIte]|((with_reducible refine And.intro ?_ ?_);(focus (omega))))
     exact eM (k+1,u) ⟨by omega,hu,hQ.down.symm⟩ (by simp only;omega) (aI rfl rfl rfl (by simp [aH,aL,aC,aG,aF]))
    ·rw [c1] at hs h47
     cases c2:aW u (p.take k)
     ·rw [c2] at hs
      rw [if_pos (by simp)] at hs
      cases c3:(aR u (p.take k)).isSome
      ·rw [c3,if_neg (by simp)] at hs
       cases c4:((jQ u (p.take k) ⟨2,493,0,[]⟩).2 == 0)
       ·rw [show kM u (jQ u (p.take k) ⟨2,493,0,[]⟩)=u by unfold kM;rw [c4];rfl] at hs
        have hQ:=PLift.up hs
        clear hs c1
        repeat' (first|simp only [*,go_sem,Nat.reduceLT,Nat.reduceLeDiff,Nat.reduceEqDiff,↓reduceIte,Nat.reduceAdd,Int.reduceLE,Int.reduceToNat]|((with_reducible refine bK (oE (t:=u) (by omega)) ?_ ?_ ?_);exact rfl;exact fun _=>rfl)|((with_reducible refine bK (oT (t:=u) (by omega)) ?_ ?_ ?_);exact rfl;exact fun _=>rfl)|((with_reducible refine bK (zBn (t:=u) (by omega) (by omega) hup) ?_ ?_ ?_);exact rfl;exact fun _=>rfl)|((with_reducible refine And.intro ?_ ?_);(focus (omega))))
        exact eM (k+1,u) ⟨by omega,hu,hQ.down.symm⟩ (by simp only;omega) (aI rfl rfl rfl (by simp [aH,aL,aC,aG,aF]))
       ·rw [show kM u (jQ u (p.take k) ⟨2,493,0,[]⟩)=(jQ u (p.take k) ⟨2,493,0,[]⟩).1 by unfold kM;rw [c4];rfl] at hs
        have hQ:=PLift.up hs
        have hpk:=hu.put (p:=p.take k) (n:=⟨2,493,0,[]⟩) (show (0:Nat)<18446744073709551616 by decide) (eq_of_beq c4)
        clear hs c1
        repeat' (first|simp only [*,go_sem,Nat.reduceLT,Nat.reduceLeDiff,Nat.reduceEqDiff,↓reduceIte,Nat.reduceAdd,Int.reduceLE,Int.reduceToNat]|((with_reducible refine bK (oE (t:=u) (by omega)) ?_ ?_ ?_);exact rfl;exact fun _=>rfl)|((with_reducible refine bK (oT (t:=u) (by omega)) ?_ ?_ ?_);exact rfl;exact fun _=>rfl)|((with_reducible refine bK (zBn (t:=u) (by omega) (by omega) hup) ?_ ?_ ?_);exact rfl;exact fun _=>rfl)|((with_reducible refine And.intro ?_ ?_);(focus (omega))))
        exact eM (k+1,_) ⟨by omega,hpk,hQ.down.symm⟩ (by simp only;omega) (aI rfl rfl rfl (by simp [aH,aL,aC,aG,aF]))
      ·rw [c3,if_pos rfl] at hs
       replace hs:=hs.symm
       subst hs
       clear c1
       repeat' (first|simp only [*,go_sem,Nat.reduceLT,Nat.reduceLeDiff,Nat.reduceEqDiff,↓reduceIte,Nat.reduceAdd,Int.reduceLE,Int.reduceToNat]|((with_reducible refine bK (oE (t:=u) (by omega)) ?_ ?_ ?_);exact rfl;exact fun _=>rfl)|((with_reducible refine bK (oT (t:=u) (by omega)) ?_ ?_ ?_);exact rfl;exact fun _=>rfl)|((with_reducible refine bK (hnc) ?_ ?_ ?_);exact rfl;exact fun _=>rfl)|((with_reducible refine bK (NB (t:=u) (by omega) (by omega) hup (by omega)) ?_ ?_ ?_);exact rfl;exact fun _=>rfl)|with_reducible refine aM (fun _=>?_) (fun _=>?_)|with_reducible refine bF (fun _=>?_) (fun _=>?_)|((with_reducible refine And.intro ?_ ?_);(focus (omega))))
       all_goals (have hstep:=hSP.down;simp only [zBe,kM,Bool.and_true,Bool.and_false,Bool.false_and,Bool.false_eq_true,if_true,if_false, *] at hstep)
       all_goals (refine eM (i+1,_) ⟨?_,?_,hstep⟩ ?_ (aI rfl rfl rfl ?_) <;> first|omega|(simp only;omega;done)|(simp [aH,aL,aC,aG,aF];done)|(simp [aH,aL,aC,aG,aF,tG,sF,sU,dR,lS,vV];rfl))
     ·rw [c2] at hs
      rw [if_neg (by simp)] at hs
      have hQ:=PLift.up hs
      clear hs c1
      repeat' (first|simp only [*,go_sem,Nat.reduceLT,Nat.reduceEqDiff,↓reduceIte,Int.reduceLE,Int.reduceToNat]|((with_reducible refine bK (oE (t:=u) (by omega)) ?_ ?_ ?_);exact rfl;exact fun _=>rfl)|((with_reducible refine And.intro ?_ ?_);(focus (omega))))
      exact eM (k+1,u) ⟨by omega,hu,hQ.down.symm⟩ (by simp only;omega) (aI rfl rfl rfl (by simp [aH,aL,aC,aG,aF]))
   ·have h2:decide ((k:Int)<(p.length:Int))=false:=decide_eq_false (by omega)
    rw [show p.length-k=0 by omega,tC] at hU
    subst hU
    repeat' (first|simp only [*,go_sem,Nat.reduceLT,Nat.reduceLeDiff,Nat.reduceEqDiff,↓reduceIte,Nat.reduceAdd]|((with_reducible refine bK (oT (t:=u) (by omega)) ?_ ?_ ?_);exact rfl;exact fun _=>rfl)|((with_reducible refine bK (hnc) ?_ ?_ ?_);exact rfl;exact fun _=>rfl)|((with_reducible refine bK (NB (t:=u) (by omega) (by omega) hup (by omega)) ?_ ?_ ?_);exact rfl;exact fun _=>rfl)|with_reducible refine aM (fun _=>?_) (fun _=>?_)|with_reducible refine bF (fun _=>?_) (fun _=>?_)|((with_reducible refine And.intro ?_ ?_);(focus (omega))))
    all_goals (have hstep:=hSP.down;simp only [zBe,kM,Bool.and_true,Bool.and_false,Bool.false_and,Bool.false_eq_true,if_true,if_false, *] at hstep)
    all_goals (refine eM (i+1,_) ⟨?_,?_,hstep⟩ ?_ (aI rfl rfl rfl ?_) <;> first|omega|(simp only;omega;done)|(simp [aH,aL,aC,aG,aF];done)|(simp [aH,aL,aC,aG,aF,tG,sF,sU,dR,lS,vV];rfl))
  ·have h1:decide ((i:Int)<30)=false:=decide_eq_false (by omega)
   have h0:decide ((i:Int)<(l.length:Int))=true:=decide_eq_true (by omega)
   rw [KW (.inr (by omega)) hi2] at htq
   subst htq
   repeat' (simp only [*,go_sem,Nat.reduceLT,Nat.reduceEqDiff,↓reduceIte])
 ·have h1:decide ((i:Int)<(l.length:Int))=false:=decide_eq_false (by omega)
  rw [KW (.inl (by omega)) hi2] at htq
  subst htq
  repeat' (simp only [*,go_sem,Nat.reduceLT,Nat.reduceEqDiff,↓reduceIte])
end
end Go.Proofs.YtbpblnmhlhpebaaGreatDoor
