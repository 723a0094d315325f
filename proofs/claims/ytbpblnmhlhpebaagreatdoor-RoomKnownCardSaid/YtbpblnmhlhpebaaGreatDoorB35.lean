/- Part 36 of the proof of roomKnown_card. No condition. -/
import Derived.Test.YtbpblnmhlhpebaaGreatDoorB34
set_option linter.all false
set_option maxRecDepth 100000
set_option maxHeartbeats 8000000
namespace Go.Dm
open Go Go.Sort Go.Proofs
section
def GI (t w:List It) (p:List UInt8):Bool:=t.any fun y=>aP p y.p && (aQ w y.p).isSome
def nR (t w:List It) (p:List UInt8):Bool:=aY w p && (aY t p && (!decide (((gP t p).length:Int)<2) && !GI t w p))
theorem VH (t w:List It) (p:List UInt8):GI t w p=KK t w p:=by
 unfold GI KK
 congr 1
 funext y
 rw [Bool.and_comm]
theorem zJP {t w:List It} {x:It} (hx:x∈w) (h:zDf t w x=true):isB (jI t w) x.p=true :=
 List.any_eq_true.2 ⟨x.p,List.mem_map.2 ⟨x,List.mem_filter.2 ⟨hx,h⟩,rfl⟩,beq_self_eq_true _⟩
theorem CH {t w:List It} (hw:OkT w) {x:It} (hx:x∈w):((x.n.k == 2) && nR t w x.p)=isB (jI t w) x.p:=by
 have h0:(x.p == [])=false:=by simpa using hw.ne x hx
 have h1:aY w x.p=(x.n.k == 2):=by
  unfold aY
  rw [cW hw.srt hx,h0,Bool.false_or]
 have h2:((x.n.k == 2) && nR t w x.p)=zDf t w x:=by
  unfold nR zDf zAL
  rw [h1,h0,VH]
  cases x.n.k == 2 <;> cases aY t x.p <;> simp
 rw [h2]
 cases hb:isB (jI t w) x.p
 ·cases ho:zDf t w x
  ·rfl
  ·rw [zJP hx ho] at hb;cases hb
 ·exact DR hw hx hb
def zLZ (t w:List It) (q:List UInt8):Bool:=!(aQ w q).isSome || (!aY w q || nR t w q)
theorem zJC {t w:List It} (hw:OkT w) {q:List UInt8} (hq:q≠[]):zLZ t w q=(!(aQ w q).isSome || (((aQ w q).getD nd0).k != 2 || isB (jI t w) q)):=by
 have h0:(q == [])=false:=by simpa using hq
 unfold zLZ
 cases hg:aQ w q with
 | none=>rfl
 | some n =>
  obtain ⟨x,hx,rfl,rfl⟩:=cH hg
  have h1:aY w x.p=(x.n.k == 2):=by
   unfold aY
   rw [hg,h0,Bool.false_or]
  have h2:=CH (t:=t) hw hx
  rw [h1,Option.isSome_some,Option.getD_some,← h2]
  cases hk:x.n.k == 2 <;> simp [bne,hk]
def TO (t w:List It):List En:=(t.filter fun y=>!(aQ w y.p).isSome && !GU w (jI t w) y.p).map fun y=>kQ y.p
def lW (t w:List It):List En:=iB t (jI t w) w++TO t w
theorem yW {t w:List It} (ht:OkT t) (hw:OkT w) (e:En):e∈dY t w↔e∈lW t w:=by
 rw [(lY ht hw).2 e]
 unfold lW TO
 rw [List.mem_append,List.mem_map]
 constructor
 ·rintro (h|⟨y,hy,rfl,h1,h2⟩)
  ·exact .inl h
  ·exact .inr ⟨y,List.mem_filter.2 ⟨hy,by rw [h1,h2];rfl⟩,rfl⟩
 ·rintro (h|⟨y,hy,rfl⟩)
  ·exact .inl h
  ·obtain ⟨h1,h2⟩:=List.mem_filter.1 hy
   simp only [Bool.and_eq_true,Bool.not_eq_true'] at h2
   exact .inr ⟨y,h1,rfl,h2.1,h2.2⟩
theorem tT {l:List En} (h:ZG l):l.Nodup:=h.imp fun {a b} h e=>by subst e;rw [bY] at h;cases h
theorem QR {t w:List It} (ht:OkT t) (hw:OkT w):(lW t w).Nodup:=by
 unfold lW
 refine List.nodup_append.2 ⟨tT (KX hw.srt),?_,fun a ha b hb e=>?_⟩
 ·have:(TO t w).Pairwise fun x y=>bL x.p y.p=true:=List.pairwise_map.2 ((ht.srt.filter _).imp fun h=>h)
  exact tT this
 ·obtain ⟨x,hx,rfl⟩:=jM ha
  obtain ⟨y,_,rfl⟩:=List.mem_map.1 hb
  injection e with _ h _ _
  cases h
def leE (x y:En):Bool:=!bL y.p x.p
def yI (l:List En):List En:=l.mergeSort leE
theorem oG (l:List En):(yI l).Perm l:=List.mergeSort_perm _ _
theorem zCi (l:List En):(yI l).length=l.length:=List.length_mergeSort ..
theorem LC (l:List En):(yI l).Pairwise fun x y=>bL y.p x.p=false:=by
 have h:(yI l).Pairwise fun x y=>leE x y=true:=by
  refine List.pairwise_mergeSort (le:=leE) ?_ ?_ _
  ·intro a b c h1 h2
   simp only [leE,Bool.not_eq_true'] at h1 h2 ⊢
   cases e:bL c.p a.p with
   | false=>rfl
   | true =>
    cases f:bL a.p b.p with
    | true=>have:=cF e f;rw [h2] at this;cases this
    | false=>have:=dX f h1;rw [← this,e] at h2;cases h2
  ·intro a b
   simp only [leE]
   cases h:bL b.p a.p with
   | false=>simp
   | true=>simp [eI h]
 exact h.imp fun h=>by unfold leE at h;simpa using h
theorem zBE {l:List En} (hu:∀ x∈l,∀ y∈l,x.p=y.p→x=y):∀ x∈gN l,∀ y∈gN l,ltOf cfI x y=false→ltOf cfI y x=false→x=y:=by
 rw [KJ]
 intro x hx y hy h k
 obtain ⟨a,ha,rfl⟩:=List.mem_map.1 hx
 obtain ⟨b,hb,rfl⟩:=List.mem_map.1 hy
 rw [hu a ha b hb (dX h k)]
theorem zDm (l:List En):(gN l).mergeSort (ND (ltOf cfI))=gN (yI l):=by
 rw [KJ]
 unfold gN yI
 exact (List.map_mergeSort (r:=leE) (s:=ND zKd) (f:=En.cs) (l:=l) fun a _ b _=>rfl).symm
theorem MW {t w:List It} (ht:OkT t) (hw:OkT w):∀ x∈lW t w,∀ y∈lW t w,x.p=y.p→x=y :=
 fun x hx y hy e=>ET (lY ht hw).1 x ((yW ht hw x).2 hx) y ((yW ht hw y).2 hy) e
theorem zCr {t w:List It} (ht:OkT t) (hw:OkT w):yI (lW t w)=dY t w:=by
 obtain ⟨hs,_⟩:=lY ht hw
 have hinj:=MW ht hw
 have hnd:(yI (lW t w)).Nodup:=(oG _).nodup_iff.2 (QR ht hw)
 have hstrict:(yI (lW t w)).Pairwise fun x y=>bL x.p y.p=true:=by
  refine ((LC (lW t w)).and hnd).imp_of_mem fun {a b} ha hb h=>?_
  obtain ⟨h1,h2⟩:=h
  cases h3:bL a.p b.p
  ·exact absurd (hinj a ((oG _).mem_iff.1 ha) b ((oG _).mem_iff.1 hb) (dX h3 h1)) h2
  ·rfl
 exact List.Perm.eq_of_pairwise (le:=fun (x y:En)=>bL x.p y.p=true) (fun _ _ _ _ h k=>by rw [eI h] at k;cases k) hstrict hs
  ((List.perm_ext_iff_of_nodup hnd (tT hs)).2 fun e=>(oG _).mem_iff.trans (yW ht hw e).symm)
end
end Go.Dm
namespace Go.Proofs.YtbpblnmhlhpebaaGreatDoor
open Go Go.Dm Go.Proofs
section
theorem zH9 {t w:List It} {q p:List UInt8} {k m:Int} {tt:Nat} {d:List UInt8} (hw:OkT w) (hp:p.length≤1000000):
  aA Tryz.prog 277 [.agg [.p (.s q),.p (.i .i64 k),.p (.i .i64 m),.p (.f tt),.p (.sl 1 (cB d))],.c (.ptr 0 0),.c (.ptr 1 0)] [.box [.p (.sl 5 (aV t)),.p (.sl 5 (aV w))],.box [.p (.s p)]]
   fun r h=>r=.c (.p (.b (aP p q && (aQ w q).isSome)))∧h=[.box [.p (.sl 5 (aV t)),.p (.sl 5 (aV w))],.box [.p (.s p)]]:=by
 have hwl:=hw.len
 have hg:=eT (t:=w) (p:=q) (by omega) hw.srt hw.ne (fun x hx=>Nat.le_trans (hw.dlen x hx) (by decide))
 generalize (aQ w q).getD nd0=n at hg
 generalize (aQ w q).isSome=is at hg ⊢
 obtain ⟨nk,nm,nt,nd⟩:=n
 unfold Nd.cv at hg
 simp only at hg
 refine ent aB aK Tryz.func277 rfl rfl fun X0 hX=>?_
 simp only [Tryz.f277,go_sem]
 cases is
 all_goals repeat' (first|simp only [*,go_sem,Nat.reduceLT,Nat.reduceLeDiff,Nat.reduceEqDiff,↓reduceIte,Nat.reduceAdd,bV,aG]|((with_reducible refine bP (hg) ?_ ?_ ?_);exact rfl;exact fun _=>rfl)|((with_reducible refine aS (cL (p:=p) (by omega)) ?_ ?_ ?_);exact rfl;exact rfl)|with_reducible refine bR (fun _=>?_) (fun _=>?_))
 all_goals simp_all
theorem zEc {t w:List It} {p:List UInt8} (hw:OkT w) (ht:t.length≤1000000) (hp:p.length≤1000000):
  aA Tryz.prog 346 [.c (.p (.sl 5 (aV t))),.c (.clo 277 [.ptr 0 0,.ptr 1 0])] [.box [.p (.sl 5 (aV t)),.p (.sl 5 (aV w))],.box [.p (.s p)]]
   fun r h=>(∃ i:Int,r=.c (.p (.i .i64 i))∧decide (0≤i)=GI t w p)∧h=[.box [.p (.sl 5 (aV t)),.p (.sl 5 (aV w))],.box [.p (.s p)]]:=by
 refine ent aB aK Tryz.func346 rfl rfl fun X0 hX=>?_
 simp only [Tryz.f346,go_sem]
 repeat' (simp only [*,go_sem,Nat.reduceLT,Nat.reduceEqDiff,↓reduceIte,Nat.reduceAdd,Int.reduceNeg])
 refine bC aB aK (α:=Nat) (fun k=>⟨19,[(0,.c (.p (.sl 5 (aV t)))),(1,.c (.clo 277 [.ptr 0 0,.ptr 1 0])),(7,.c (.p (.i .i64 t.length))),(8,.c (.p (.i .i64 k)))],[.box [.p (.sl 5 (aV t)),.p (.sl 5 (aV w))],.box [.p (.s p)]]⟩)
  (fun k=>k≤t.length∧(t.drop k).any (fun y=>aP p y.p && (aQ w y.p).isSome)=GI t w p) (fun k=>t.length-k) 0 ⟨Nat.zero_le _,rfl⟩ (.inl (aJ (by rw [hX];rfl) rfl rfl (by simp [aI,aM,aD,aH,aG,cI]))) ?_
 rintro k ⟨hk,hs⟩
 by_cases hlt:k<t.length
 ·have hx:t[k]? = some t[k]:=List.getElem?_eq_getElem hlt
  have hg:=cZ hx
  have hd:=drop_at hx
  have h1:decide ((k:Int)<(t.length:Int))=true:=decide_eq_true (by omega)
  have hli:(k:Int)<(t.length:Int):=by omega
  have hk0:(0:Int)≤k:=by omega
  have w1:IntKind.i64.wrap ((k:Int)+1)=k+1:=wrap_i64 (by omega) (by omega)
  generalize t[k]=x at hx hg hd
  rw [hd,List.any_cons] at hs
  have hc:=zH9 (t:=t) (w:=w) (q:=x.p) (p:=p) (k:=x.n.k) (m:=x.n.m) (tt:=x.n.t) (d:=x.n.d) hw hp
  cases hb:(aP p x.p && (aQ w x.p).isSome)
  ·rw [hb,Bool.false_or] at hs
   rw [hb] at hc
   have hP:=PLift.up hs
   clear hs hx hd hb
   repeat' (simp only [*,go_sem,Nat.reduceLT,Nat.reduceLeDiff,Nat.reduceEqDiff,↓reduceIte,Nat.reduceAdd,Int.reduceNeg])
   refine aA.mono hc ?_
   rintro _ _ ⟨rfl,rfl⟩
   repeat' (simp only [*,go_sem,Nat.reduceLT,Nat.reduceEqDiff,↓reduceIte,Int.reduceNeg])
   exact gL (k+1) ⟨by omega,hP.down⟩ (by omega) (aJ rfl rfl rfl (by simp [aI,aM,aD,aH,aG,cI]))
  ·rw [hb,Bool.true_or] at hs
   rw [hb] at hc
   have hP:=PLift.up hs
   clear hs hx hd hb
   repeat' (simp only [*,go_sem,Nat.reduceLT,Nat.reduceLeDiff,Nat.reduceEqDiff,↓reduceIte,Nat.reduceAdd,Int.reduceNeg])
   refine aA.mono hc ?_
   rintro _ _ ⟨rfl,rfl⟩
   repeat' (simp only [*,go_sem,Nat.reduceLT,Nat.reduceEqDiff,↓reduceIte,Int.reduceNeg,bV,aG])
   exact ⟨k,rfl,by rw [← hP.down];exact decide_eq_true (by omega)⟩
 ·have h1:decide ((k:Int)<(t.length:Int))=false:=decide_eq_false (by omega)
  rw [List.drop_of_length_le (by omega)] at hs
  have hP:=PLift.up hs
  clear hs
  repeat' (simp only [*,go_sem,Nat.reduceLT,Nat.reduceEqDiff,↓reduceIte,Nat.reduceAdd,Int.reduceNeg,bV,aG])
  exact ⟨-1,rfl,by rw [← hP.down];rfl⟩
theorem zIt {t w:List It} {p:List UInt8} (hw:OkT w) (ht:t.length≤1000000) (hp:p.length≤1000000):
  aA Tryz.prog 276 [.c (.p (.sl 5 (aV t))),.c (.clo 277 [.ptr 0 0,.ptr 1 0])] [.box [.p (.sl 5 (aV t)),.p (.sl 5 (aV w))],.box [.p (.s p)]]
   fun r h=>r=.c (.p (.b (GI t w p)))∧h=[.box [.p (.sl 5 (aV t)),.p (.sl 5 (aV w))],.box [.p (.s p)]]:=by
 refine ent aB aK Tryz.func276 rfl rfl fun X0 hX=>?_
 simp only [Tryz.f276,go_sem]
 repeat' (simp only [*,go_sem,Nat.reduceLT,Nat.reduceEqDiff,↓reduceIte,Nat.reduceAdd])
 refine aA.mono (zEc hw ht hp) ?_
 rintro _ _ ⟨⟨i,rfl,hi⟩,rfl⟩
 have hi2:decide (i≥0)=GI t w p:=hi
 repeat' (simp only [*,go_sem,Nat.reduceLT,↓reduceIte,bV,aG])
theorem zBk {t w:List It} {p:List UInt8} (hw:OkT w) (ht:t.length≤1000000) (hp:p.length≤1000000):
  aA Tryz.prog 204 [.agg [.p (.sl 5 (aV t)),.p (.sl 5 (aV w))],.c (.p (.s p))] [] fun r h=>r=.c (.p (.b (GI t w p)))∧h=[]:=by
 refine ent aB aK Tryz.func204 rfl rfl fun X0 hX=>?_
 simp only [Tryz.f204,go_sem]
 repeat' (simp only [*,go_sem,Nat.reduceLT,Nat.reduceEqDiff,↓reduceIte])
 refine aA.mono (zIt hw ht hp) ?_
 rintro _ _ ⟨rfl,rfl⟩
 repeat' (simp only [*,go_sem,Nat.reduceLT,↓reduceIte])
theorem TG {t w:List It} {p:List UInt8} (ht:OkT t) (hw:OkT w) (hp:p.length≤1000000):
  aA Tryz.prog 127 [.agg [.p (.sl 5 (aV t)),.p (.sl 5 (aV w))],.c (.p (.s p))] [] fun r h=>r=.c (.p (.b (nR t w p)))∧h=[]:=by
 have htl:=ht.len
 have hwl:=hw.len
 have h1:=eC (t:=t) (p:=p) (by omega) ht.srt
 have h2:=eC (t:=w) (p:=p) (by omega) hw.srt
 have h3:=EK (p:=p) ht
 have h4:=zBk (t:=t) (w:=w) (p:=p) hw (by omega) hp
 unfold nR
 generalize aY t p=a at *
 generalize aY w p=b at *
 generalize GI t w p=c at *
 generalize hnn:gP t p=nn at *
 have hge:decide ((nn.length:Int)≥2) = !decide ((nn.length:Int)<2):=by
  by_cases h:(nn.length:Int)<2
  ·rw [decide_eq_true h,decide_eq_false (by omega)];rfl
  ·rw [decide_eq_false h,decide_eq_true (by omega)];rfl
 have hle:decide (2≤(nn.length:Int)) = !decide ((nn.length:Int)<2):=hge
 generalize decide ((nn.length:Int)<2)=d at *
 refine ent aB aK Tryz.func127 rfl rfl fun X0 hX=>?_
 simp only [Tryz.f127,go_sem]
 cases a <;> cases b <;> cases c <;> cases d
 all_goals repeat' (first|simp only [*,go_sem,Nat.reduceLT,Nat.reduceLeDiff,Nat.reduceEqDiff,↓reduceIte,Nat.reduceAdd,Bool.not_true,Bool.not_false]|((with_reducible refine aS (h1) ?_ ?_ ?_);exact rfl;exact rfl)|((with_reducible refine aS (h2) ?_ ?_ ?_);exact rfl;exact rfl)|((with_reducible refine bP (h3) ?_ ?_ ?_);exact rfl;exact fun _=>rfl)|((with_reducible refine aS (h4) ?_ ?_ ?_);exact rfl;exact rfl))
 all_goals rfl
theorem zFz {t w:List It} {p:List UInt8} (ht:OkT t) (hw:OkT w) (hp:p.length≤1000000):
  aA Tryz.prog 129 [.agg [.p (.sl 5 (aV t)),.p (.sl 5 (aV w))],.c (.p (.s p))] [] fun r h=>r=.c (.p (.b (GU w (jI t w) p)))∧h=[]:=by
 have hdl:=zCC p
 have hwl:=hw.len
 refine ent aB aK Tryz.func129 rfl rfl fun X0 hX=>?_
 simp only [Tryz.f129,go_sem]
 repeat' (first|simp only [*,go_sem,Nat.reduceLT,Nat.reduceEqDiff,↓reduceIte]|((with_reducible refine aS (dJ (p:=p) (by omega)) ?_ ?_ ?_);exact rfl;exact rfl))
 refine bC aB aK (α:=Nat × List UInt8) (fun x=>⟨35,[(2,.c (.ptr 0 0)),(5,.c (.p (.s x.2)))],[.box [.p (.sl 5 (aV t)),.p (.sl 5 (aV w))]]⟩)
  (fun x=>x.2.length≤x.1∧x.1≤p.length∧zD4 w (jI t w) x.1 x.2=GU w (jI t w) p) (fun x=>x.1) (p.length,aR p) ⟨hdl,Nat.le_refl _,rfl⟩ (.inl (aJ (by rw [hX];rfl) rfl rfl (by simp [aI,aM,aD,aH,aG]))) ?_
 rintro ⟨n,q⟩ ⟨hq,hn,hc⟩
 simp only at hq hn hc
 cases hq0:(q == [])
 ·have hq1:(q != [])=true:=by rw [bne,hq0];rfl
  have hqn:q≠[]:=by simpa using hq0
  obtain ⟨n,rfl⟩:∃ m,n=m+1:=⟨n-1,by have:=List.length_pos_iff.2 hqn;omega⟩
  have hdq:(aR q).length≤n:=by
   by_cases h:aR q=[]
   ·rw [h];exact Nat.zero_le _
   ·have:=rY h;omega
  rw [xE hqn,← zJC hw hqn] at hc
  have hg:=eT (t:=w) (p:=q) (by omega) hw.srt hw.ne (fun x hx=>Nat.le_trans (hw.dlen x hx) (by decide))
  have hd:=eC (t:=w) (p:=q) (by omega) hw.srt
  have ho:=TG (p:=q) ht hw (by omega)
  unfold zLZ at hc
  generalize (aQ w q).getD nd0=x at hg
  generalize (aQ w q).isSome=is at hg hc
  generalize aY w q=dir at hd hc
  generalize nR t w q=op at ho hc
  obtain ⟨nk,nm,nt,nd⟩:=x
  unfold Nd.cv at hg
  simp only at hg
  cases is <;> cases dir <;> cases op
  all_goals simp only [Bool.not_true,Bool.not_false,Bool.or_true,Bool.or_false,if_true,Bool.false_eq_true,if_false] at hc
  case true.true.false =>
   have hC:=PLift.up hc
   clear hc
   repeat' (first|simp only [*,go_sem,Nat.reduceLT,Nat.reduceLeDiff,Nat.reduceEqDiff,↓reduceIte,Nat.reduceAdd,Bool.not_true,Bool.not_false]|((with_reducible refine bP (hg) ?_ ?_ ?_);exact rfl;exact fun _=>rfl)|((with_reducible refine aS (hd) ?_ ?_ ?_);exact rfl;exact rfl)|((with_reducible refine aS (ho) ?_ ?_ ?_);exact rfl;exact rfl)|((with_reducible refine aS (dJ (p:=q) (by omega)) ?_ ?_ ?_);exact rfl;exact rfl))
   exact gL (n,aR q) ⟨hdq,by simp only;omega,hC.down⟩ (by simp only;omega) (aJ rfl rfl rfl (by simp [aI,aM,aD,aH,aG]))
  all_goals rw [← hc]
  all_goals clear hc
  all_goals repeat' (first|simp only [*,go_sem,Nat.reduceLT,Nat.reduceLeDiff,Nat.reduceEqDiff,↓reduceIte,Nat.reduceAdd,Bool.not_true,Bool.not_false]|((with_reducible refine bP (hg) ?_ ?_ ?_);exact rfl;exact fun _=>rfl)|((with_reducible refine aS (hd) ?_ ?_ ?_);exact rfl;exact rfl)|((with_reducible refine aS (ho) ?_ ?_ ?_);exact rfl;exact rfl))
 ·have hq1:(q != [])=false:=by rw [bne,hq0];rfl
  have hqn:q=[]:=eq_of_beq hq0
  subst hqn
  rw [RT] at hc
  rw [← hc]
  clear hc
  repeat' (simp only [*,go_sem,Nat.reduceLT,Nat.reduceEqDiff,↓reduceIte,beq_self_eq_true])
end
end Go.Proofs.YtbpblnmhlhpebaaGreatDoor
namespace Go.Dm
open Go
section
section
variable {P:Program} {T:Tab} {X0:Ctx} {Q:Exit→DS→Prop}
theorem zHy {c:Code} {s:DS} (id:Nat) {k:Nat} {es:List (List PV)} (es':List (List PV)) (hb:s.h[id]? = some (.arr k es false)) (hw:jK es es')
  (h:SWP P X0 c ⟨s.n,s.t,s.h.set id (.arr k es' false)⟩ Q):SWP P X0 c s Q:=by
 intro gd X a hh hi hs ht
 have h0:X.h[id]? = some (.arr k es false):=by rw [hh];exact hb
 have hlen:=hw.len
 have hbl:=hi.blk id _ h0
 have rf:=Step.refl hi
 have st:Step X ⟨X.w,X.S,X.G,X.h.set id (.arr k es' false)⟩:=by
  refine ⟨rf.size,rf.os,rf.tape,rf.output,rf.kept,by simp,fun i db' hl hdb hlv=>?_,rf.frame,fun i db g' hdb hl hf hg'=>?_,rf.upper⟩
  ·rcases bU hdb with ⟨rfl,rfl,_⟩|⟨hne,h'⟩
   ·exact ⟨_,h0,⟨rfl,by omega⟩,rfl,fun g' hg'=>(hi.blk _ _ h0).same rfl g' hg'⟩
   ·exact ⟨db',h',cK.refl hlv,rfl,fun g' hg'=>(hi.blk i db' h').same hlv g' hg'⟩
  ·rcases bU hdb with ⟨rfl,rfl,_⟩|⟨hne,h'⟩
   ·exact .inr ⟨_,_,g',h0,rfl,rfl,hg',rfl⟩
   ·exact .inr ⟨i,db,g',h',hl,hf,hg',rfl⟩
 have hi':HInv ⟨X.w,X.S,X.G,X.h.set id (.arr k es' false)⟩:=by
  refine ⟨hi.slt,fun i db hdb=>?_,fun i db g' hdb hl hg'=>?_,fun i db i' db' g1 g2 hdb hl hf hdb' hl' hg1 hg2 he=>?_⟩
  ·rcases bU hdb with ⟨rfl,rfl,_⟩|⟨hne,h'⟩
   ·rcases hbl with ⟨h1,h2⟩|⟨g,arr,el,fz,h1,h2,h3,h4,h5⟩
    ·exact .inl ⟨h1,List.eq_nil_of_length_eq_zero (by rw [hlen,h2];rfl)⟩
    ·exact .inr ⟨g,arr,el,fz,h1,h2,by rw [hlen];exact h3,h4,hw.relL h5⟩
   ·exact (hi.blk i db h').move st rfl fun _ _=>rfl
  ·rcases bU hdb with ⟨rfl,rfl,_⟩|⟨hne,h'⟩
   ·have:=hi.own _ (.arr k es false) g' h0 rfl hg'
    exact this
   ·exact hi.own i db g' h' hl hg'
  ·rcases bU hdb with ⟨rfl,rfl,_⟩|⟨hne,h1'⟩ <;> rcases bU hdb' with ⟨rfl,rfl,_⟩|⟨hne',h2'⟩
   ·rfl
   ·exact hi.inj i _ i' db' g1 g2 h0 rfl rfl h2' hl' hg1 hg2 he
   ·exact hi.inj i db i' _ g1 g2 h1' hl hf h0 rfl hg1 hg2 he
   ·exact hi.inj i db i' db' g1 g2 h1' hl hf h2' hl' hg1 hg2 he
 exact h gd ⟨X.w,X.S,X.G,X.h.set id (.arr k es' false)⟩ a (by simp only [hh]) hi' (hs.trans hi st) ⟨ht.size,fun j=>(ht.rel j).step st,ht.defs⟩
theorem LZ:∀ e:List PV,zEn e e
 | []=>True.intro
 | _::e=>⟨.inl rfl,LZ e⟩
theorem xK:∀ e:List (List PV),jK e e
 | []=>True.intro
 | e::es=>⟨LZ e,xK es⟩
theorem CF:∀ {a b c d:List (List PV)},jK a b→jK c d→jK (a++c) (b++d)
 | [],[],_,_,_,h=>h
 | _::_,_::_,_,_,h1,h2=>⟨h1.1,CF h1.2 h2⟩
 | [],_::_,_,_,h,_=>h.elim
 | _::_,[],_,_,h,_=>h.elim
end
end
end Go.Dm
