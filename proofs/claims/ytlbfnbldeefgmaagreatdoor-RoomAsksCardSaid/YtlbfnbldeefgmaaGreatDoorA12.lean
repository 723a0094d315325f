/- Part 13 of the proof of roomAsks_card, set without needless blanks. No condition. -/
import Derived.Test.YtlbfnbldeefgmaaGreatDoorA11
set_option linter.all false
section
namespace Go.Dm
open Go Go.Sort Go.Proofs
set_option maxRecDepth 100000
def leI (x y:It):Bool:=!bL y.p x.p
def fH (l:List It):List It:=l.mergeSort leI
def MC:List PV→List UInt8
 | .s p::_=>p
 | _=>[]
def zLE (x y:List PV):Bool:=bL (MC x) (MC y)
theorem zHA:SWO zLE where
 irrefl _:=cM _
 trans _ _ _:=cC
 ntrans x y z h k:=by
  unfold zLE at *;cases e:bL (MC x) (MC z) with
  | false=>rfl
  | true =>
   cases f:bL (MC y) (MC x) with
   | true=>have:=cC f e;rw [k] at this;cases this
   | false=>have:=dV h f;rw [this,k] at e;cases e
def cfI (x y:List PV):Int:=HL (MC x) (MC y)
theorem LK:ltOf cfI=zLE:=by
 funext x y
 exact pF
theorem TC:SWO (ltOf cfI):=by rw [LK];exact zHA
theorem HZ {l:List It} (hu:∀ x∈l,∀ y∈l,x.p=y.p→x=y):∀ x∈aU l,∀ y∈aU l,ltOf cfI x y=false→ltOf cfI y x=false→x=y:=by
 rw [LK];intro x hx y hy h k;obtain ⟨a,ha,rfl⟩:=List.mem_map.1 hx;obtain ⟨b,hb,rfl⟩:=List.mem_map.1 hy;rw [hu a ha b hb (dV h k)]
theorem KF (l:List It):(aU l).mergeSort (WD (ltOf cfI))=aU (fH l):=by
 rw [LK];unfold aU fH;exact (List.map_mergeSort (r:=leI) (s:=WD zLE) (f:=It.cs) (l:=l) fun a _ b _=>rfl).symm
theorem oY (l:List It):(fH l).Perm l:=List.mergeSort_perm _ _
theorem zY (l:List It):(fH l).length=l.length:=List.length_mergeSort ..
theorem NN (l:List It):(fH l).Pairwise fun x y=>bL y.p x.p=false:=by
 have h:(fH l).Pairwise fun x y=>leI x y=true:=by
  refine List.pairwise_mergeSort (le:=leI) ?_ ?_ _
  ·intro a b c h1 h2;simp only [leI,Bool.not_eq_true'] at h1 h2 ⊢;cases e:bL c.p a.p with
   | false=>rfl
   | true =>
    cases f:bL a.p b.p with
    | true=>have:=cC e f;rw [h2] at this;cases this
    | false=>have:=dV f h1;rw [← this,e] at h2;cases h2
  ·intro a b;simp only [leI];cases h:bL b.p a.p with
   | false=>simp
   | true=>simp [eH h]
 exact h.imp fun {a b} h=>by simpa [leI] using h
theorem NO {l:List It} (hn:(l.map It.p).Nodup):Srt (fH l):=by
 have hn2:((fH l).map It.p).Nodup:=(((oY l).map It.p).nodup_iff).2 hn;have h1:=NN l;have h2:(fH l).Pairwise fun x y=>x.p≠y.p:=List.pairwise_map.1 hn2;exact (h1.and h2).imp fun {a b} ⟨h,k⟩=>by
  cases e:bL a.p b.p with
  | true=>rfl
  | false=>exact absurd (dV e h) k
def rC (t:List It) (c:Ch):Bool:=if c.k == 1 then !(aQ t c.p).isSome else (aQ t c.p).isSome && mI ((aQ t c.p).getD nd0) c.o
def vQ (c:Ch):List It:=if c.k != 2 then [⟨c.p,c.n⟩] else []
def tR (l:List Ch):List It:=l.flatMap vQ
def GV (ks:List (List UInt8)) (x:It):List It:=if !(ks.contains x.p) then [x] else []
def rZ (t:List It) (ks:List (List UInt8)):List It:=t.flatMap (GV ks)
def nI (l:List Ch):List (List UInt8):=(l.map Ch.p).reverse
def GI (t:List It) (l:List Ch):List It:=tR l++rZ t (nI l)
def eG (t:List It) (l:List Ch):List It × Int :=
 if !gY l then ([],1) else if !(l.all (rC t)) then ([],17)
 else if decide ((120:Int)<((fH (GI t l)).length:Int)) then ([],16) else if !jD (fH (GI t l)) then ([],17) else (fH (GI t l),0)
theorem ZU {l:List Ch} {i:Nat} {c:Ch} (h:l[i]? = some c):tR (l.take (i+1))=tR (l.take i)++vQ c:=by
 simp [tR,List.take_add_one,h]
theorem ZN {l:List Ch} {i:Nat} {c:Ch} (h:l[i]? = some c):nI (l.take (i+1))=c.p::nI (l.take i):=by
 simp [nI,List.take_add_one,h]
theorem zAn {t:List It} {ks:List (List UInt8)} {i:Nat} {x:It} (h:t[i]? = some x):rZ (t.take (i+1)) ks=rZ (t.take i) ks++GV ks x:=by
 simp [rZ,List.take_add_one,h]
theorem zDC (c:Ch):(vQ c).length≤1:=by unfold vQ;split <;> simp
theorem zEi (ks:List (List UInt8)) (x:It):(GV ks x).length≤1:=by unfold GV;split <;> simp
theorem zDD (l:List Ch):(tR l).length≤l.length:=by
 induction l with
 | nil=>simp [tR]
 | cons c l ih =>
  have:=zDC c;simp only [tR,List.flatMap_cons,List.length_append,List.length_cons] at ih ⊢;omega
theorem zEj (t:List It) (ks:List (List UInt8)):(rZ t ks).length≤t.length:=by
 induction t with
 | nil=>simp [rZ]
 | cons c l ih =>
  have:=zEi ks c;simp only [rZ,List.flatMap_cons,List.length_append,List.length_cons] at ih ⊢;omega
theorem zGX {l:List Ch} {x:It} (h:x∈tR l):∃ c∈l,x=⟨c.p,c.n⟩:=by
 obtain ⟨c,hc,hx⟩:=List.mem_flatMap.1 h;unfold vQ at hx;split at hx
 ·exact ⟨c,hc,by simpa using hx⟩
 ·simp at hx
theorem FX {t:List It} {ks:List (List UInt8)} {x:It} (h:x∈rZ t ks):x∈t∧ks.contains x.p=false:=by
 obtain ⟨c,hc,hx⟩:=List.mem_flatMap.1 h;unfold GV at hx;split at hx
 ·obtain rfl:x=c:=by simpa using hx
  rename_i hk;exact ⟨hc,by simpa only [Bool.not_eq_true'] using hk⟩
 ·simp at hx
theorem sA:∀ {l:List Ch} {q:Option (List UInt8)},eA q l=true→l.Pairwise (fun x y=>bL x.p y.p=true)∧∀ p,q=some p→∀ c∈l,bL p c.p=true
 | [],q,_=>⟨List.Pairwise.nil,fun p _ c hc=>by cases hc⟩
 | d::l,q,h=>by
  rw [eA,Bool.and_eq_true,Bool.and_eq_true] at h;have ih:=sA (l:=l) h.2;have hd:∀ c∈l,bL d.p c.p=true:=ih.2 d.p rfl;refine ⟨List.pairwise_cons.2 ⟨hd,ih.1⟩,fun p hp c hc=>?_⟩;subst hp;have h1:bL p d.p=true:=by simpa [sS] using h.1.2
  rcases List.mem_cons.1 hc with rfl|hc
  ·exact h1
  ·exact cC h1 (hd c hc)
theorem nF {α β:Type} {f:α→β}:∀ {l:List α},(l.map f).Nodup→∀ x∈l,∀ y∈l,f x=f y→x=y
 | [],_,x,hx,_,_,_=>by cases hx
 | a::l,h,x,hx,y,hy,e=>by
  rw [List.map_cons,List.nodup_cons] at h;have hx':=List.mem_cons.1 hx;have hy':=List.mem_cons.1 hy;clear hx hy;rcases hx' with rfl|hx <;> rcases hy' with rfl|hy
  ·rfl
  ·exact absurd (List.mem_map.2 ⟨y,hy,e.symm⟩) h.1
  ·exact absurd (List.mem_map.2 ⟨x,hx,e⟩) h.1
  ·exact nF h.2 x hx y hy e
theorem GB:∀ l:List Ch,((tR l).map It.p).Sublist (l.map Ch.p)
 | []=>List.Sublist.slnil
 | c::l=>by
  have ih:=GB l;simp only [tR,List.flatMap_cons,List.map_append,List.map_cons] at ih ⊢;unfold vQ;split
  ·exact ih.cons_cons _
  ·exact ih.cons _
theorem WV (ks:List (List UInt8)):∀ t:List It,(rZ t ks).Sublist t
 | []=>List.Sublist.slnil
 | c::l=>by
  have ih:=WV ks l;simp only [rZ,List.flatMap_cons] at ih ⊢;unfold GV;split
  ·exact ih.cons_cons _
  ·exact ih.cons _
theorem CI {t:List It} {l:List Ch} (ht:Srt t) (h:gY l=true):((GI t l).map It.p).Nodup:=by
 have h1:=(sA h).1;have n1:(l.map Ch.p).Nodup:=List.pairwise_map.2 (h1.imp fun {a b} h e=>by have:=jT h;rw [e] at this;simp at this)
 have n2:(t.map It.p).Nodup:=List.pairwise_map.2 (ht.imp fun {a b} h e=>by have:=jT h;rw [e] at this;simp at this)
 unfold GI;rw [List.map_append];refine List.nodup_append.2 ⟨(GB l).nodup n1,((WV _ t).map _).nodup n2,fun p hp q hq e=>?_⟩;subst e;obtain ⟨x,hx,rfl⟩:=List.mem_map.1 hq;obtain ⟨_,hk⟩:=FX hx;have:x.p∈l.map Ch.p:=(GB l).subset hp;have:(nI l).contains x.p=true:=by simpa [nI] using this
 rw [hk] at this;cases this
theorem zG7 {t:List It} {l:List Ch} (ht:Srt t) (h:gY l=true):∀ x∈GI t l,∀ y∈GI t l,x.p=y.p→x=y:=nF (CI ht h)
theorem zG8 {t:List It} {l:List Ch} (ht:Srt t) (h:gY l=true):Srt (fH (GI t l)):=NO (CI ht h)
theorem zDw {t:List It} {l:List Ch} {x:It} (h:x∈fH (GI t l)):(∃ c∈l,x=⟨c.p,c.n⟩)∨x∈t:=by
 have h:=(oY _).mem_iff.1 h;rcases List.mem_append.1 h with h|h
 ·exact .inl (zGX h)
 ·exact .inr (FX h).1
end Go.Dm
end
section
namespace Go.Dm
open Go Go.Sort Go.Proofs
set_option maxRecDepth 100000
theorem zIA {s:List It} (hs:Srt s):s.Nodup:=hs.imp fun {a b} h e=>by subst e;rw [cM] at h;cases h
theorem uG {s t:List It} (hs:Srt s) (ht:Srt t) (h:∀ x,x∈s↔x∈t):s=t :=
 List.Perm.eq_of_pairwise (le:=fun (x y:It)=>bL x.p y.p=true) (fun _ _ _ _ h k=>by rw [eH h] at k;cases k) hs ht ((List.perm_ext_iff_of_nodup (zIA hs) (zIA ht)).2 h)
def CC (a b:List It) (p:List UInt8):Int:=iW (aQ a p).isSome (aQ b p).isSome ((aQ a p).getD nd0) ((aQ b p).getD nd0)
theorem VD {a b:List It} {x:It} (hx:x∈a∨x∈b) (hk:CC a b x.p≠0):∃ c∈gG a b,c.p=x.p :=
 TU (tU.2 (hx.imp (fun h=>⟨x,h,rfl⟩) fun h=>⟨x,h,rfl⟩)) hk
theorem WC {l:List Ch} {p:List UInt8}:(nI l).contains p=true↔∃ c∈l,c.p=p:=by
 simp [nI]
theorem LO {l:List Ch} {x:It}:x∈tR l↔∃ c∈l,c.k≠2∧x=⟨c.p,c.n⟩:=by
 unfold tR;rw [List.mem_flatMap];constructor
 ·rintro ⟨c,hc,hx⟩;unfold vQ at hx;split at hx
  ·rename_i hk;exact ⟨c,hc,by simpa using hk,by simpa using hx⟩
  ·simp at hx
 ·rintro ⟨c,hc,hk,rfl⟩;refine ⟨c,hc,?_⟩;unfold vQ;rw [if_pos (by simpa using hk)];exact List.mem_singleton.2 rfl
theorem LQ {t:List It} {ks:List (List UInt8)} {x:It}:x∈rZ t ks↔x∈t∧ks.contains x.p=false:=by
 refine ⟨FX,fun ⟨h1,h2⟩=>List.mem_flatMap.2 ⟨x,h1,?_⟩⟩;unfold GV;rw [h2,if_pos (by decide)];exact List.mem_singleton.2 rfl
theorem VP (x:It):(⟨x.p,x.n⟩:It)=x:=rfl
theorem zJW {a b:List It} (ha:OkT a) (hb:OkT b) (x:It):x∈GI a (gG a b)↔x∈b:=by
 unfold GI;rw [List.mem_append,LO,LQ];constructor
 ·rintro (⟨c,hc,hk,rfl⟩|⟨h1,h2⟩)
  ·obtain ⟨g1,g2⟩:=mY hc;obtain ⟨_,g3⟩:=gL hc;cases hg:aQ b c.p with
   | none =>
    rw [hg] at g1 g2;exfalso;unfold iW at g1 g2;cases hp:(aQ a c.p).isSome <;> rw [hp] at g1 g2 <;> simp_all
   | some n =>
    obtain ⟨y,hy,hyp,hyn⟩:=bZ hg;rw [hg] at g3;have:(⟨c.p,c.n⟩:It)=y:=by rw [g3,← hyp];simp only [Option.getD_some,← hyn]
    rw [this];exact hy
  ·have hga:=cI ha.srt h1;have hk0:CC a b x.p=0:=by
    cases h:decide (CC a b x.p=0) with
    | true=>exact of_decide_eq_true h
    | false =>
     obtain ⟨c,hc,he⟩:=VD (.inl h1) (of_decide_eq_false h);have:=WC.2 ⟨c,hc,he⟩;rw [h2] at this;cases this
   unfold CC iW at hk0;rw [hga] at hk0;cases hg:aQ b x.p with
   | none=>rw [hg] at hk0;simp at hk0
   | some n =>
    rw [hg] at hk0;simp only [Option.isSome_some,if_true,Option.getD_some] at hk0;obtain ⟨y,hy,hyp,hyn⟩:=bZ hg;cases hs:mI x.n n with
    | false =>
     rw [hs] at hk0;simp only [Bool.false_eq_true,if_false] at hk0;split at hk0
     ·cases hk0
     ·split at hk0 <;> cases hk0
    | true =>
     have e:=tQ (ha.plain x h1) (hyn▸hb.plain y hy) hs;have:x=y:=by
      rw [← VP x,← VP y,hyp,hyn,← e]
     rw [this];exact hy
 ·intro hx;have hgb:=cI hb.srt hx;cases h:decide (CC a b x.p=0) with
  | false =>
   obtain ⟨c,hc,he⟩:=VD (.inr hx) (of_decide_eq_false h);obtain ⟨g1,g2⟩:=mY hc;obtain ⟨_,g3⟩:=gL hc;rw [he,hgb] at g1 g3;refine .inl ⟨c,hc,?_,?_⟩
   ·rw [g1];unfold iW;simp only [Option.isSome_some,if_true];split
    ·split
     ·decide
     ·split
      ·decide
      ·split <;> decide
    ·decide
   ·rw [he,g3];rfl
  | true =>
   have hk0:=of_decide_eq_true h;have hno:(nI (gG a b)).contains x.p=false:=by
    rw [Bool.eq_false_iff];intro hk;obtain ⟨c,hc,he⟩:=WC.1 hk;have:=(mY hc).2;rw [he] at this;exact this hk0
   refine .inr ⟨?_,hno⟩;unfold CC iW at hk0;rw [hgb] at hk0;cases hg:aQ a x.p with
   | none=>rw [hg] at hk0;simp at hk0
   | some n =>
    rw [hg] at hk0;simp only [Option.isSome_some,if_true,Option.getD_some] at hk0;obtain ⟨y,hy,hyp,hyn⟩:=bZ hg;cases hs:mI n x.n with
    | false =>
     rw [hs] at hk0;simp only [Bool.false_eq_true,if_false] at hk0;split at hk0
     ·cases hk0
     ·split at hk0 <;> cases hk0
    | true =>
     have e:=tQ (hyn▸ha.plain y hy) (hb.plain x hx) hs;have:x=y:=by rw [← VP x,← VP y,hyp,hyn,e]
     rw [this];exact hy
theorem zCM {a b:List It} (ha:OkT a) {c:Ch} (hc:c∈gG a b):rC a c=true:=by
 obtain ⟨g1,g2⟩:=mY hc;obtain ⟨g3,_⟩:=gL hc;unfold rC;rw [g3,pS (ha.gett _),Bool.and_true];unfold iW at g1 g2;cases hp:(aQ a c.p).isSome
 ·rw [hp] at g1 g2;simp only [Bool.false_eq_true,if_false] at g1 g2;split at g2
  ·rename_i hq;rw [if_pos hq] at g1;rw [g1];rfl
  ·exact absurd rfl g2
 ·rw [hp] at g1;have:(c.k == 1)=false:=by
   rw [g1];simp only [if_true];split
   ·split
    ·rfl
    ·split
     ·rfl
     ·split <;> rfl
   ·rfl
  rw [this];rfl
theorem XO {a b:List It} (ha:OkT a) (hb:OkT b):eG a (gG a b)=(b,0):=by
 have hr:=EP ha hb;have ho:fH (GI a (gG a b))=b:=uG (zG8 ha.srt hr) hb.srt fun x=>((oY _).mem_iff).trans (zJW ha hb x);unfold eG;rw [hr,if_neg (by decide),List.all_eq_true.2 (fun c hc=>zCM ha hc),if_neg (by decide),ho,if_neg (by have:=hb.len;simp;omega),MS hb,if_neg (by decide)]
end Go.Dm
end
section
namespace Go.Dm
open Go
theorem zC4 {α β:Type} {f:α→β}:∀ {l:List α},(l.map f).Nodup→∀ x∈l,∀ y∈l,f x=f y→x=y
 | [],_,x,hx,_,_,_=>by cases hx
 | z::l,h,x,hx,y,hy,e=>by
  rw [List.map_cons,List.nodup_cons] at h;rcases List.mem_cons.1 hx with h1|h1 <;> rcases List.mem_cons.1 hy with h2|h2
  ·rw [h1,h2]
  ·subst h1;exact absurd (e▸List.mem_map_of_mem (f:=f) h2) h.1
  ·subst h2;exact absurd (e▸List.mem_map_of_mem (f:=f) h1) h.1
  ·exact zC4 h.2 x h1 y h2 e
theorem WY {p:List UInt8} {n:Nd} {b:List It}:∀ {a:List It},(∀ x∈a,bL x.p p=true)→vD p n false (a++b)=a++vD p n false b
 | [],_=>rfl
 | x::a,h=>by
  have hx:=h x List.mem_cons_self;have hn:=jT hx;have:=WY (n:=n) (b:=b) fun y hy=>h y (List.mem_cons_of_mem _ hy);rw [List.cons_append,vD,hx,hn];simpa using this
def At (t:List It) (p:List UInt8) (i:Nat):Prop:=i≤t.length∧∀ k x,t[k]? = some x→(k<i→bL x.p p=true)∧(i≤k→bL x.p p=false)
theorem zEu {t:List It} {p:List UInt8} {n:Nd} {i:Nat} (hs:Srt t) (h:At t p i):sP t p n=t.take i++⟨p,n⟩::(match t[i]? with|some x=>if x.p == p then t.drop (i+1) else t.drop i|none=>[]):=by
 obtain ⟨hi,h⟩:=h;have e:t=t.take i++t.drop i:=(List.take_append_drop i t).symm;have h1:∀ x∈t.take i,bL x.p p=true:=fun x hx=>by
  obtain ⟨k,hk,rfl⟩:=List.mem_iff_getElem.1 hx;rw [List.getElem_take];have hk2:k<i:=by simp at hk;omega
  exact (h k _ (List.getElem?_eq_getElem (by omega))).1 hk2
 unfold sP
 conv=>lhs;rw [e]
 rw [WY h1]
 congr 1
 rcases Nat.lt_or_ge i t.length with hl|hl
 ·have hx:t[i]? = some t[i]:=List.getElem?_eq_getElem hl;have hd:=drop_at hx;have hb:=(h i _ hx).2 (Nat.le_refl _);rw [hx];simp only;rw [hd,vD,hb,Bool.not_false,Bool.or_true,sG];have hdr:pI (t.drop (i+1)) p=t.drop (i+1):=List.filter_eq_self.2 fun y hy=>by
   obtain ⟨k,hk,rfl⟩:=List.mem_iff_getElem.1 hy;have hk2:i+1+k<t.length:=by simp at hk;omega
   have h3:=List.pairwise_iff_getElem.1 hs i (i+1+k) hl hk2 (by omega);rw [List.getElem_drop];cases hq:(t[i+1+k].p == p)
   ·rfl
   ·rw [eq_of_beq hq,hb] at h3;cases h3
  rw [hdr];cases t[i].p == p <;> rfl
 ·rw [List.getElem?_eq_none hl,List.drop_of_length_le hl];rfl
theorem DH {t:List It} {p:List UInt8} {n:Nd} {i:Nat} {x:It} (hs:Srt t) (h:At t p i) (hx:t[i]? = some x) (hp:(x.p == p)=true):sP t p n=t.set i ⟨p,n⟩:=by
 rw [zEu hs h,hx];simp only;rw [hp,if_pos rfl,List.set_eq_take_append_cons_drop,if_pos (List.getElem?_eq_some_iff.1 hx).1]
theorem HB {t:List It} {p:List UInt8} {n:Nd} {i:Nat} (hs:Srt t) (h:At t p i) (hx:∀ x,t[i]? = some x→(x.p == p)=false):sP t p n=t.take i++⟨p,n⟩::t.drop i:=by
 rw [zEu hs h]
 congr 2
 cases hq:t[i]? with
 | none=>rw [List.drop_of_length_le (List.getElem?_eq_none_iff.1 hq)]
 | some x=>simp only;rw [hx x hq,if_neg (by decide)]
def qI (a b:List UInt8) (x:It):It:=if mvd a x then ⟨b++x.p.drop a.length,x.n⟩ else x
def HP (t:List It) (a b:List UInt8):List It:=t.map (qI a b)
def eD (x:It):Bool:=!decide ((120:Int)<(x.p.length:Int))
theorem LS {a b:List UInt8}:∀ (t out:List It),(∀ x∈t,mvd a x=true→eD ⟨b++x.p.drop a.length,x.n⟩=true)→(eW a b out t).2=0
 | [],_,_=>rfl
 | x::r,out,h=>by
  have hr:=fun o=>LS (a:=a) (b:=b) r o fun y hy=>h y (List.mem_cons_of_mem _ hy);rw [eW];split
  ·exact hr _
  ·rename_i hc;have hm:mvd a x=true:=by
    have hc2:(!(x.p == a) && !aP a x.p)=false:=by simpa only [Bool.not_eq_true] using hc
    rw [mvd,hc2];rfl
   have:=h x List.mem_cons_self hm;simp only [eD,List.length_append,Bool.not_eq_true'] at this;rw [this,if_neg (by decide)];exact hr _
theorem yQ {a b:List UInt8}:∀ (t out:List It),(∃ x∈t,mvd a x=true∧eD ⟨b++x.p.drop a.length,x.n⟩=false)→eW a b out t=([],12)
 | [],_,h=>by obtain ⟨x,hx,_⟩:=h;cases hx
 | x::r,out,h=>by
  rw [eW];split
  ·rename_i hc;refine yQ r _ ?_;obtain ⟨y,hy,h1,h2⟩:=h;rcases List.mem_cons.1 hy with rfl|hy
   ·unfold mvd at h1;rw [hc] at h1;cases h1
   ·exact ⟨y,hy,h1,h2⟩
  ·split
   ·rfl
   ·rename_i hl;refine yQ r _ ?_;obtain ⟨y,hy,h1,h2⟩:=h;rcases List.mem_cons.1 hy with rfl|hy
    ·simp only [eD,List.length_append,Bool.not_eq_false'] at h2;exact absurd h2 hl
    ·exact ⟨y,hy,h1,h2⟩
theorem yP {t:List It} {a b:List UInt8} (h:OkT t) (ha:a≠[]) (hb:b≠[]) (hbt:(aQ t b).isSome=false):((HP t a b).map It.p).Nodup:=by
 have hno:∀ y∈t,∀ s,(s=[]∨∃ r,s=47::r)→b++s≠y.p:=fun y hy s hs e=>by
  rcases hs with rfl|⟨r,rfl⟩
  ·rw [List.append_nil] at e;have:=cI h.srt hy;rw [← e] at this;rw [this] at hbt;cases hbt
  ·have h1:aP b y.p=true:=by rw [← e];exact jS hb
   have h2:=cI h.srt hy;have:=zDW h.par hb y.p.length y.p (Nat.le_refl _) (by rw [h2];rfl) h1;rw [this] at hbt;cases hbt
 have hnd:t.Pairwise fun x y=>(qI a b x).p≠(qI a b y).p:=by
  refine (List.Pairwise.imp_of_mem ?_ h.srt);intro x y hx hy hlt;have hne:=jT hlt;unfold qI;cases hmx:mvd a x <;> cases hmy:mvd a y
  ·simp only [Bool.false_eq_true,if_false];intro e;rw [e] at hne;simp at hne
  ·simp only [Bool.false_eq_true,if_false,if_true];obtain ⟨s,e1,e2⟩:=iG ha hmy;intro e;rw [e1,List.drop_left] at e;exact hno x hx s e2 e.symm
  ·simp only [Bool.false_eq_true,if_false,if_true];obtain ⟨s,e1,e2⟩:=iG ha hmx;intro e;rw [e1,List.drop_left] at e;exact hno y hy s e2 e
  ·simp only [if_true];obtain ⟨s,e1,_⟩:=iG ha hmx;obtain ⟨s',e2,_⟩:=iG ha hmy;intro e;rw [e1,e2,List.drop_left,List.drop_left,List.append_cancel_left_eq] at e;rw [e1,e2,e] at hne;simp at hne
 unfold HP;rw [List.map_map];exact List.pairwise_map.2 hnd
theorem zJ (t:List It) (a:List UInt8) {x:It}:x∈bU t a↔x∈t∧mvd a x=false:=by
 rw [fE,List.mem_filter];unfold mvd;rw [Bool.not_eq_false']
theorem zJS {t:List It} {a b:List UInt8} (h:OkT t) (ha:a≠[]) (hb:b≠[]) (hbp:bT b=true) (hbt:(aQ t b).isSome=false):
  eW a b (bU t a) t=if (HP t a b).all eD then (fH (HP t a b),0) else ([],12):=by
 have hshort:∀ x∈t,eD x=true:=fun x hx=>by
  have:=h.plen x hx;simp only [eD,Bool.not_eq_true',decide_eq_false_iff_not];omega
 cases hall:(HP t a b).all eD
 ·rw [if_neg (by decide)];refine yQ t _ ?_;obtain ⟨z,hz,hzs⟩:=List.all_eq_false.1 hall;obtain ⟨x,hx,rfl⟩:=List.mem_map.1 hz;have hzs:eD (qI a b x)=false:=by simpa using hzs
  unfold qI at hzs;cases hm:mvd a x
  ·rw [hm,if_neg (by decide),hshort x hx] at hzs;cases hzs
  ·rw [hm,if_pos rfl] at hzs;exact ⟨x,hx,hm,hzs⟩
 ·rw [if_pos rfl];have h0:(eW a b (bU t a) t).2=0:=LS t _ fun x hx hm=>by
   have:=List.all_eq_true.1 hall _ (List.mem_map_of_mem (f:=qI a b) hx);unfold qI at this;rw [hm,if_pos rfl] at this;exact this
  have hr:=h.toOkT0.remove a;obtain ⟨k1,_⟩:=wF ha hb hbp h.its hr.srt hr.its h0;have k2:=NO (yP h ha hb hbt);have key:(eW a b (bU t a) t).1=fH (HP t a b):=by
   refine uG k1 k2 fun z=>?_;rw [(oY _).mem_iff];constructor
   ·intro hz;rcases rN h0 hz with hz|⟨y,hy,hm,rfl⟩
    ·obtain ⟨h1,h2⟩:=(zJ t a).1 hz;refine List.mem_map.2 ⟨z,h1,?_⟩;unfold qI;rw [h2];rfl
    ·refine List.mem_map.2 ⟨y,hy,?_⟩;unfold qI;rw [hm];rfl
   ·intro hz;obtain ⟨y,hy,rfl⟩:=List.mem_map.1 hz;have got:∀ q m,aQ (eW a b (bU t a) t).1 q=some m→(⟨q,m⟩:It)∈(eW a b (bU t a) t).1:=fun q m hg=>by
     obtain ⟨x,hx,h1,h2⟩:=bZ hg;rw [← h1,← h2];exact hx
    unfold qI;cases hm:mvd a y
    ·rw [if_neg (by decide)];refine got y.p y.n ?_;rw [nM ha h0 fun x hx hmx e=>?_]
     ·exact cI hr.srt ((zJ t a).2 ⟨hy,hm⟩)
     ·have hnd:=yP h ha hb hbt;unfold HP at hnd;rw [List.map_map] at hnd;have hxy:x≠y:=fun e=>by rw [e,hm] at hmx;cases hmx
      have e1:(qI a b x).p=(qI a b y).p:=by unfold qI;rw [hmx,hm];exact e
      exact hxy (zC4 (f:=It.p ∘ qI a b) hnd x hx y hy e1)
    ·rw [if_pos rfl];exact got _ _ (rM ha hm h.srt h0 hy)
  exact Prod.ext key h0
end Go.Dm
namespace Go.Dm
open Go
end Go.Dm
end
section
namespace Go.Dm
open Go
def zKV (x:List It × Int):Prop:=(x.2=0→OkT x.1)∧(x.2≠0→x.1=[])
theorem zKV.len {x:List It × Int} (h:zKV x):x.1.length≤1000000:=by
 by_cases h0:x.2=0
 ·exact Nat.le_trans (h.1 h0).len (by decide)
 ·rw [h.2 h0];simp
end Go.Dm
end
