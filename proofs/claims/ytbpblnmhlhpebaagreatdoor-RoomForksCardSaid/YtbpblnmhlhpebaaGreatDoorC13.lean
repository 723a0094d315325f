/- Part 14 of the proof of roomForks_card, set without needless blanks. No condition. -/
import Derived.Test.YtbpblnmhlhpebaaGreatDoorC12
set_option linter.unusedSimpArgs false
set_option linter.unusedVariables false
set_option maxRecDepth 100000
namespace Go.Dm
open Go Go.Sort Go.Proofs
section
def leI (x y:It):Bool:=!bO y.p x.p
def fB (l:List It):List It:=l.mergeSort leI
def MR:List PV→List UInt8
 | .s p::_=>p
 | _=>[]
def zKO (x y:List PV):Bool:=bO (MR x) (MR y)
theorem zEt:SWO zKO where
 irrefl _:=cM _
 trans _ _ _:=cD
 ntrans x y z h k:=by
  unfold zKO at *
  cases e:bO (MR x) (MR z) with
  | false=>rfl
  | true =>
   cases f:bO (MR y) (MR x) with
   | true=>have:=cD f e;rw [k] at this;cases this
   | false=>have:=dS h f;rw [this,k] at e;cases e
def cfI (x y:List PV):Int:=GY (MR x) (MR y)
theorem KU:ltOf cfI=zKO:=by
 funext x y
 exact pD
theorem RF:SWO (ltOf cfI):=by rw [KU];exact zEt
theorem LF {l:List It} (hu:∀ x∈l,∀ y∈l,x.p=y.p→x=y):∀ x∈aT l,∀ y∈aT l,ltOf cfI x y=false→ltOf cfI y x=false→x=y:=by
 rw [KU]
 intro x hx y hy h k
 obtain ⟨a,ha,rfl⟩:=List.mem_map.1 hx
 obtain ⟨b,hb,rfl⟩:=List.mem_map.1 hy
 rw [hu a ha b hb (dS h k)]
theorem JA (l:List It):(aT l).mergeSort (TC (ltOf cfI))=aT (fB l):=by
 rw [KU]
 unfold aT fB
 exact (List.map_mergeSort (r:=leI) (s:=TC zKO) (f:=It.cs) (l:=l) fun a _ b _=>rfl).symm
theorem oO (l:List It):(fB l).Perm l:=List.mergeSort_perm _ _
theorem wZ (l:List It):(fB l).length=l.length:=List.length_mergeSort ..
theorem JP (l:List It):(fB l).Pairwise fun x y=>bO y.p x.p=false:=by
 have h:(fB l).Pairwise fun x y=>leI x y=true:=by
  refine List.pairwise_mergeSort (le:=leI) ?_ ?_ _
  ·intro a b c h1 h2
   simp only [leI,Bool.not_eq_true'] at h1 h2 ⊢
   cases e:bO c.p a.p with
   | false=>rfl
   | true =>
    cases f:bO a.p b.p with
    | true=>have:=cD e f;rw [h2] at this;cases this
    | false=>have:=dS f h1;rw [← this,e] at h2;cases h2
  ·intro a b
   simp only [leI]
   cases h:bO b.p a.p with
   | false=>simp
   | true=>simp [eE h]
 exact h.imp fun {a b} h=>by simpa [leI] using h
theorem LU {l:List It} (hn:(l.map It.p).Nodup):Srt (fB l):=by
 have hn2:((fB l).map It.p).Nodup:=(((oO l).map It.p).nodup_iff).2 hn
 have h1:=JP l
 have h2:(fB l).Pairwise fun x y=>x.p≠y.p:=List.pairwise_map.1 hn2
 exact (h1.and h2).imp fun {a b} ⟨h,k⟩=>by
  cases e:bO a.p b.p with
  | true=>rfl
  | false=>exact absurd (dS e h) k
def rC (t:List It) (c:Ch):Bool:=if c.k == 1 then !(aR t c.p).isSome else (aR t c.p).isSome && mQ ((aR t c.p).getD nd0) c.o
def uY (c:Ch):List It:=if c.k != 2 then [⟨c.p,c.n⟩] else []
def sW (l:List Ch):List It:=l.flatMap uY
def EY (ks:List (List UInt8)) (x:It):List It:=if !(ks.contains x.p) then [x] else []
def rG (t:List It) (ks:List (List UInt8)):List It:=t.flatMap (EY ks)
def nU (l:List Ch):List (List UInt8):=(l.map Ch.p).reverse
def FZ (t:List It) (l:List Ch):List It:=sW l++rG t (nU l)
def eL (t:List It) (l:List Ch):List It × Int :=
 if !gQ l then ([],1) else if !(l.all (rC t)) then ([],17)
 else if decide ((120:Int)<((fB (FZ t l)).length:Int)) then ([],16) else if !iV (fB (FZ t l)) then ([],17) else (fB (FZ t l),0)
theorem YE {l:List Ch} {i:Nat} {c:Ch} (h:l[i]? = some c):sW (l.take (i+1))=sW (l.take i)++uY c:=by
 simp [sW,List.take_add_one,h]
theorem YH {l:List Ch} {i:Nat} {c:Ch} (h:l[i]? = some c):nU (l.take (i+1))=c.p::nU (l.take i):=by
 simp [nU,List.take_add_one,h]
theorem zAb {t:List It} {ks:List (List UInt8)} {i:Nat} {x:It} (h:t[i]? = some x):rG (t.take (i+1)) ks=rG (t.take i) ks++EY ks x:=by
 simp [rG,List.take_add_one,h]
theorem zCp (c:Ch):(uY c).length≤1:=by unfold uY;split <;> simp
theorem zEm (ks:List (List UInt8)) (x:It):(EY ks x).length≤1:=by unfold EY;split <;> simp
theorem zA8 (l:List Ch):(sW l).length≤l.length:=by
 induction l with
 | nil=>simp [sW]
 | cons c l ih =>
  have:=zCp c
  simp only [sW,List.flatMap_cons,List.length_append,List.length_cons] at ih ⊢
  omega
theorem zCW (t:List It) (ks:List (List UInt8)):(rG t ks).length≤t.length:=by
 induction t with
 | nil=>simp [rG]
 | cons c l ih =>
  have:=zEm ks c
  simp only [rG,List.flatMap_cons,List.length_append,List.length_cons] at ih ⊢
  omega
theorem zEG {l:List Ch} {x:It} (h:x∈sW l):∃ c∈l,x=⟨c.p,c.n⟩:=by
 obtain ⟨c,hc,hx⟩:=List.mem_flatMap.1 h
 unfold uY at hx
 split at hx
 ·exact ⟨c,hc,by simpa using hx⟩
 ·simp at hx
theorem GI {t:List It} {ks:List (List UInt8)} {x:It} (h:x∈rG t ks):x∈t∧ks.contains x.p=false:=by
 obtain ⟨c,hc,hx⟩:=List.mem_flatMap.1 h
 unfold EY at hx
 split at hx
 ·obtain rfl:x=c:=by simpa using hx
  rename_i hk
  exact ⟨hc,by simpa only [Bool.not_eq_true'] using hk⟩
 ·simp at hx
theorem rJ:∀ {l:List Ch} {q:Option (List UInt8)},dY q l=true→l.Pairwise (fun x y=>bO x.p y.p=true)∧∀ p,q=some p→∀ c∈l,bO p c.p=true
 | [],q,_=>⟨List.Pairwise.nil,fun p _ c hc=>by cases hc⟩
 | d::l,q,h=>by
  rw [dY,Bool.and_eq_true,Bool.and_eq_true] at h
  have ih:=rJ (l:=l) h.2
  have hd:∀ c∈l,bO d.p c.p=true:=ih.2 d.p rfl
  refine ⟨List.pairwise_cons.2 ⟨hd,ih.1⟩,fun p hp c hc=>?_⟩
  subst hp
  have h1:bO p d.p=true:=by simpa [tM] using h.1.2
  rcases List.mem_cons.1 hc with rfl|hc
  ·exact h1
  ·exact cD h1 (hd c hc)
theorem nW {α β:Type} {f:α→β}:∀ {l:List α},(l.map f).Nodup→∀ x∈l,∀ y∈l,f x=f y→x=y
 | [],_,x,hx,_,_,_=>by cases hx
 | a::l,h,x,hx,y,hy,e=>by
  rw [List.map_cons,List.nodup_cons] at h
  have hx':=List.mem_cons.1 hx
  have hy':=List.mem_cons.1 hy
  clear hx hy
  rcases hx' with rfl|hx <;> rcases hy' with rfl|hy
  ·rfl
  ·exact absurd (List.mem_map.2 ⟨y,hy,e.symm⟩) h.1
  ·exact absurd (List.mem_map.2 ⟨x,hx,e⟩) h.1
  ·exact nW h.2 x hx y hy e
theorem GF:∀ l:List Ch,((sW l).map It.p).Sublist (l.map Ch.p)
 | []=>List.Sublist.slnil
 | c::l=>by
  have ih:=GF l
  simp only [sW,List.flatMap_cons,List.map_append,List.map_cons] at ih ⊢
  unfold uY
  split
  ·exact ih.cons_cons _
  ·exact ih.cons _
theorem SU (ks:List (List UInt8)):∀ t:List It,(rG t ks).Sublist t
 | []=>List.Sublist.slnil
 | c::l=>by
  have ih:=SU ks l
  simp only [rG,List.flatMap_cons] at ih ⊢
  unfold EY
  split
  ·exact ih.cons_cons _
  ·exact ih.cons _
theorem BH {t:List It} {l:List Ch} (ht:Srt t) (h:gQ l=true):((FZ t l).map It.p).Nodup:=by
 have h1:=(rJ h).1
 have n1:(l.map Ch.p).Nodup:=List.pairwise_map.2 (h1.imp fun {a b} h e=>by have:=jP h;rw [e] at this;simp at this)
 have n2:(t.map It.p).Nodup:=List.pairwise_map.2 (ht.imp fun {a b} h e=>by have:=jP h;rw [e] at this;simp at this)
 unfold FZ
 rw [List.map_append]
 refine List.nodup_append.2 ⟨(GF l).nodup n1,((SU _ t).map _).nodup n2,fun p hp q hq e=>?_⟩
 subst e
 obtain ⟨x,hx,rfl⟩:=List.mem_map.1 hq
 obtain ⟨_,hk⟩:=GI hx
 have:x.p∈l.map Ch.p:=(GF l).subset hp
 have:(nU l).contains x.p=true:=by simpa [nU] using this
 rw [hk] at this
 cases this
theorem zEA {t:List It} {l:List Ch} (ht:Srt t) (h:gQ l=true):∀ x∈FZ t l,∀ y∈FZ t l,x.p=y.p→x=y:=nW (BH ht h)
theorem zGA {t:List It} {l:List Ch} (ht:Srt t) (h:gQ l=true):Srt (fB (FZ t l)):=LU (BH ht h)
theorem zDH {t:List It} {l:List Ch} {x:It} (h:x∈fB (FZ t l)):(∃ c∈l,x=⟨c.p,c.n⟩)∨x∈t:=by
 have h:=(oO _).mem_iff.1 h
 rcases List.mem_append.1 h with h|h
 ·exact .inl (zEG h)
 ·exact .inr (GI h).1
end
section
theorem zHI {s:List It} (hs:Srt s):s.Nodup:=hs.imp fun {a b} h e=>by subst e;rw [cM] at h;cases h
theorem tL {s t:List It} (hs:Srt s) (ht:Srt t) (h:∀ x,x∈s↔x∈t):s=t :=
 List.Perm.eq_of_pairwise (le:=fun (x y:It)=>bO x.p y.p=true) (fun _ _ _ _ h k=>by rw [eE h] at k;cases k) hs ht ((List.perm_ext_iff_of_nodup (zHI hs) (zHI ht)).2 h)
def BZ (a b:List It) (p:List UInt8):Int:=iQ (aR a p).isSome (aR b p).isSome ((aR a p).getD nd0) ((aR b p).getD nd0)
theorem TO {a b:List It} {x:It} (hx:x∈a∨x∈b) (hk:BZ a b x.p≠0):∃ c∈eX a b,c.p=x.p :=
 VH (tP.2 (hx.imp (fun h=>⟨x,h,rfl⟩) fun h=>⟨x,h,rfl⟩)) hk
theorem TD {l:List Ch} {p:List UInt8}:(nU l).contains p=true↔∃ c∈l,c.p=p:=by
 simp [nU]
theorem JW {l:List Ch} {x:It}:x∈sW l↔∃ c∈l,c.k≠2∧x=⟨c.p,c.n⟩:=by
 unfold sW
 rw [List.mem_flatMap]
 constructor
 ·rintro ⟨c,hc,hx⟩
  unfold uY at hx
  split at hx
  ·rename_i hk
   exact ⟨c,hc,by simpa using hk,by simpa using hx⟩
  ·simp at hx
 ·rintro ⟨c,hc,hk,rfl⟩
  refine ⟨c,hc,?_⟩
  unfold uY
  rw [if_pos (by simpa using hk)]
  exact List.mem_singleton.2 rfl
theorem NG {t:List It} {ks:List (List UInt8)} {x:It}:x∈rG t ks↔x∈t∧ks.contains x.p=false:=by
 refine ⟨GI,fun ⟨h1,h2⟩=>List.mem_flatMap.2 ⟨x,h1,?_⟩⟩
 unfold EY
 rw [h2,if_pos (by decide)]
 exact List.mem_singleton.2 rfl
theorem SS (x:It):(⟨x.p,x.n⟩:It)=x:=rfl
theorem zIN {a b:List It} (ha:OkT a) (hb:OkT b) (x:It):x∈FZ a (eX a b)↔x∈b:=by
 unfold FZ
 rw [List.mem_append,JW,NG]
 constructor
 ·rintro (⟨c,hc,hk,rfl⟩|⟨h1,h2⟩)
  ·obtain ⟨g1,g2⟩:=nN hc
   obtain ⟨_,g3⟩:=gA hc
   cases hg:aR b c.p with
   | none =>
    rw [hg] at g1 g2
    exfalso
    unfold iQ at g1 g2
    cases hp:(aR a c.p).isSome <;> rw [hp] at g1 g2 <;> simp_all
   | some n =>
    obtain ⟨y,hy,hyp,hyn⟩:=bZ hg
    rw [hg] at g3
    have:(⟨c.p,c.n⟩:It)=y:=by rw [g3,← hyp];simp only [Option.getD_some,← hyn]
    rw [this];exact hy
  ·have hga:=cL ha.srt h1
   have hk0:BZ a b x.p=0:=by
    cases h:decide (BZ a b x.p=0) with
    | true=>exact of_decide_eq_true h
    | false =>
     obtain ⟨c,hc,he⟩:=TO (.inl h1) (of_decide_eq_false h)
     have:=TD.2 ⟨c,hc,he⟩
     rw [h2] at this;cases this
   unfold BZ iQ at hk0
   rw [hga] at hk0
   cases hg:aR b x.p with
   | none=>rw [hg] at hk0;simp at hk0
   | some n =>
    rw [hg] at hk0
    simp only [Option.isSome_some,if_true,Option.getD_some] at hk0
    obtain ⟨y,hy,hyp,hyn⟩:=bZ hg
    cases hs:mQ x.n n with
    | false =>
     rw [hs] at hk0
     simp only [Bool.false_eq_true,if_false] at hk0
     split at hk0
     ·cases hk0
     ·split at hk0 <;> cases hk0
    | true =>
     have e:=sR (ha.plain x h1) (hyn▸hb.plain y hy) hs
     have:x=y:=by
      rw [← SS x,← SS y,hyp,hyn,← e]
     rw [this];exact hy
 ·intro hx
  have hgb:=cL hb.srt hx
  cases h:decide (BZ a b x.p=0) with
  | false =>
   obtain ⟨c,hc,he⟩:=TO (.inr hx) (of_decide_eq_false h)
   obtain ⟨g1,g2⟩:=nN hc
   obtain ⟨_,g3⟩:=gA hc
   rw [he,hgb] at g1 g3
   refine .inl ⟨c,hc,?_,?_⟩
   ·rw [g1]
    unfold iQ
    simp only [Option.isSome_some,if_true]
    split
    ·split
     ·decide
     ·split
      ·decide
      ·split <;> decide
    ·decide
   ·rw [he,g3];rfl
  | true =>
   have hk0:=of_decide_eq_true h
   have hno:(nU (eX a b)).contains x.p=false:=by
    rw [Bool.eq_false_iff]
    intro hk
    obtain ⟨c,hc,he⟩:=TD.1 hk
    have:=(nN hc).2
    rw [he] at this
    exact this hk0
   refine .inr ⟨?_,hno⟩
   unfold BZ iQ at hk0
   rw [hgb] at hk0
   cases hg:aR a x.p with
   | none=>rw [hg] at hk0;simp at hk0
   | some n =>
    rw [hg] at hk0
    simp only [Option.isSome_some,if_true,Option.getD_some] at hk0
    obtain ⟨y,hy,hyp,hyn⟩:=bZ hg
    cases hs:mQ n x.n with
    | false =>
     rw [hs] at hk0
     simp only [Bool.false_eq_true,if_false] at hk0
     split at hk0
     ·cases hk0
     ·split at hk0 <;> cases hk0
    | true =>
     have e:=sR (hyn▸ha.plain y hy) (hb.plain x hx) hs
     have:x=y:=by rw [← SS x,← SS y,hyp,hyn,e]
     rw [this];exact hy
theorem zAU {a b:List It} (ha:OkT a) {c:Ch} (hc:c∈eX a b):rC a c=true:=by
 obtain ⟨g1,g2⟩:=nN hc
 obtain ⟨g3,_⟩:=gA hc
 unfold rC
 rw [g3,xX (ha.gett _),Bool.and_true]
 unfold iQ at g1 g2
 cases hp:(aR a c.p).isSome
 ·rw [hp] at g1 g2
  simp only [Bool.false_eq_true,if_false] at g1 g2
  split at g2
  ·rename_i hq
   rw [if_pos hq] at g1
   rw [g1];rfl
  ·exact absurd rfl g2
 ·rw [hp] at g1
  have:(c.k == 1)=false:=by
   rw [g1]
   simp only [if_true]
   split
   ·split
    ·rfl
    ·split
     ·rfl
     ·split <;> rfl
   ·rfl
  rw [this];rfl
theorem XW {a b:List It} (ha:OkT a) (hb:OkT b):eL a (eX a b)=(b,0):=by
 have hr:=FE ha hb
 have ho:fB (FZ a (eX a b))=b:=tL (zGA ha.srt hr) hb.srt fun x=>((oO _).mem_iff).trans (zIN ha hb x)
 unfold eL
 rw [hr,if_neg (by decide),List.all_eq_true.2 (fun c hc=>zAU ha hc),if_neg (by decide),ho,if_neg (by have:=hb.len;simp;omega),KM hb,if_neg (by decide)]
end
end Go.Dm
section
namespace Go.Dm
open Go
theorem zA5 {α β:Type} {f:α→β}:∀ {l:List α},(l.map f).Nodup→∀ x∈l,∀ y∈l,f x=f y→x=y
 | [],_,x,hx,_,_,_=>by cases hx
 | z::l,h,x,hx,y,hy,e=>by
  rw [List.map_cons,List.nodup_cons] at h
  rcases List.mem_cons.1 hx with h1|h1 <;> rcases List.mem_cons.1 hy with h2|h2
  ·rw [h1,h2]
  ·subst h1;exact absurd (e▸List.mem_map_of_mem (f:=f) h2) h.1
  ·subst h2;exact absurd (e▸List.mem_map_of_mem (f:=f) h1) h.1
  ·exact zA5 h.2 x h1 y h2 e
theorem TT {p:List UInt8} {n:Nd} {b:List It}:∀ {a:List It},(∀ x∈a,bO x.p p=true)→uC p n false (a++b)=a++uC p n false b
 | [],_=>rfl
 | x::a,h=>by
  have hx:=h x List.mem_cons_self
  have hn:=jP hx
  have:=TT (n:=n) (b:=b) fun y hy=>h y (List.mem_cons_of_mem _ hy)
  rw [List.cons_append,uC,hx,hn]
  simpa using this
def At (t:List It) (p:List UInt8) (i:Nat):Prop:=i≤t.length∧∀ k x,t[k]? = some x→(k<i→bO x.p p=true)∧(i≤k→bO x.p p=false)
theorem zAs {t:List It} {p:List UInt8} {n:Nd} {i:Nat} (hs:Srt t) (h:At t p i):qE t p n=t.take i++⟨p,n⟩::(match t[i]? with|some x=>if x.p == p then t.drop (i+1) else t.drop i|none=>[]):=by
 obtain ⟨hi,h⟩:=h
 have e:t=t.take i++t.drop i:=(List.take_append_drop i t).symm
 have h1:∀ x∈t.take i,bO x.p p=true:=fun x hx=>by
  obtain ⟨k,hk,rfl⟩:=List.mem_iff_getElem.1 hx
  rw [List.getElem_take]
  have hk2:k<i:=by simp at hk;omega
  exact (h k _ (List.getElem?_eq_getElem (by omega))).1 hk2
 unfold qE
 conv=>lhs;rw [e]
 rw [TT h1]
 congr 1
 rcases Nat.lt_or_ge i t.length with hl|hl
 ·have hx:t[i]? = some t[i]:=List.getElem?_eq_getElem hl
  have hd:=drop_at hx
  have hb:=(h i _ hx).2 (Nat.le_refl _)
  rw [hx]
  simp only
  rw [hd,uC,hb,Bool.not_false,Bool.or_true,qU]
  have hdr:lB (t.drop (i+1)) p=t.drop (i+1):=List.filter_eq_self.2 fun y hy=>by
   obtain ⟨k,hk,rfl⟩:=List.mem_iff_getElem.1 hy
   have hk2:i+1+k<t.length:=by simp at hk;omega
   have h3:=List.pairwise_iff_getElem.1 hs i (i+1+k) hl hk2 (by omega)
   rw [List.getElem_drop]
   cases hq:(t[i+1+k].p == p)
   ·rfl
   ·rw [eq_of_beq hq,hb] at h3;cases h3
  rw [hdr]
  cases t[i].p == p <;> rfl
 ·rw [List.getElem?_eq_none hl,List.drop_of_length_le hl]
  rfl
theorem CH {t:List It} {p:List UInt8} {n:Nd} {i:Nat} {x:It} (hs:Srt t) (h:At t p i) (hx:t[i]? = some x) (hp:(x.p == p)=true):qE t p n=t.set i ⟨p,n⟩:=by
 rw [zAs hs h,hx]
 simp only
 rw [hp,if_pos rfl,List.set_eq_take_append_cons_drop,if_pos (List.getElem?_eq_some_iff.1 hx).1]
theorem FO {t:List It} {p:List UInt8} {n:Nd} {i:Nat} (hs:Srt t) (h:At t p i) (hx:∀ x,t[i]? = some x→(x.p == p)=false):qE t p n=t.take i++⟨p,n⟩::t.drop i:=by
 rw [zAs hs h]
 congr 2
 cases hq:t[i]? with
 | none=>rw [List.drop_of_length_le (List.getElem?_eq_none_iff.1 hq)]
 | some x=>simp only;rw [hx x hq,if_neg (by decide)]
def qF (a b:List UInt8) (x:It):It:=if mvd a x then ⟨b++x.p.drop a.length,x.n⟩ else x
def HB (t:List It) (a b:List UInt8):List It:=t.map (qF a b)
def eA (x:It):Bool:=!decide ((120:Int)<(x.p.length:Int))
theorem NO {a b:List UInt8}:∀ (t out:List It),(∀ x∈t,mvd a x=true→eA ⟨b++x.p.drop a.length,x.n⟩=true)→(dV a b out t).2=0
 | [],_,_=>rfl
 | x::r,out,h=>by
  have hr:=fun o=>NO (a:=a) (b:=b) r o fun y hy=>h y (List.mem_cons_of_mem _ hy)
  rw [dV]
  split
  ·exact hr _
  ·rename_i hc
   have hm:mvd a x=true:=by
    have hc2:(!(x.p == a) && !aO a x.p)=false:=by simpa only [Bool.not_eq_true] using hc
    rw [mvd,hc2];rfl
   have:=h x List.mem_cons_self hm
   simp only [eA,List.length_append,Bool.not_eq_true'] at this
   rw [this,if_neg (by decide)]
   exact hr _
theorem yZ {a b:List UInt8}:∀ (t out:List It),(∃ x∈t,mvd a x=true∧eA ⟨b++x.p.drop a.length,x.n⟩=false)→dV a b out t=([],12)
 | [],_,h=>by obtain ⟨x,hx,_⟩:=h;cases hx
 | x::r,out,h=>by
  rw [dV]
  split
  ·rename_i hc
   refine yZ r _ ?_
   obtain ⟨y,hy,h1,h2⟩:=h
   rcases List.mem_cons.1 hy with rfl|hy
   ·unfold mvd at h1;rw [hc] at h1;cases h1
   ·exact ⟨y,hy,h1,h2⟩
  ·split
   ·rfl
   ·rename_i hl
    refine yZ r _ ?_
    obtain ⟨y,hy,h1,h2⟩:=h
    rcases List.mem_cons.1 hy with rfl|hy
    ·simp only [eA,List.length_append,Bool.not_eq_false'] at h2
     exact absurd h2 hl
    ·exact ⟨y,hy,h1,h2⟩
theorem wX {t:List It} {a b:List UInt8} (h:OkT t) (ha:a≠[]) (hb:b≠[]) (hbt:(aR t b).isSome=false):((HB t a b).map It.p).Nodup:=by
 have hno:∀ y∈t,∀ s,(s=[]∨∃ r,s=47::r)→b++s≠y.p:=fun y hy s hs e=>by
  rcases hs with rfl|⟨r,rfl⟩
  ·rw [List.append_nil] at e
   have:=cL h.srt hy
   rw [← e] at this
   rw [this] at hbt;cases hbt
  ·have h1:aO b y.p=true:=by rw [← e];exact jC hb
   have h2:=cL h.srt hy
   have:=zEl h.par hb y.p.length y.p (Nat.le_refl _) (by rw [h2];rfl) h1
   rw [this] at hbt;cases hbt
 have hnd:t.Pairwise fun x y=>(qF a b x).p≠(qF a b y).p:=by
  refine (List.Pairwise.imp_of_mem ?_ h.srt)
  intro x y hx hy hlt
  have hne:=jP hlt
  unfold qF
  cases hmx:mvd a x <;> cases hmy:mvd a y
  ·simp only [Bool.false_eq_true,if_false]
   intro e;rw [e] at hne;simp at hne
  ·simp only [Bool.false_eq_true,if_false,if_true]
   obtain ⟨s,e1,e2⟩:=gX ha hmy
   intro e
   rw [e1,List.drop_left] at e
   exact hno x hx s e2 e.symm
  ·simp only [Bool.false_eq_true,if_false,if_true]
   obtain ⟨s,e1,e2⟩:=gX ha hmx
   intro e
   rw [e1,List.drop_left] at e
   exact hno y hy s e2 e
  ·simp only [if_true]
   obtain ⟨s,e1,_⟩:=gX ha hmx
   obtain ⟨s',e2,_⟩:=gX ha hmy
   intro e
   rw [e1,e2,List.drop_left,List.drop_left,List.append_cancel_left_eq] at e
   rw [e1,e2,e] at hne;simp at hne
 unfold HB
 rw [List.map_map]
 exact List.pairwise_map.2 hnd
theorem yY (t:List It) (a:List UInt8) {x:It}:x∈bN t a↔x∈t∧mvd a x=false:=by
 rw [eY,List.mem_filter]
 unfold mvd
 rw [Bool.not_eq_false']
theorem zIp {t:List It} {a b:List UInt8} (h:OkT t) (ha:a≠[]) (hb:b≠[]) (hbp:bV b=true) (hbt:(aR t b).isSome=false):
  dV a b (bN t a) t=if (HB t a b).all eA then (fB (HB t a b),0) else ([],12):=by
 have hshort:∀ x∈t,eA x=true:=fun x hx=>by
  have:=h.plen x hx
  simp only [eA,Bool.not_eq_true',decide_eq_false_iff_not];omega
 cases hall:(HB t a b).all eA
 ·rw [if_neg (by decide)]
  refine yZ t _ ?_
  obtain ⟨z,hz,hzs⟩:=List.all_eq_false.1 hall
  obtain ⟨x,hx,rfl⟩:=List.mem_map.1 hz
  have hzs:eA (qF a b x)=false:=by simpa using hzs
  unfold qF at hzs
  cases hm:mvd a x
  ·rw [hm,if_neg (by decide),hshort x hx] at hzs;cases hzs
  ·rw [hm,if_pos rfl] at hzs
   exact ⟨x,hx,hm,hzs⟩
 ·rw [if_pos rfl]
  have h0:(dV a b (bN t a) t).2=0:=NO t _ fun x hx hm=>by
   have:=List.all_eq_true.1 hall _ (List.mem_map_of_mem (f:=qF a b) hx)
   unfold qF at this
   rw [hm,if_pos rfl] at this
   exact this
  have hr:=h.toOkT0.remove a
  obtain ⟨k1,_⟩:=vT ha hb hbp h.its hr.srt hr.its h0
  have k2:=LU (wX h ha hb hbt)
  have key:(dV a b (bN t a) t).1=fB (HB t a b):=by
   refine tL k1 k2 fun z=>?_
   rw [(oO _).mem_iff]
   constructor
   ·intro hz
    rcases rE h0 hz with hz|⟨y,hy,hm,rfl⟩
    ·obtain ⟨h1,h2⟩:=(yY t a).1 hz
     refine List.mem_map.2 ⟨z,h1,?_⟩
     unfold qF;rw [h2];rfl
    ·refine List.mem_map.2 ⟨y,hy,?_⟩
     unfold qF;rw [hm];rfl
   ·intro hz
    obtain ⟨y,hy,rfl⟩:=List.mem_map.1 hz
    have got:∀ q m,aR (dV a b (bN t a) t).1 q=some m→(⟨q,m⟩:It)∈(dV a b (bN t a) t).1:=fun q m hg=>by
     obtain ⟨x,hx,h1,h2⟩:=bZ hg
     rw [← h1,← h2];exact hx
    unfold qF
    cases hm:mvd a y
    ·rw [if_neg (by decide)]
     refine got y.p y.n ?_
     rw [nV ha h0 fun x hx hmx e=>?_]
     ·exact cL hr.srt ((yY t a).2 ⟨hy,hm⟩)
     ·have hnd:=wX h ha hb hbt
      unfold HB at hnd
      rw [List.map_map] at hnd
      have hxy:x≠y:=fun e=>by rw [e,hm] at hmx;cases hmx
      have e1:(qF a b x).p=(qF a b y).p:=by unfold qF;rw [hmx,hm];exact e
      exact hxy (zA5 (f:=It.p ∘ qF a b) hnd x hx y hy e1)
    ·rw [if_pos rfl]
     exact got _ _ (rW ha hm h.srt h0 hy)
  exact Prod.ext key h0
end Go.Dm
namespace Go.Dm
open Go
end Go.Dm
end
section
namespace Go.Dm
open Go
structure En where
 p:List UInt8
 k:Int
 o:Bool
 n:Nd
def En.cs (x:En):List PV:=[.s x.p,.i .i64 x.k,.b x.o,.i .i64 x.n.k,.i .i64 x.n.m,.f x.n.t,.sl 1 (bT x.n.d)]
def fV (l:List En):List (List PV):=l.map En.cs
theorem GP (l:List En):(fV l).length=l.length:=by simp [fV]
theorem zGD:fV []=[]:=rfl
theorem zO {t:List En} {k:Nat} {x:En} (h:t[k]? = some x):(fV t).getD k []=[.s x.p,.i .i64 x.k,.b x.o,.i .i64 x.n.k,.i .i64 x.n.m,.f x.n.t,.sl 1 (bT x.n.d)]:=by
 simp only [fV,List.getD_eq_getElem?_getD,List.getElem?_map,h]
 rfl
theorem zGP (t:List En):(∀ x∈fV t,x.length=7)=True:=eq_true fun x hx=>by
 obtain ⟨y,_,rfl⟩:=List.mem_map.1 hx
 rfl
theorem zDf (a:List En) (n:Nat):(fV a).take n=fV (a.take n):=by simp [fV]
theorem zBv (a:List En) (n:Nat):(fV a).drop n=fV (a.drop n):=by simp [fV]
theorem VQ (a b:List En):fV a++fV b=fV (a++b):=by simp [fV]
theorem zCf (t:List En) (p:List UInt8) (k:Int) (o:Bool) (nk nm:Int) (nt:Nat) (d:List UInt8):fV t++[[.s p,.i .i64 k,.b o,.i .i64 nk,.i .i64 nm,.f nt,.sl 1 (bT d)]]=fV (t++[⟨p,k,o,⟨nk,nm,nt,d⟩⟩]):=by simp [fV,En.cs]
theorem zK6 (x:En):En.mk x.p x.k x.o x.n=x:=rfl
attribute [go_sem] GP zGD zGP zDf zBv VQ zCf zK6
def gO (x:En):Bool:=x.k == 2 || x.n.k != 2
def nQ (t:List It) (x:En):Bool:=x.o || (gO x || !aW t x.p)
def goE (t:List It) (x:En) (y:It):Bool:=y.p == x.p || (nQ t x && aO x.p y.p)
def mJ (t:List It) (x:En):List It:=t.filter fun y=>!goE t x y
def jV (t:List It) (x:En):List It:=if x.k == 2 then mJ t x else qE (mJ t x) x.p x.n
def eS (t:List It) (l:List En):List It:=l.foldl jV t
def pI (t:List It) (l:List En):List It × Bool:=if iV (eS t l) then (eS t l,true) else ([],false)
theorem yQ {t:List It} (h:Srt t) (x:En):Srt (mJ t x):=h.filter _
theorem zD1 {t:List It} (h:Srt t) (x:En):Srt (jV t x):=by
 unfold jV;split
 ·exact yQ h x
 ·exact vX (yQ h x)
theorem xZ:∀ {l:List En} {t:List It},Srt t→Srt (eS t l)
 | [],_,h=>h
 | x::l,t,h=>xZ (l:=l) (zD1 h x)
theorem JM (t:List It) (x:En):(mJ t x).length≤t.length:=List.length_filter_le ..
theorem MJ (t:List It) (x:En):(jV t x).length≤t.length+1:=by
 have:=JM t x
 have:=lP (mJ t x) x.p x.n
 unfold jV;split <;> omega
theorem zFK {t:List It} {x:En}:∀ y∈mJ t x,(y.p == x.p)=false:=fun y hy=>by
 have:=(List.mem_filter.1 hy).2
 simp only [goE,Bool.not_eq_true',Bool.or_eq_false_iff] at this
 exact this.1
theorem zBT {t:List It} {x:En} {y:It} (h:y∈jV t x):y=⟨x.p,x.n⟩∨y∈t:=by
 unfold jV at h
 split at h
 ·exact .inr (List.mem_filter.1 h).1
 ·rcases lO h with h|h
  ·exact .inl h
  ·exact .inr (List.mem_filter.1 h).1
end Go.Dm
namespace Go.Dm
open Go
def zHu (x:En):Bool:=!(x.p == []) && (bV x.p && (if x.k == 2 then !x.o && rB x.n else (x.k == 1 && aU x.n) && (!x.o || x.n.k == 2)))
structure OkE (l:List En):Prop where
 may:∀ x∈l,zHu x=true
 srt:l.Pairwise fun x y=>bO x.p y.p=true
 open_:l.Pairwise fun y x=>(gO y && aO y.p x.p)=false
 tlen:∀ x∈l,x.n.t<18446744073709551616
 len:l.length≤1000
theorem OkE.plen {l:List En} (h:OkE l):∀ x∈l,x.p.length≤120:=fun x hx=>by
 have:=h.may x hx
 simp only [zHu,Bool.and_eq_true] at this
 exact pX this.2.1
theorem OkE.dlen {l:List En} (h:OkE l):∀ x∈l,x.n.d.length≤2000:=fun x hx=>by
 have:=h.may x hx
 simp only [zHu,Bool.and_eq_true] at this
 have h2:=this.2.2
 split at h2
 ·simp only [Bool.and_eq_true,rB,beq_iff_eq] at h2
  omega
 ·simp only [Bool.and_eq_true] at h2
  exact gI h2.1.2
end Go.Dm
namespace Go.Dm
open Go
theorem KS (t:List It) (l:List En):∀ k,(eS t (l.take k)).length≤t.length+k
 | 0=>by simp [eS]
 | k+1=>by
  have ih:=KS t l k
  rcases Nat.lt_or_ge k l.length with h|h
  ·have e:eS t (l.take (k+1))=jV (eS t (l.take k)) l[k]:=by
    unfold eS;rw [List.take_add_one,List.getElem?_eq_getElem h,List.foldl_append];rfl
   rw [e]
   have:=MJ (eS t (l.take k)) l[k]
   omega
  ·rw [List.take_of_length_le (by omega)]
   rw [List.take_of_length_le (by omega)] at ih
   omega
theorem zI {y:It}:∀ {l:List En} {t:List It},y∈eS t l→y∈t∨∃ x∈l,y=⟨x.p,x.n⟩
 | [],_,h=>.inl h
 | x::l,t,h=>by
  rcases zI (l:=l) (t:=jV t x) h with h|⟨z,hz,e⟩
  ·rcases zBT h with h|h
   ·exact .inr ⟨x,List.mem_cons_self,h⟩
   ·exact .inl h
  ·exact .inr ⟨z,List.mem_cons_of_mem _ hz,e⟩
end Go.Dm
end
namespace Go.Dm
open Go
section
def zV (ls:List (List En)):List (List PV):=ls.map fun l=>[.sl 7 (fV l)]
theorem TP (ls:List (List En)):(zV ls).length=ls.length:=by simp [zV]
theorem zGb:zV []=[]:=rfl
theorem zHV {t:List (List En)} {k:Nat} {x:List En} (h:t[k]? = some x):(zV t).getD k []=[.sl 7 (fV x)]:=by
 simp only [zV,List.getD_eq_getElem?_getD,List.getElem?_map,h]
 rfl
theorem zGx (t:List (List En)):(∀ x∈zV t,x.length=1)=True:=eq_true fun x hx=>by
 obtain ⟨y,_,rfl⟩:=List.mem_map.1 hx
 rfl
theorem zAJ (a:List (List En)) (n:Nat):(zV a).take n=zV (a.take n):=by simp [zV]
theorem zDy (a:List (List En)) (n:Nat):(zV a).drop n=zV (a.drop n):=by simp [zV]
theorem zGm (a b:List (List En)):zV a++zV b=zV (a++b):=by simp [zV]
theorem zBB (t:List (List En)) (l:List En):zV t++[[.sl 7 (fV l)]]=zV (t++[l]):=by simp [zV]
attribute [go_sem] TP zGb zGx zAJ zDy zGm zBB
def nE:List It→List (List En)→List It × Bool
 | t,[]=>(t,true)
 | t,l::r=>if (pI t l).2 then nE (pI t l).1 r else ([],false)
theorem zHg {t:List It} {l:List En} (ht:OkT t) (hl:OkE l) (h:(pI t l).2=true):OkT (pI t l).1:=by
 unfold pI at h ⊢
 split at h
 ·rename_i hr
  rw [if_pos hr]
  refine MN (fun y hy=>?_) hr
  rcases zI hy with hy|⟨x,hx,rfl⟩
  ·exact ht.tlen y hy
  ·exact hl.tlen x hx
 ·cases h
end
section
def isB (l:List (List UInt8)) (p:List UInt8):Bool:=l.any fun q=>q == p
def zBU (t:List It) (p:List UInt8):Bool:=!(p == []) && aW t p
def LA (t w:List It) (p:List UInt8):Bool:=t.any fun y=>(aR w y.p).isSome && aO p y.p
def zBC (t w:List It) (x:It):Bool:=(x.n.k == 2 && (zBU t x.p && !decide (((fX t x.p).length:Int)<2))) && !LA t w x.p
def iM (t w:List It):List (List UInt8):=(w.filter (zBC t w)).map fun x=>x.p
def QX (t:List It) (os:List (List UInt8)) (x:It):List En :=
 if isB os x.p then [⟨x.p,1,true,x.n⟩] else if (!(aR t x.p).isSome || !fS ((aR t x.p).getD nd0) x.n) then [⟨x.p,1,false,x.n⟩] else []
def gN (t:List It) (os:List (List UInt8)) (w:List It):List En:=w.flatMap (QX t os)
def zEo (w:List It) (os:List (List UInt8)):Nat→List UInt8→Bool
 | 0,_=>false
 | n+1,q=>if q == [] then false else if (!(aR w q).isSome || (((aR w q).getD nd0).k != 2 || isB os q)) then true else zEo w os n (aS q)
def HC (w:List It) (os:List (List UInt8)) (p:List UInt8):Bool:=zEo w os p.length (aS p)
def zLy (l:List En) (p:List UInt8):Nat:=(l.takeWhile fun x=>bO x.p p).length
def zEq (l:List En) (e:En):List En:=l.take (zLy l e.p)++e::l.drop (zLy l e.p)
def jX (p:List UInt8):En:=⟨p,2,false,nd0⟩
def HX (w:List It) (os:List (List UInt8)) (out:List En) (y:It):List En :=
 if ((aR w y.p).isSome || HC w os y.p) then out else zEq out (jX y.p)
def fM (t w:List It):List En:=t.foldl (HX w (iM t w)) (gN t (iM t w) w)
theorem zAS (p:List UInt8):(aS p).length≤p.length:=by
 by_cases h:aS p=[]
 ·rw [h];exact Nat.zero_le _
 ·exact Nat.le_of_lt (sD h)
theorem zHX (l:List En) (p:List UInt8):zLy l p≤l.length:=(List.takeWhile_sublist _).length_le
theorem zGC (l:List En) (e:En):(zEq l e).length=l.length+1:=by
 have:=zHX l e.p
 simp only [zEq,List.length_append,List.length_cons,List.length_take,List.length_drop]
 omega
theorem zGK (t:List It) (os:List (List UInt8)) (x:It):(QX t os x).length≤1:=by
 unfold QX;split
 ·exact Nat.le_refl _
 ·split
  ·exact Nat.le_refl _
  ·exact Nat.zero_le _
theorem rP (t:List It) (os:List (List UInt8)):∀ w:List It,(gN t os w).length≤w.length
 | []=>Nat.le_refl _
 | x::w=>by
  have h1:=zGK t os x
  have h2:=rP t os w
  unfold gN at h2 ⊢
  rw [List.flatMap_cons,List.length_append,List.length_cons]
  omega
theorem YM {t:List It} {os:List (List UInt8)} {w:List It} {k:Nat} {x:It} (h:w[k]? = some x):gN t os (w.take (k+1))=gN t os (w.take k)++QX t os x:=by
 unfold gN
 rw [List.take_add_one,h,List.flatMap_append]
 simp
theorem zBL (w:List It) (os:List (List UInt8)) (out:List En) (y:It):(HX w os out y).length≤out.length+1:=by
 unfold HX;split
 ·omega
 ·rw [zGC];omega
theorem zQ {w:List It} {os:List (List UInt8)} {n:Nat} {q:List UInt8} (h:q≠[]):zEo w os (n+1) q=if (!(aR w q).isSome || (((aR w q).getD nd0).k != 2 || isB os q)) then true else zEo w os n (aS q):=by
 rw [zEo,if_neg (by simpa using h)]
theorem SJ {w:List It} {os:List (List UInt8)}:∀ n:Nat,zEo w os n []=false
 | 0=>rfl
 | n+1=>by rw [zEo];simp
end
end Go.Dm
