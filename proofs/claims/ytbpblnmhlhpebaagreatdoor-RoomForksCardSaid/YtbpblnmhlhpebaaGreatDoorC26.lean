/- Part 27 of the proof of roomForks_card, set without needless blanks. No condition. -/
import Derived.Test.YtbpblnmhlhpebaaGreatDoorC25
set_option linter.unusedSimpArgs false
set_option linter.unusedVariables false
namespace Go.Dm
open Go
section
structure OkW (d:Dr):Prop where
 g:OkG d.G
 t:∀ y∈d.L,OkT y.2
 srt:LI d.N
 nm:∀ n∈d.N,aX n.n=true∧∃ y∈d.L,y.1.i=n.l
 one:∀ n∈d.N,∀ m∈d.N,n.l=m.l→(∀ y∈d.L,y.1.i=n.l→y.1.f=false)→n=m
 nx:(∀ y∈d.L,y.1.i<d.x)∧1≤d.x∧d.x≤2147483647
 ln:d.N.length≤20
structure SimW (r:Rm) (d:Dr):Prop extends OkW d where
 N:r.N=d.N
 L:r.L=d.G
 x:r.x=d.x
 e:∀ y∈d.L,jU r.E y.1.i=fM (dE d y.1.p) y.2
structure Sim (r:Rm) (d:Dr):Prop extends SimW r d where
 kept:∀ y∈d.L,∃ n∈d.N,y.1.i∈sH d.G n.l
 len:d.L.length≤40
theorem PT {d:Dr} {x:Ly}:x∈d.G↔∃ y∈d.L,y.1=x:=by unfold Dr.G;rw [List.mem_map]
theorem rA {d:Dr} {y:Ly × List It} (h:y∈d.L):y.1∈d.G:=PT.2 ⟨y,h,rfl⟩
theorem gZ {d:Dr} (hi:oM d.G) {y:Ly × List It} (hy:y∈d.L):dE d y.1.i=y.2:=by unfold dE;rw [nP hi hy]
theorem jF {d:Dr} {id:Int} (h:∀ y∈d.L,y.1.i≠id):dE d id=[]:=by
 unfold dE
 cases hl:sG d id with
 | none=>rfl
 | some y=>obtain ⟨h1,h2⟩:=lH hl;exact absurd h2 (h y h1)
theorem OkW.tree {d:Dr} (h:OkW d) (id:Int):OkT (dE d id):=by
 unfold dE
 cases hl:sG d id with
 | none=>exact OkT.nil
 | some y=>exact h.t y (lH hl).1
theorem OkW.zero {d:Dr} (h:OkW d):dE d 0=[]:=jF fun y hy e=>by have:=h.g.lo1 y.1 (rA hy);omega
theorem SimW.tree {r:Rm} {d:Dr} (h:SimW r d) (id:Int):FB r id=(dE d id,true):=by
 cases hl:sG d id with
 | none =>
  have hno:=GH hl
  rw [jF hno]
  unfold FB lM bS
  rw [h.L,iA]
  ·rfl
  ·rw [zHJ,hl];rfl
 | some y =>
  obtain ⟨h1,rfl⟩:=lH hl
  have hm:y.1∈r.L:=by rw [h.L];exact rA h1
  obtain ⟨k,hk⟩:=List.mem_iff_getElem?.1 hm
  refine XE (by rw [h.L];exact h.g) (dE d) h.toOkW.zero (fun x _=>h.toOkW.tree x.i) (fun x hx=>?_) k hk
  rw [h.L] at hx
  obtain ⟨z,hz,rfl⟩:=PT.1 hx
  rw [h.e z hz,gZ h.g.inc hz]
theorem SimW.treeR {r:Rm} {d:Dr} (h:SimW r d) (id:Int):treeR r id=dE d id:=by unfold Dm.treeR;rw [h.tree]
theorem OkW.named {d:Dr} (h:OkW d) {n:Nm} (hn:n∈d.N):∃ y,sG d n.l=some y∧y∈d.L∧y.1.i=n.l:=by
 obtain ⟨_,y,h1,h2⟩:=h.nm n hn
 exact ⟨y,by rw [← h2];exact nP h.g.inc h1,h1,h2⟩
theorem OkW.name0 {d:Dr} (h:OkW d) (s:List UInt8):(eH d.N s == 0) = !(AP d.N s).isSome:=by
 unfold eH
 cases hn:AP d.N s with
 | none=>rfl
 | some n =>
  obtain ⟨h1,h2⟩:=gW hn
  obtain ⟨y,_,h3,h4⟩:=h.named h1
  have:=h.g.lo1 y.1 (rA h3)
  simp only [Option.isSome_some,Bool.not_true,beq_eq_false_iff_ne,ne_eq]
  omega
theorem zKH (d:Dr) (id:Int) (t:List It):(jZ d id t).G=d.G:=by
 unfold jZ Dr.G
 have:∀ l:List (Ly × List It),(zA id t l).map (·.1)=l.map (·.1):=by
  intro l
  induction l with
  | nil=>rfl
  | cons y l ih =>
   simp only [zA]
   split
   ·rfl
   ·simp only [List.map_cons,ih]
 exact this d.L
theorem qK {id:Int} {t:List It} {y:Ly × List It}:∀ {l:List (Ly × List It)},y∈zA id t l→(y∈l)∨(y.1.i=id∧y.2=t∧∃ z∈l,z.1=y.1)
 | [],h=>by cases h
 | z::l,h=>by
  simp only [zA] at h
  split at h
  ·rename_i hz
   rcases List.mem_cons.1 h with rfl|h
   ·exact .inr ⟨by simpa using hz,rfl,z,List.mem_cons_self,rfl⟩
   ·exact .inl (List.mem_cons_of_mem _ h)
  ·rcases List.mem_cons.1 h with rfl|h
   ·exact .inl List.mem_cons_self
   ·rcases qK h with h|⟨h1,h2,w,h3,h4⟩
    ·exact .inl (List.mem_cons_of_mem _ h)
    ·exact .inr ⟨h1,h2,w,List.mem_cons_of_mem _ h3,h4⟩
theorem VF (d:Dr) (id:Int) (t:List It) (a:Int):sG (jZ d id t) a=if a=id then (sG d a).map (fun y=>(y.1,t)) else sG d a:=by
 unfold sG jZ
 have:∀ l:List (Ly × List It),(zA id t l).find? (fun y=>y.1.i == a)=if a=id then (l.find? fun y=>y.1.i == a).map (fun y=>(y.1,t)) else l.find? fun y=>y.1.i == a:=by
  intro l
  induction l with
  | nil=>simp [zA]
  | cons y l ih =>
   simp only [zA]
   split
   ·rename_i hy
    have hy:=eq_of_beq hy
    rw [List.find?_cons,List.find?_cons]
    by_cases ha:a=id
    ·subst ha
     rw [if_pos rfl,show (y.1.i == a)=true by rw [hy];simp]
     rfl
    ·rw [if_neg ha,show (y.1.i == a)=false by rw [hy];simpa using fun e=>ha e.symm]
   ·rename_i hy
    rw [List.find?_cons,List.find?_cons,ih]
    by_cases ha:a=id
    ·subst ha
     rw [if_pos rfl,if_pos rfl,show (y.1.i == a)=false by simpa using hy]
    ·rw [if_neg ha,if_neg ha]
 exact this d.L
theorem zA1 {d:Dr} {id:Int} {t:List It} (h:(sG d id).isSome=true) (a:Int):dE (jZ d id t) a=if a=id then t else dE d a:=by
 unfold dE
 rw [VF]
 by_cases ha:a=id
 ·subst ha
  rw [if_pos rfl,if_pos rfl]
  obtain ⟨y,hy⟩:=Option.isSome_iff_exists.1 h
  rw [hy];rfl
 ·rw [if_neg ha,if_neg ha]
theorem HD {d:Dr} (hi:oM d.G) (id:Int):jZ d id (dE d id)=d:=by
 unfold jZ
 have key:∀ (l:List (Ly × List It)) (t:List It),oM (l.map (·.1))→(∀ y∈l,y.1.i=id→y.2=t)→zA id t l=l:=by
  intro l t
  induction l with
  | nil=>intro _ _;rfl
  | cons y l ih =>
   intro hp h
   have h2:=List.pairwise_cons.1 hp
   simp only [zA]
   split
   ·rename_i hy
    rw [← h y List.mem_cons_self (eq_of_beq hy)]
   ·rw [ih h2.2 fun z hz=>h z (List.mem_cons_of_mem _ hz)]
 rw [key d.L (dE d id) hi fun y hy e=>by rw [← e,gZ hi hy]]
theorem OkW.below {d:Dr} (h:OkW d) {y:Ly × List It} (hy:y∈d.L):y.1.p=0∨∃ z∈d.L,z.1.i=y.1.p∧z.1.f=true∧z.1.i<y.1.i:=by
 obtain ⟨k,hk⟩:=List.mem_iff_getElem?.1 (rA hy)
 rcases h.g.par k _ hk with h0|⟨j,x,h1,h2,h3,h4⟩
 ·exact .inl h0
 ·obtain ⟨z,hz,rfl⟩:=PT.1 (List.mem_of_getElem? h2)
  exact .inr ⟨z,hz,h3,h4,SO h.g.inc h2 hk h1⟩
theorem zK2 {d:Dr} (h:oM d.G) {x y:Ly × List It} (hx:x∈d.L) (hy:y∈d.L) (e:x.1.i=y.1.i):x=y:=by
 have h1:=nP h hx
 rw [e,nP h hy] at h1
 exact (Option.some.inj h1).symm
theorem zHT {r:Rm} {d:Dr} (h:Sim r d) {y:Ly × List It} (hy:y∈d.L) (hf:y.1.f=false) {t:List It} (ht:OkT t):
  Sim ⟨r.N,r.L,oQ r.E y.1.i (fM (dE d y.1.p) t),r.x⟩ (jZ d y.1.i t):=by
 have hG:=zKH d y.1.i t
 have hso:(sG d y.1.i).isSome=true:=by rw [nP h.g.inc hy];rfl
 have frame:∀ z∈(jZ d y.1.i t).L,∃ z0∈d.L,z0.1=z.1:=fun z hz=>by
  rcases qK hz with h1|⟨_,_,w,h1,h2⟩
  ·exact ⟨z,h1,rfl⟩
  ·exact ⟨w,h1,h2⟩
 have back:∀ z0∈d.L,∃ z∈(jZ d y.1.i t).L,z.1=z0.1:=fun z0 hz0=>by
  have:=rA hz0
  rw [← hG] at this
  exact PT.1 this
 refine { g:=by rw [hG];exact h.g,t:=fun z hz=>?_,srt:=h.srt,nm:=fun n hn=>?_,one:=fun n hn m hm e hfz=>?_,nx:=⟨fun z hz=>?_,h.nx.2⟩,ln:=h.ln,N:=h.N,L:=by rw [hG];exact h.L,x:=h.x,e:=fun z hz=>?_,kept:=fun z hz=>?_,len:=?_ }
 ·rcases qK hz with h1|⟨_,h2,_⟩
  ·exact h.t z h1
  ·rw [h2];exact ht
 ·obtain ⟨h1,z0,h2,h3⟩:=h.nm n hn
  obtain ⟨z,h4,h5⟩:=back z0 h2
  exact ⟨h1,z,h4,by rw [h5];exact h3⟩
 ·refine h.one n hn m hm e fun z0 h2 h3=>?_
  obtain ⟨z,h4,h5⟩:=back z0 h2
  rw [← h5]
  exact hfz z h4 (by rw [h5];exact h3)
 ·obtain ⟨z0,h1,h2⟩:=frame z hz
  rw [← h2];exact h.nx.1 z0 h1
 ·obtain ⟨z0,h1,h2⟩:=frame z hz
  have hp:dE (jZ d y.1.i t) z.1.p=dE d z.1.p:=by
   rw [zA1 hso,if_neg]
   intro e
   rcases h.toOkW.below h1 with h3|⟨w,h3,h4,h5,_⟩
   ·rw [h2,e] at h3
    have:=h.g.lo1 y.1 (rA hy);omega
   ·rw [h2,e] at h4
    rw [zK2 h.g.inc h3 hy h4,hf] at h5;cases h5
  rw [hp]
  by_cases hzi:z.1.i=y.1.i
  ·show jU (oQ r.E y.1.i _) z.1.i=_
   have hz0y:z0=y:=zK2 h.g.inc h1 hy (by rw [h2];exact hzi)
   subst hz0y
   rw [hzi,qO,← h2]
   congr 1
   rcases qK hz with h3|⟨_,h4,_⟩
   ·have hlz:=nP (d:=jZ d z0.1.i t) (by rw [hG];exact h.g.inc) hz
    rw [VF,if_pos hzi,hzi,nP h.g.inc hy] at hlz
    simp only [Option.map_some,Option.some.injEq] at hlz
    rw [← hlz]
   ·exact h4.symm
  ·show jU (oQ r.E y.1.i _) z.1.i=_
   rw [oI _ _ hzi]
   rcases qK hz with h3|⟨h4,_⟩
   ·exact h.e z h3
   ·exact absurd h4 hzi
 ·obtain ⟨z0,h1,h2⟩:=frame z hz
  rw [hG,← h2]
  exact h.kept z0 h1
 ·have:(jZ d y.1.i t).L.length=d.L.length:=by
   have:=congrArg List.length hG
   simpa [Dr.G] using this
  rw [this];exact h.len
def AZ (L:List Ly) (E:List (Int × List En)):List (Int × List En):=L.foldl (fun k l=>oQ k l.i (jU E l.i)) []
theorem HY (E:List (Int × List En)):∀ (L:List Ly) (K:List (Int × List En)) (a:Int),jU (L.foldl (fun k l=>oQ k l.i (jU E l.i)) K) a=if L.any (fun x=>x.i == a) then jU E a else jU K a
 | [],K,a=>rfl
 | x::L,K,a=>by
  rw [List.foldl_cons,HY E L,List.any_cons]
  by_cases hL:L.any (fun x=>x.i == a)=true
  ·rw [if_pos hL,if_pos (by rw [hL];simp)]
  ·rw [if_neg hL]
   by_cases hx:x.i=a
   ·subst hx
    rw [qO,if_pos (by simp)]
   ·rw [oI _ _ (fun e=>hx e.symm),if_neg]
    simp [hx]
    simpa using hL
theorem YW {L:List Ly} {E:List (Int × List En)} {x:Ly} (h:x∈L):jU (AZ L E) x.i=jU E x.i:=by
 unfold AZ
 rw [HY,if_pos]
 exact List.any_eq_true.2 ⟨x,h,by simp⟩
def mI (N:List Nm):List Int:=N.map (·.l)
theorem ER {d:Dr} (hi:oM d.G):zCN d=d.L.filter fun y=>yC d.G (mI d.N) y.1.i:=by
 have key:∀ (l:List (Ly × List It)) (p:Int→Bool),(∀ y∈l,sG d y.1.i=some y)→((l.map (·.1)).filter fun x=>p x.i).filterMap (fun y=>sG d y.i)=l.filter fun y=>p y.1.i:=by
  intro l p
  induction l with
  | nil=>intro _;rfl
  | cons y l ih =>
   intro h
   rw [List.map_cons,List.filter_cons,List.filter_cons]
   split
   ·rw [List.filterMap_cons,h y List.mem_cons_self,ih fun z hz=>h z (List.mem_cons_of_mem _ hz)]
   ·exact ih fun z hz=>h z (List.mem_cons_of_mem _ hz)
 exact key d.L (yC d.G (mI d.N)) fun y hy=>nP hi hy
theorem zHK {d:Dr} (hi:oM d.G):(yI d).G=iN d.G (mI d.N):=by
 show (zCN d).map (·.1)=_
 rw [ER hi,vZ]
 unfold mN Dr.G
 rw [List.filter_map]
 rfl
theorem DY {d:Dr} (hi:oM d.G) {y:Ly × List It}:y∈(yI d).L↔y∈d.L∧yC d.G (mI d.N) y.1.i=true:=by
 show y∈zCN d↔_
 rw [ER hi,List.mem_filter]
theorem zI7 {l:List Ly} {N:List Nm} {n:Nm} {a:Int} (hn:n∈N) (h:a∈sH l n.l):yC l (mI N) a=true :=
 List.any_eq_true.2 ⟨n.l,List.mem_map.2 ⟨n,hn,rfl⟩,by rw [List.contains_iff_mem];exact h⟩
theorem zIf {l:List Ly} {N:List Nm} {a:Int} (h:yC l (mI N) a=true):∃ n∈N,a∈sH l n.l:=by
 obtain ⟨id,h1,h2⟩:=List.any_eq_true.1 h
 obtain ⟨n,h3,rfl⟩:=List.mem_map.1 h1
 exact ⟨n,h3,by rw [List.contains_iff_mem] at h2;exact h2⟩
theorem zA7 {d:Dr} (hg:OkG d.G) {a:Int} (h:a=0∨yC d.G (mI d.N) a=true):dE (yI d) a=dE d a:=by
 have hk:oM (yI d).G:=by rw [zHK hg.inc,vZ];exact (RS hg (yG hg _)).inc
 cases hl:sG d a with
 | none =>
  have hno:=GH hl
  rw [jF hno,jF fun y hy=>hno y ((DY hg.inc).1 hy).1]
 | some y =>
  obtain ⟨h1,rfl⟩:=lH hl
  rcases h with h|h
  ·have:=hg.lo1 y.1 (rA h1);omega
  ·rw [gZ hg.inc h1,gZ hk ((DY hg.inc).2 ⟨h1,h⟩)]
theorem zEE {r:Rm} {d:Dr} (h:SimW r d) (hl:(yI d).L.length≤40):Sim ⟨r.N,iN r.L (mI r.N),AZ (iN r.L (mI r.N)) r.E,r.x⟩ (yI d):=by
 have hG:=zHK h.g.inc
 have hcl:=yG h.g (mI d.N)
 have hpg:OkG (yI d).G:=by rw [hG,vZ];exact RS h.g hcl
 have hm:∀ y,y∈(yI d).L↔y∈d.L∧yC d.G (mI d.N) y.1.i=true:=fun y=>DY h.g.inc
 have hnm:∀ n∈d.N,yC d.G (mI d.N) n.l=true:=fun n hn=>by
  obtain ⟨y,_,h1,h2⟩:=h.toOkW.named hn
  exact zI7 hn (by rw [← h2];exact rL (rA h1))
 refine { g:=hpg,t:=fun y hy=>h.t y ((hm y).1 hy).1,srt:=h.srt,nm:=fun n hn=>?_,one:=fun n hn m hmm e hfz=>?_,nx:=⟨fun y hy=>h.nx.1 y ((hm y).1 hy).1,h.nx.2⟩,ln:=h.ln,N:=h.N,L:=?_,x:=h.x,e:=fun y hy=>?_,kept:=fun y hy=>?_,len:=hl }
 ·obtain ⟨h1,y,h2,h3⟩:=h.nm n hn
  exact ⟨h1,y,(hm y).2 ⟨h2,by rw [h3];exact hnm n hn⟩,h3⟩
 ·exact h.one n hn m hmm e fun y h2 h3=>hfz y ((hm y).2 ⟨h2,by rw [h3];exact hnm n hn⟩) h3
 ·show iN r.L (mI r.N)=_
  rw [hG,h.L,h.N]
 ·obtain ⟨h1,h2⟩:=(hm y).1 hy
  show jU (AZ _ r.E) y.1.i=_
  have:y.1∈iN r.L (mI r.N):=by
   rw [h.L,h.N,← hG]
   exact rA hy
  rw [YW this,h.e y h1]
  congr 1
  refine (zA7 h.g ?_).symm
  rcases h.toOkW.below h1 with h3|⟨z,h3,h4,_⟩
  ·exact .inl h3
  ·exact .inr (by rw [← h4];exact hcl y.1 (rA h1) h2 z.1 (rA h3) (.inl h4))
 ·obtain ⟨h1,h2⟩:=(hm y).1 hy
  obtain ⟨n,h3,h4⟩:=zIf h2
  refine ⟨n,h3,?_⟩
  rw [hG,vZ,zEM h.g hcl (hnm n h3)]
  exact h4
end
section
theorem zCB {a p:List UInt8} (ha:a≠[]) (h:aS p=a):aO a p=true:=dQ ha (by rw [h];exact ha) (.inl h)
theorem zAl {t w:List It} {x:It} (ht:OkT t) (hx:x.p≠[]) (h:zBC t w x=true):∃ y∈t,aS y.p=x.p:=by
 unfold zBC at h
 simp only [Bool.and_eq_true,Bool.not_eq_true',decide_eq_false_iff_not] at h
 obtain ⟨⟨_,_,h1⟩,_⟩:=h
 have h2:0<(fX t x.p).length:=by omega
 rw [YC] at h2
 obtain ⟨y,hy⟩:=List.exists_mem_of_length_pos h2
 obtain ⟨h3,h4⟩:=List.mem_filter.1 hy
 exact ⟨y,h3,eq_of_beq h4⟩
theorem qX {t:List It} (ht:OkT t):fM t t=[]:=by
 obtain ⟨_,hm⟩:=lW ht ht
 refine List.eq_nil_iff_forall_not_mem.2 fun e he=>?_
 rcases (hm e).1 he with h|⟨y,hy,_,h,_⟩
 ·obtain ⟨x,hx,h⟩:=List.mem_flatMap.1 h
  have hg:=cL ht.srt hx
  unfold QX at h
  split at h
  ·rename_i hi
   have hb:=GN ht hx hi
   obtain ⟨y,hy,hd⟩:=zAl ht (ht.ne x hx) hb
   unfold zBC at hb
   simp only [Bool.and_eq_true,Bool.not_eq_true'] at hb
   have:LA t t x.p=true:=List.any_eq_true.2 ⟨y,hy,by rw [rN hy,zCB (ht.ne x hx) hd];rfl⟩
   rw [this] at hb
   exact absurd hb.2 (by decide)
  ·rw [hg] at h
   simp only [Option.isSome_some,Option.getD_some,pP,Bool.not_true,Bool.or_false,Bool.false_eq_true,if_false] at h
   cases h
 ·rw [rN hy] at h;cases h
end
section
theorem DN {r:Rm} {d:Dr} (h:SimW r d) {N:List Nm} (hs:LI N) (hn:∀ n∈N,aX n.n=true∧∃ y∈d.L,y.1.i=n.l)
  (h1:∀ n∈N,∀ m∈N,n.l=m.l→(∀ y∈d.L,y.1.i=n.l→y.1.f=false)→n=m) (hl:N.length≤20):SimW ⟨N,r.L,r.E,r.x⟩ ⟨d.L,N,d.x⟩ :=
 { g:=h.g,t:=h.t,srt:=hs,nm:=hn,one:=h1,nx:=h.nx,ln:=hl,N:=rfl,L:=h.L,x:=h.x,e:=h.e }
theorem oG {id:Int}:∀ {l:List (Ly × List It)},oM (l.map (·.1))→xC id l=l.map fun y=>(AF id y.1,y.2)
 | [],_=>rfl
 | y::l,h=>by
  have h2:=List.pairwise_cons.1 h
  simp only [xC,List.map_cons]
  split
  ·rename_i hy
   have hy:=eq_of_beq hy
   have e1:AF id y.1=⟨y.1.i,y.1.p,y.1.s,true⟩:=by unfold AF;rw [show (y.1.i == id)=true by simpa using hy,Bool.or_true]
   rw [e1]
   congr 1
   have key:∀ z∈l,(AF id z.1,z.2)=z:=fun z hz=>by
    have:y.1.i<z.1.i:=h2.1 z.1 (List.mem_map.2 ⟨z,hz,rfl⟩)
    unfold AF
    rw [show (z.1.i == id)=false by simp;omega,Bool.or_false]
   exact ((List.map_congr_left key).trans (List.map_id' l)).symm
  ·rename_i hy
   have e1:AF id y.1=y.1:=by unfold AF;rw [show (y.1.i == id)=false by simpa using hy,Bool.or_false]
   rw [e1,oG h2.2]
def zIZ (d:Dr) (id:Int):Dr:=⟨xC id d.L,d.N,d.x⟩
theorem zBt {d:Dr} (hi:oM d.G) (id:Int):(zIZ d id).G=mO d.G id:=by
 show (xC id d.L).map (·.1)=_
 rw [oG hi]
 unfold mO Dr.G
 rw [List.map_map,List.map_map]
 rfl
theorem wB {d:Dr} (hi:oM d.G) {id:Int} {y:Ly × List It} (h:y∈(zIZ d id).L):∃ z∈d.L,y=(AF id z.1,z.2):=by
 have h:y∈xC id d.L:=h
 rw [oG hi] at h
 obtain ⟨z,h1,h2⟩:=List.mem_map.1 h
 exact ⟨z,h1,h2.symm⟩
theorem fT {d:Dr} (hi:oM d.G) {id:Int} {z:Ly × List It} (h:z∈d.L):(AF id z.1,z.2)∈(zIZ d id).L:=by
 show _∈xC id d.L
 rw [oG hi]
 exact List.mem_map.2 ⟨z,h,rfl⟩
theorem FM {d:Dr} (h:OkW d) (id a:Int):dE (zIZ d id) a=dE d a:=by
 have hi:oM (zIZ d id).G:=by rw [zBt h.g.inc];exact (zHo h.g id).inc
 cases hl:sG d a with
 | none =>
  have hno:=GH hl
  rw [jF hno,jF fun y hy=>?_]
  obtain ⟨z,h1,rfl⟩:=wB h.g.inc hy
  exact hno z h1
 | some y =>
  obtain ⟨h1,rfl⟩:=lH hl
  rw [gZ h.g.inc h1]
  exact gZ hi (y:=(AF id y.1,y.2)) (fT h.g.inc (id:=id) h1)
theorem yJ {r:Rm} {d:Dr} (h:SimW r d) (id:Int):SimW ⟨r.N,mO r.L id,r.E,r.x⟩ (zIZ d id):=by
 refine { g:=by rw [zBt h.g.inc];exact zHo h.g id,t:=fun y hy=>?_,srt:=h.srt,nm:=fun n hn=>?_,one:=fun n hn m hm e hf=>?_,nx:=⟨fun y hy=>?_,h.nx.2⟩,ln:=h.ln,N:=h.N,L:=by rw [zBt h.g.inc,← h.L],x:=h.x,e:=fun y hy=>?_ }
 ·obtain ⟨z,h1,rfl⟩:=wB h.g.inc hy;exact h.t z h1
 ·obtain ⟨h1,y,h2,h3⟩:=h.nm n hn
  exact ⟨h1,_,fT h.g.inc (id:=id) h2,h3⟩
 ·refine h.one n hn m hm e fun y h2 h3=>?_
  have:=hf _ (fT h.g.inc (id:=id) h2) h3
  simp only [AF,Bool.or_eq_false_iff] at this
  exact this.1
 ·obtain ⟨z,h1,rfl⟩:=wB h.g.inc hy;exact h.nx.1 z h1
 ·obtain ⟨z,h1,rfl⟩:=wB h.g.inc hy
  show jU r.E z.1.i=fM (dE (zIZ d id) z.1.p) z.2
  rw [FM h.toOkW];exact h.e z h1
def qV (d:Dr) (s:List UInt8) (p q:Int) (t:List It):Dr:=⟨d.L++[(⟨d.x,p,q,false⟩,t)],cA d.N s d.x,d.x+1⟩
theorem WE (d:Dr) (s:List UInt8) (p q:Int) (t:List It):zCv d s p q t=yI (qV d s p q t):=rfl
theorem zCX (d:Dr) (s:List UInt8) (p q:Int) (t:List It):(qV d s p q t).G=d.G++[⟨d.x,p,q,false⟩]:=by
 unfold qV Dr.G;rw [List.map_append];rfl
def FG (d:Dr) (p:Int):Prop:=∃ y∈d.L,y.1.i=p∧y.1.f=true
theorem BV {d:Dr} {p:Int} (h:FG d p):eV d.G d.G.length p:=by
 obtain ⟨y,h1,h2,h3⟩:=h
 obtain ⟨k,hk⟩:=List.mem_iff_getElem?.1 (rA h1)
 exact .inr ⟨k,y.1,(List.getElem?_eq_some_iff.1 hk).1,hk,h2,h3⟩
theorem JK {d:Dr} (h:OkW d) {s:List UInt8} {p q:Int} {t:List It} (hi:oM (qV d s p q t).G) (a:Int) (ha:a≠d.x):dE (qV d s p q t) a=dE d a:=by
 cases hl:sG d a with
 | none =>
  have hno:=GH hl
  rw [jF hno,jF fun y hy=>?_]
  rcases List.mem_append.1 (show y∈d.L++[_] from hy) with h1|h1
  ·exact hno y h1
  ·rw [List.mem_singleton] at h1;subst h1;exact fun e=>ha e.symm
 | some y =>
  obtain ⟨h1,rfl⟩:=lH hl
  rw [gZ h.g.inc h1]
  exact gZ hi (show y∈d.L++[_] from List.mem_append_left _ h1)
theorem HS {r:Rm} {d:Dr} (h:SimW r d) {s:List UInt8} {p q:Int} {t:List It} (hs:aX s=true) (hp:FG d p) (hq:q=0∨(p≠q∧FG d q)) (hc:(bS d.G p).length≤11) (ht:OkT t)
  (hx:d.x<2147483647) (hn:(cA d.N s d.x).length≤20):SimW ⟨cA r.N s r.x,r.L++[⟨r.x,p,q,false⟩],oQ r.E r.x (fM (dE d p) t),r.x+1⟩ (qV d s p q t):=by
 have hz:∀ x∈d.G,x.i<d.x:=fun x hx=>by
  obtain ⟨y,hy,rfl⟩:=PT.1 hx
  exact h.nx.1 y hy
 have hp1:1≤p∧p<d.x:=by
  obtain ⟨y,h1,rfl,_⟩:=hp
  exact ⟨h.g.lo1 _ (rA h1),h.nx.1 y h1⟩
 have hg:OkG (qV d s p q t).G:=by
  rw [zCX]
  refine zIg h.g hz ⟨h.nx.2.1,by have:=h.nx.2.2;simp only;omega⟩ (BV hp) ?_ (fun h0=>?_) hc
  ·rcases hq with rfl|⟨_,hq⟩
   ·exact .inl rfl
   ·exact BV hq
  ·rcases hq with rfl|⟨hq,_⟩
   ·exact absurd rfl h0
   ·exact ⟨by show p≠0;omega,hq⟩
 have hmem:∀ y,y∈(qV d s p q t).L↔y∈d.L∨y=(⟨d.x,p,q,false⟩,t):=fun y=>by
  show y∈d.L++[_]↔_
  rw [List.mem_append,List.mem_singleton]
 have hN:∀ n,n∈(qV d s p q t).N↔n=⟨s,d.x⟩∨(n∈d.N∧n.n≠s):=fun n=>yX h.srt
 have old:∀ n∈d.N,n.l≠d.x:=fun n hn e=>by
  obtain ⟨y,_,h1,h2⟩:=h.toOkW.named hn
  have:=h.nx.1 y h1
  omega
 refine { g:=hg,t:=fun y hy=>?_,srt:=mS h.srt s d.x,nm:=fun n hnn=>?_,one:=fun n hnn m hmm e hf=>?_,nx:=⟨fun y hy=>?_,by show 1≤d.x+1;have:=h.nx.2.1;omega,by show d.x+1≤2147483647;omega⟩,ln:=hn,N:=by show cA r.N s r.x=cA d.N s d.x;rw [h.N,h.x],L:=by rw [zCX,← h.L,← h.x],x:=by show r.x+1=d.x+1;rw [h.x],e:=fun y hy=>?_ }
 ·rcases (hmem y).1 hy with h1|rfl
  ·exact h.t y h1
  ·exact ht
 ·rcases (hN n).1 hnn with rfl|⟨h1,_⟩
  ·exact ⟨hs,_,(hmem _).2 (.inr rfl),rfl⟩
  ·obtain ⟨h2,y,h3,h4⟩:=h.nm n h1
   exact ⟨h2,y,(hmem y).2 (.inl h3),h4⟩
 ·rcases (hN n).1 hnn with rfl|⟨h1,h2⟩ <;> rcases (hN m).1 hmm with rfl|⟨h3,h4⟩
  ·rfl
  ·exact absurd e.symm (old m h3)
  ·exact absurd e (old n h1)
  ·exact h.one n h1 m h3 e fun y h5 h6=>hf y ((hmem y).2 (.inl h5)) h6
 ·show y.1.i<d.x+1
  rcases (hmem y).1 hy with h1|rfl
  ·have:=h.nx.1 y h1;omega
  ·simp only;omega
 ·show jU (oQ r.E r.x _) y.1.i=_
  rcases (hmem y).1 hy with h1|rfl
  ·have hlt:=h.nx.1 y h1
   rw [oI _ _ (by rw [h.x];omega),h.e y h1,JK h.toOkW hg.inc]
   rcases h.toOkW.below h1 with h2|⟨z,h2,h3,_⟩
   ·rw [h2];have:=h.nx.2.1;omega
   ·rw [← h3];have:=h.nx.1 z h2;omega
  ·rw [h.x]
   simp only
   rw [qO,JK h.toOkW hg.inc p (by omega)]
def cP (r:Rm) (s:List UInt8):Ly × Int:=match AP r.N s with
 | some n=>((eC r.L n.l).getD ly0,0)
 | none=>(ly0,6)
def wsP (r:Rm) (s:List UInt8):Ly × Int:=if (cP r s).2 == 0 && (cP r s).1.f then (ly0,14) else cP r s
def snP (r:Rm) (s:List UInt8):Ly × Int:=if (cP r s).2 == 0 && !(cP r s).1.f then (ly0,13) else cP r s
def jH (r:Rm) (s:List UInt8):Int:=if !aX s then 1 else if TX r.N s then 7 else if decide (20≤(r.N.length:Int)) || (decide (40≤(r.L.length:Int)) || decide (2147483647≤r.x)) then 16 else 0
def mL (r:Rm) (on:Int):Int:=if decide (12≤((bS r.L on).length:Int)) then 15 else 0
def VA (r:Rm):Rm:=⟨r.N,iN r.L (mI r.N),AZ (iN r.L (mI r.N)) r.E,r.x⟩
def zJC (r:Rm) (s:List UInt8) (p q:Int) (es:List En):Rm:=VA ⟨cA r.N s r.x,r.L++[⟨r.x,p,q,false⟩],oQ r.E r.x es,r.x+1⟩
def kC (r:Rm) (s sn:List UInt8):Rm × Int :=
 if !((wsP r s).2 == 0) then (r,(wsP r s).2) else if !(jH r sn == 0) then (r,jH r sn) else if !(mL r (wsP r s).1.i == 0) then (r,mL r (wsP r s).1.i)
 else (zJC ⟨cA r.N sn (wsP r s).1.i,mO r.L (wsP r s).1.i,r.E,r.x⟩ s (wsP r s).1.i 0 [],0)
def GW (r:Rm) (sn s:List UInt8):Rm × Int :=
 if !((snP r sn).2 == 0) then (r,(snP r sn).2) else if !(jH r s == 0) then (r,jH r s) else if !(mL r (snP r sn).1.i == 0) then (r,mL r (snP r sn).1.i)
 else (zJC r s (snP r sn).1.i 0 [],0)
theorem gE {r:Rm} {d:Dr} (h:SimW r d) {s:List UInt8} {n:Nm} (hn:AP d.N s=some n):∃ y∈d.L,cP r s=(y.1,0)∧eH d.N s=y.1.i∧sG d y.1.i=some y∧y.1.i=n.l∧(y.1.i == 0)=false:=by
 obtain ⟨h1,h2⟩:=gW hn
 obtain ⟨y,h3,h4,h5⟩:=h.toOkW.named h1
 refine ⟨y,h4,?_,by unfold eH;rw [hn,h5],by rw [h5];exact h3,h5,?_⟩
 ·unfold cP
  rw [h.N,hn]
  show ((eC r.L n.l).getD ly0,(0:Int))=_
  rw [h.L,zHJ,h3]
  rfl
 ·have:=h.g.lo1 _ (rA h4)
  simp only [beq_eq_false_iff_ne,ne_eq];omega
theorem gF {r:Rm} {d:Dr} (h:SimW r d) {s:List UInt8} (hn:AP d.N s=none):cP r s=(ly0,6)∧(eH d.N s == 0)=true:=by
 refine ⟨by unfold cP;rw [h.N,hn],?_⟩
 rw [h.toOkW.name0,hn];rfl
theorem rO {d:Dr} {y:Ly × List It} (h:sG d y.1.i=some y):pT d y.1.i=y.1.f:=by unfold pT;rw [h]
theorem iI {d:Dr} {y:Ly × List It} (h:sG d y.1.i=some y):dE d y.1.i=y.2:=by unfold dE;rw [h]
theorem wD {r:Rm} {d:Dr} (h:SimW r d) (s:List UInt8):jH r s=oZ d s:=by
 unfold jH oZ
 rw [h.toOkW.name0,RM,h.N,h.L,h.x,show d.G.length=d.L.length by simp [Dr.G],Bool.not_not]
theorem vP {d:Dr} {s:List UInt8} (h:(oZ d s == 0)=true):aX s=true∧eH d.N s=0∧d.N.length<20∧d.L.length<40∧d.x<2147483647:=by
 unfold oZ at h
 split at h
 ·cases h
 ·rename_i h1
  split at h
  ·cases h
  ·rename_i h2
   split at h
   ·cases h
   ·rename_i h3
    simp only [Bool.or_eq_true,decide_eq_true_eq,not_or,Bool.not_eq_true,Bool.not_eq_false',beq_iff_eq] at h1 h2 h3
    exact ⟨h1,h2,by omega,by omega,by omega⟩
theorem zN {r:Rm} {d:Dr} (h:SimW r d) (on:Int):(mL r on == 0) = !LG d on:=by
 unfold mL LG
 rw [h.L]
 by_cases hc:12≤(bS d.G on).length
 ·rw [if_pos (by simp;omega),show decide (12<(((bS d.G on).length:Int)+1))=true by simp;omega];rfl
 ·rw [if_neg (by simp;omega),show decide (12<(((bS d.G on).length:Int)+1))=false by simp;omega];rfl
theorem zCm (r:Rm) (on:Int) (h:(mL r on == 0)=false):mL r on=15:=by
 unfold mL at h ⊢
 split at h
 ·rename_i h1;rw [if_pos h1]
 ·cases h
theorem FR {d:Dr} {on:Int} (h:LG d on=false):(bS d.G on).length≤11:=by
 unfold LG at h
 simp only [decide_eq_false_iff_not] at h
 omega
theorem zC6 {r:Rm} {d:Dr} (h:SimW r d) {s:List UInt8} {p q:Int} {t:List It} {es:List En} (hs:aX s=true) (hp:FG d p) (hq:q=0∨(p≠q∧FG d q)) (hc:(bS d.G p).length≤11) (ht:OkT t)
  (hx:d.x<2147483647) (hn:(cA d.N s d.x).length≤20) (he:es=fM (dE d p) t) (hl:(zCv d s p q t).L.length≤40):Sim (zJC r s p q es) (zCv d s p q t):=by
 subst he
 exact zEE (HS h hs hp hq hc ht hx hn) hl
theorem SY (d:Dr) (hi:oM d.G):(yI d).L.length≤d.L.length:=by
 show (zCN d).length≤_
 rw [ER hi]
 exact List.length_filter_le _ _
theorem TJ {d:Dr} (h:OkW d) (s:List UInt8) (p q:Int) (t:List It):oM (qV d s p q t).G:=by
 rw [zCX]
 exact FK h.g.inc fun x hx=>by
  obtain ⟨y,hy,rfl⟩:=PT.1 hx
  exact h.nx.1 y hy
theorem zEI {r:Rm} {d:Dr} (h:Sim r d) (sn s:List UInt8):(GW r sn s).2=(zDA d sn s).2∧Sim (GW r sn s).1 (zDA d sn s).1:=by
 unfold GW zDA snP
 cases hn:AP d.N sn with
 | none =>
  obtain ⟨h1,h2⟩:=gF h.toSimW hn
  rw [h1,h2]
  exact ⟨rfl,h⟩
 | some n =>
  obtain ⟨y,hy,h1,h2,h3,h4,h5⟩:=gE h.toSimW hn
  rw [h1,h2,h5,rO h3,iI h3]
  cases hf:y.1.f
  ·exact ⟨rfl,h⟩
  ·rw [show ((0:Int) == 0 && !true)=false from rfl]
   simp only [Bool.false_eq_true,if_false,Bool.not_true]
   rw [show (!((0:Int) == 0))=false from rfl]
   simp only [Bool.false_eq_true,if_false]
   rw [wD h.toSimW]
   cases hfr:(oZ d s == 0)
   ·exact ⟨rfl,h⟩
   ·simp only [Bool.not_true,Bool.false_eq_true,if_false]
    rw [zN h.toSimW,Bool.not_not]
    cases hd:LG d y.1.i
    ·simp only [Bool.false_eq_true,if_false,true_and]
     obtain ⟨f1,f2,f3,f4,f5⟩:=vP hfr
     refine zC6 h.toSimW f1 ⟨y,hy,rfl,hf⟩ (.inl rfl) (FR hd) (h.t y hy) f5 (by have:=lG d.N s d.x;omega) ?_ ?_
     ·rw [iI h3,qX (h.t y hy)]
     ·have:=SY (qV d s y.1.i 0 y.2) (TJ h.toOkW _ _ _ _)
      have e:(qV d s y.1.i 0 y.2).L.length=d.L.length+1:=by show (d.L++[_]).length=_;rw [List.length_append];rfl
      rw [WE];omega
    ·simp only [if_true]
     have:=zCm r y.1.i (by rw [zN h.toSimW,hd];rfl)
     exact ⟨this,h⟩
theorem XK {r:Rm} {d:Dr} (h:Sim r d) (s sn:List UInt8):(kC r s sn).2=(kE d s sn).2∧Sim (kC r s sn).1 (kE d s sn).1:=by
 unfold kC kE wsP
 cases hn:AP d.N s with
 | none =>
  obtain ⟨h1,h2⟩:=gF h.toSimW hn
  rw [h1,h2]
  exact ⟨rfl,h⟩
 | some n =>
  obtain ⟨y,hy,h1,h2,h3,h4,h5⟩:=gE h.toSimW hn
  rw [h1,h2,h5,rO h3,iI h3]
  cases hf:y.1.f
  rotate_left 1
  ·exact ⟨rfl,h⟩
  ·rw [show ((0:Int) == 0 && false)=false from rfl]
   simp only [Bool.false_eq_true,if_false]
   rw [show (!((0:Int) == 0))=false from rfl]
   simp only [Bool.false_eq_true,if_false]
   rw [wD h.toSimW]
   cases hfr:(oZ d sn == 0)
   ·exact ⟨rfl,h⟩
   ·simp only [Bool.not_true,Bool.false_eq_true,if_false]
    rw [zN h.toSimW,Bool.not_not]
    cases hd:LG d y.1.i
    ·simp only [Bool.false_eq_true,if_false,true_and]
     obtain ⟨f1,f2,f3,f4,f5⟩:=vP hfr
     have hwf:=yJ h.toSimW y.1.i
     have hmem:∀ n,n∈cA d.N sn y.1.i↔n=⟨sn,y.1.i⟩∨(n∈d.N∧n.n≠sn):=fun n=>yX h.srt
     have hwn:=DN hwf (N:=cA d.N sn y.1.i) (mS h.srt sn y.1.i) (fun m hm=>?_) (fun a ha b hb e hfz=>?_) (by have:=lG d.N sn y.1.i;omega)
     ·have hcl:=lG d.N sn y.1.i
      have hwn:SimW ⟨cA d.N sn y.1.i,mO r.L y.1.i,r.E,r.x⟩ ⟨xC y.1.i d.L,cA d.N sn y.1.i,d.x⟩:=hwn
      have hsn:aX s=true:=by
       obtain ⟨g1,g2⟩:=gW hn
       rw [← g2];exact (h.nm n g1).1
      have hfa:FG ⟨xC y.1.i d.L,cA d.N sn y.1.i,d.x⟩ y.1.i:=⟨_,fT h.g.inc (id:=y.1.i) hy,rfl,by show (y.1.f || y.1.i == y.1.i)=true;simp⟩
      have hGeq:(⟨xC y.1.i d.L,cA d.N sn y.1.i,d.x⟩:Dr).G=mO d.G y.1.i:=zBt h.g.inc y.1.i
      have hne:sn≠s:=fun e=>by
       subst e
       have:=h.toOkW.name0 sn
       rw [f2,hn] at this
       cases this
      have hin:(⟨n.n,n.l⟩:Nm)∈cA d.N sn y.1.i:=by
       obtain ⟨g1,g2⟩:=gW hn
       exact (hmem _).2 (.inr ⟨g1,by rw [g2];exact fun e=>hne e.symm⟩)
      have hlen2:(cA (cA d.N sn y.1.i) s d.x).length≤20:=by
       obtain ⟨g1,g2⟩:=gW hn
       rw [← g2,wF (mS h.srt sn y.1.i) hin]
       rw [List.length_set];omega
      have e0:dE ⟨xC y.1.i d.L,cA d.N sn y.1.i,d.x⟩ y.1.i=y.2:=(FM h.toOkW y.1.i y.1.i).trans (iI h3)
      rw [h.N]
      refine zC6 hwn hsn hfa (.inl rfl) (by rw [hGeq,zH];exact FR hd) (h.t y hy) f5 hlen2 ?_ ?_
      ·show []=fM (dE ⟨xC y.1.i d.L,cA d.N sn y.1.i,d.x⟩ y.1.i) y.2
       rw [e0,qX (h.t y hy)]
      ·have h7:=SY (qV ⟨xC y.1.i d.L,cA d.N sn y.1.i,d.x⟩ s y.1.i 0 y.2) (TJ hwn.toOkW _ _ _ _)
       have e:(qV ⟨xC y.1.i d.L,cA d.N sn y.1.i,d.x⟩ s y.1.i 0 y.2).L.length=d.L.length+1:=by
        show (xC y.1.i d.L++[_]).length=_
        rw [List.length_append,oG h.g.inc,List.length_map];rfl
       rw [WE];omega
     ·rcases (hmem m).1 hm with rfl|⟨g1,_⟩
      ·exact ⟨f1,_,fT h.g.inc (id:=y.1.i) hy,rfl⟩
      ·exact hwf.nm m g1
     ·have hfz2:∀ z∈d.L,z.1.i=a.l→z.1.i≠y.1.i∧z.1.f=false:=fun z hz hza=>by
       have:=hfz _ (fT h.g.inc (id:=y.1.i) hz) hza
       simp only [AF,Bool.or_eq_false_iff] at this
       exact ⟨by simpa using this.2,this.1⟩
      rcases (hmem a).1 ha with rfl|⟨g1,_⟩ <;> rcases (hmem b).1 hb with rfl|⟨g2,_⟩
      ·rfl
      ·exact absurd rfl (hfz2 y hy rfl).1
      ·exact absurd rfl (hfz2 y hy e.symm).1
      ·exact h.one a g1 b g2 e fun z hz hza=>(hfz2 z hz hza).2
    ·simp only [if_true]
     have:=zCm r y.1.i (by rw [zN h.toSimW,hd];rfl)
     exact ⟨this,h⟩
end
section
theorem zIy {t:List It} {c:Cl} (h:(doP t c).2.e≠0):(doP t c).1=t:=by
 unfold doP at h ⊢
 split
 ·rfl
 ·rename_i h1
  rw [if_neg h1] at h
  split
  ·rfl
  ·rename_i h2
   rw [if_neg h2] at h
   split
   ·rfl
   ·rename_i h3
    rw [if_neg h3] at h
    split
    ·rename_i h4
     rw [if_pos h4] at h
     exact absurd rfl h
    ·rfl
end
end Go.Dm
