/- Part 24 of the proof of roomKnown_card. No condition. -/
import Derived.Test.YtbpblnmhlhpebaaGreatDoorB22
set_option linter.all false
namespace Go.Dm
open Go
section
structure OkW (d:Dr):Prop where
 g:OkG d.G
 t:∀ y∈d.L,OkT y.2
 srt:AK d.N
 nm:∀ n∈d.N,bF n.n=true∧∃ y∈d.L,y.1.i=n.l
 one:∀ n∈d.N,∀ m∈d.N,n.l=m.l→(∀ y∈d.L,y.1.i=n.l→y.1.f=false)→n=m
 nx:(∀ y∈d.L,y.1.i<d.x)∧1≤d.x∧d.x≤2147483647
 ln:d.N.length≤20
structure SimW (r:Rm) (d:Dr):Prop extends OkW d where
 N:r.N=d.N
 L:r.L=d.G
 x:r.x=d.x
 e:∀ y∈d.L,kT r.E y.1.i=dY (cQ d y.1.p) y.2
structure Sim (r:Rm) (d:Dr):Prop extends SimW r d where
 kept:∀ y∈d.L,∃ n∈d.N,y.1.i∈oX d.G n.l
 len:d.L.length≤40
theorem EO {d:Dr} {x:Ly}:x∈d.G↔∃ y∈d.L,y.1=x:=by unfold Dr.G;rw [List.mem_map]
theorem rK {d:Dr} {y:Ly × List It} (h:y∈d.L):y.1∈d.G:=EO.2 ⟨y,h,rfl⟩
theorem iR {d:Dr} (hi:oL d.G) {y:Ly × List It} (hy:y∈d.L):cQ d y.1.i=y.2:=by unfold cQ;rw [nS hi hy]
theorem jT {d:Dr} {id:Int} (h:∀ y∈d.L,y.1.i≠id):cQ d id=[]:=by
 unfold cQ
 cases hl:pR d id with
 | none=>rfl
 | some y=>obtain ⟨h1,h2⟩:=mE hl;exact absurd h2 (h y h1)
theorem OkW.tree {d:Dr} (h:OkW d) (id:Int):OkT (cQ d id):=by
 unfold cQ
 cases hl:pR d id with
 | none=>exact OkT.nil
 | some y=>exact h.t y (mE hl).1
theorem OkW.zero {d:Dr} (h:OkW d):cQ d 0=[]:=jT fun y hy e=>by have:=h.g.lo1 y.1 (rK hy);omega
theorem SimW.tree {r:Rm} {d:Dr} (h:SimW r d) (id:Int):FQ r id=(cQ d id,true):=by
 cases hl:pR d id with
 | none =>
  have hno:=FT hl
  rw [jT hno]
  unfold FQ mI bO
  rw [h.L,iU]
  ·rfl
  ·rw [zG2,hl];rfl
 | some y =>
  obtain ⟨h1,rfl⟩:=mE hl
  have hm:y.1∈r.L:=by rw [h.L];exact rK h1
  obtain ⟨k,hk⟩:=List.mem_iff_getElem?.1 hm
  refine WA (by rw [h.L];exact h.g) (cQ d) h.toOkW.zero (fun x _=>h.toOkW.tree x.i) (fun x hx=>?_) k hk
  rw [h.L] at hx
  obtain ⟨z,hz,rfl⟩:=EO.1 hx
  rw [h.e z hz,iR h.g.inc hz]
theorem SimW.treeR {r:Rm} {d:Dr} (h:SimW r d) (id:Int):treeR r id=cQ d id:=by unfold Dm.treeR;rw [h.tree]
theorem OkW.named {d:Dr} (h:OkW d) {n:Nm} (hn:n∈d.N):∃ y,pR d n.l=some y∧y∈d.L∧y.1.i=n.l:=by
 obtain ⟨_,y,h1,h2⟩:=h.nm n hn
 exact ⟨y,by rw [← h2];exact nS h.g.inc h1,h1,h2⟩
theorem OkW.name0 {d:Dr} (h:OkW d) (s:List UInt8):(bN d.N s == 0) = !(sV d.N s).isSome:=by
 unfold bN
 cases hn:sV d.N s with
 | none=>rfl
 | some n =>
  obtain ⟨h1,h2⟩:=fC hn
  obtain ⟨y,_,h3,h4⟩:=h.named h1
  have:=h.g.lo1 y.1 (rK h3)
  simp only [Option.isSome_some,Bool.not_true,beq_eq_false_iff_ne,ne_eq]
  omega
theorem zJZ (d:Dr) (id:Int) (t:List It):(oZ d id t).G=d.G:=by
 unfold oZ Dr.G
 have:∀ l:List (Ly × List It),(yM id t l).map (·.1)=l.map (·.1):=by
  intro l
  induction l with
  | nil=>rfl
  | cons y l ih =>
   simp only [yM]
   split
   ·rfl
   ·simp only [List.map_cons,ih]
 exact this d.L
theorem qZ {id:Int} {t:List It} {y:Ly × List It}:∀ {l:List (Ly × List It)},y∈yM id t l→(y∈l)∨(y.1.i=id∧y.2=t∧∃ z∈l,z.1=y.1)
 | [],h=>by cases h
 | z::l,h=>by
  simp only [yM] at h
  split at h
  ·rename_i hz
   rcases List.mem_cons.1 h with rfl|h
   ·exact .inr ⟨by simpa using hz,rfl,z,List.mem_cons_self,rfl⟩
   ·exact .inl (List.mem_cons_of_mem _ h)
  ·rcases List.mem_cons.1 h with rfl|h
   ·exact .inl List.mem_cons_self
   ·rcases qZ h with h|⟨h1,h2,w,h3,h4⟩
    ·exact .inl (List.mem_cons_of_mem _ h)
    ·exact .inr ⟨h1,h2,w,List.mem_cons_of_mem _ h3,h4⟩
theorem RS (d:Dr) (id:Int) (t:List It) (a:Int):pR (oZ d id t) a=if a=id then (pR d a).map (fun y=>(y.1,t)) else pR d a:=by
 unfold pR oZ
 have:∀ l:List (Ly × List It),(yM id t l).find? (fun y=>y.1.i == a)=if a=id then (l.find? fun y=>y.1.i == a).map (fun y=>(y.1,t)) else l.find? fun y=>y.1.i == a:=by
  intro l
  induction l with
  | nil=>simp [yM]
  | cons y l ih =>
   simp only [yM]
   split
   ·rename_i hy
    have hy:=eq_of_beq hy
    rw [List.find?_cons,List.find?_cons]
    by_cases ha:a=id
    ·subst ha
     rw [if_pos rfl,show (y.1.i == a)=true by rw [hy];simp]
     rfl
    ·rw [if_neg ha,show (y.1.i == a)=false by rw [hy];simpa using fun e=>ha e.symm]
   ·rename_i hy
    rw [List.find?_cons,List.find?_cons,ih]
    by_cases ha:a=id
    ·subst ha
     rw [if_pos rfl,if_pos rfl,show (y.1.i == a)=false by simpa using hy]
    ·rw [if_neg ha,if_neg ha]
 exact this d.L
theorem zCG {d:Dr} {id:Int} {t:List It} (h:(pR d id).isSome=true) (a:Int):cQ (oZ d id t) a=if a=id then t else cQ d a:=by
 unfold cQ
 rw [RS]
 by_cases ha:a=id
 ·subst ha
  rw [if_pos rfl,if_pos rfl]
  obtain ⟨y,hy⟩:=Option.isSome_iff_exists.1 h
  rw [hy];rfl
 ·rw [if_neg ha,if_neg ha]
theorem JF {d:Dr} (hi:oL d.G) (id:Int):oZ d id (cQ d id)=d:=by
 unfold oZ
 have key:∀ (l:List (Ly × List It)) (t:List It),oL (l.map (·.1))→(∀ y∈l,y.1.i=id→y.2=t)→yM id t l=l:=by
  intro l t
  induction l with
  | nil=>intro _ _;rfl
  | cons y l ih =>
   intro hp h
   have h2:=List.pairwise_cons.1 hp
   simp only [yM]
   split
   ·rename_i hy
    rw [← h y List.mem_cons_self (eq_of_beq hy)]
   ·rw [ih h2.2 fun z hz=>h z (List.mem_cons_of_mem _ hz)]
 rw [key d.L (cQ d id) hi fun y hy e=>by rw [← e,iR hi hy]]
theorem OkW.below {d:Dr} (h:OkW d) {y:Ly × List It} (hy:y∈d.L):y.1.p=0∨∃ z∈d.L,z.1.i=y.1.p∧z.1.f=true∧z.1.i<y.1.i:=by
 obtain ⟨k,hk⟩:=List.mem_iff_getElem?.1 (rK hy)
 rcases h.g.par k _ hk with h0|⟨j,x,h1,h2,h3,h4⟩
 ·exact .inl h0
 ·obtain ⟨z,hz,rfl⟩:=EO.1 (List.mem_of_getElem? h2)
  exact .inr ⟨z,hz,h3,h4,TX h.g.inc h2 hk h1⟩
theorem zGr {d:Dr} (h:oL d.G) {x y:Ly × List It} (hx:x∈d.L) (hy:y∈d.L) (e:x.1.i=y.1.i):x=y:=by
 have h1:=nS h hx
 rw [e,nS h hy] at h1
 exact (Option.some.inj h1).symm
theorem zIW {r:Rm} {d:Dr} (h:Sim r d) {y:Ly × List It} (hy:y∈d.L) (hf:y.1.f=false) {t:List It} (ht:OkT t):
  Sim ⟨r.N,r.L,mW r.E y.1.i (dY (cQ d y.1.p) t),r.x⟩ (oZ d y.1.i t):=by
 have hG:=zJZ d y.1.i t
 have hso:(pR d y.1.i).isSome=true:=by rw [nS h.g.inc hy];rfl
 have frame:∀ z∈(oZ d y.1.i t).L,∃ z0∈d.L,z0.1=z.1:=fun z hz=>by
  rcases qZ hz with h1|⟨_,_,w,h1,h2⟩
  ·exact ⟨z,h1,rfl⟩
  ·exact ⟨w,h1,h2⟩
 have back:∀ z0∈d.L,∃ z∈(oZ d y.1.i t).L,z.1=z0.1:=fun z0 hz0=>by
  have:=rK hz0
  rw [← hG] at this
  exact EO.1 this
 refine { g:=by rw [hG];exact h.g,t:=fun z hz=>?_,srt:=h.srt,nm:=fun n hn=>?_,one:=fun n hn m hm e hfz=>?_,nx:=⟨fun z hz=>?_,h.nx.2⟩,ln:=h.ln,N:=h.N,L:=by rw [hG];exact h.L,x:=h.x,e:=fun z hz=>?_,kept:=fun z hz=>?_,len:=?_ }
 ·rcases qZ hz with h1|⟨_,h2,_⟩
  ·exact h.t z h1
  ·rw [h2];exact ht
 ·obtain ⟨h1,z0,h2,h3⟩:=h.nm n hn
  obtain ⟨z,h4,h5⟩:=back z0 h2
  exact ⟨h1,z,h4,by rw [h5];exact h3⟩
 ·refine h.one n hn m hm e fun z0 h2 h3=>?_
  obtain ⟨z,h4,h5⟩:=back z0 h2
  rw [← h5]
  exact hfz z h4 (by rw [h5];exact h3)
 ·obtain ⟨z0,h1,h2⟩:=frame z hz
  rw [← h2];exact h.nx.1 z0 h1
 ·obtain ⟨z0,h1,h2⟩:=frame z hz
  have hp:cQ (oZ d y.1.i t) z.1.p=cQ d z.1.p:=by
   rw [zCG hso,if_neg]
   intro e
   rcases h.toOkW.below h1 with h3|⟨w,h3,h4,h5,_⟩
   ·rw [h2,e] at h3
    have:=h.g.lo1 y.1 (rK hy);omega
   ·rw [h2,e] at h4
    rw [zGr h.g.inc h3 hy h4,hf] at h5;cases h5
  rw [hp]
  by_cases hzi:z.1.i=y.1.i
  ·show kT (mW r.E y.1.i _) z.1.i=_
   have hz0y:z0=y:=zGr h.g.inc h1 hy (by rw [h2];exact hzi)
   subst hz0y
   rw [hzi,qY,← h2]
   congr 1
   rcases qZ hz with h3|⟨_,h4,_⟩
   ·have hlz:=nS (d:=oZ d z0.1.i t) (by rw [hG];exact h.g.inc) hz
    rw [RS,if_pos hzi,hzi,nS h.g.inc hy] at hlz
    simp only [Option.map_some,Option.some.injEq] at hlz
    rw [← hlz]
   ·exact h4.symm
  ·show kT (mW r.E y.1.i _) z.1.i=_
   rw [oN _ _ hzi]
   rcases qZ hz with h3|⟨h4,_⟩
   ·exact h.e z h3
   ·exact absurd h4 hzi
 ·obtain ⟨z0,h1,h2⟩:=frame z hz
  rw [hG,← h2]
  exact h.kept z0 h1
 ·have:(oZ d y.1.i t).L.length=d.L.length:=by
   have:=congrArg List.length hG
   simpa [Dr.G] using this
  rw [this];exact h.len
def CM (L:List Ly) (E:List (Int × List En)):List (Int × List En):=L.foldl (fun k l=>mW k l.i (kT E l.i)) []
theorem JN (E:List (Int × List En)):∀ (L:List Ly) (K:List (Int × List En)) (a:Int),kT (L.foldl (fun k l=>mW k l.i (kT E l.i)) K) a=if L.any (fun x=>x.i == a) then kT E a else kT K a
 | [],K,a=>rfl
 | x::L,K,a=>by
  rw [List.foldl_cons,JN E L,List.any_cons]
  by_cases hL:L.any (fun x=>x.i == a)=true
  ·rw [if_pos hL,if_pos (by rw [hL];simp)]
  ·rw [if_neg hL]
   by_cases hx:x.i=a
   ·subst hx
    rw [qY,if_pos (by simp)]
   ·rw [oN _ _ (fun e=>hx e.symm),if_neg]
    simp [hx]
    simpa using hL
theorem XP {L:List Ly} {E:List (Int × List En)} {x:Ly} (h:x∈L):kT (CM L E) x.i=kT E x.i:=by
 unfold CM
 rw [JN,if_pos]
 exact List.any_eq_true.2 ⟨x,h,by simp⟩
def mL (N:List Nm):List Int:=N.map (·.l)
theorem wG {d:Dr} (hi:oL d.G):WN d=d.L.filter fun y=>sS d.G (mL d.N) y.1.i:=by
 have key:∀ (l:List (Ly × List It)) (p:Int→Bool),(∀ y∈l,pR d y.1.i=some y)→((l.map (·.1)).filter fun x=>p x.i).filterMap (fun y=>pR d y.i)=l.filter fun y=>p y.1.i:=by
  intro l p
  induction l with
  | nil=>intro _;rfl
  | cons y l ih =>
   intro h
   rw [List.map_cons,List.filter_cons,List.filter_cons]
   split
   ·rw [List.filterMap_cons,h y List.mem_cons_self,ih fun z hz=>h z (List.mem_cons_of_mem _ hz)]
   ·exact ih fun z hz=>h z (List.mem_cons_of_mem _ hz)
 exact key d.L (sS d.G (mL d.N)) fun y hy=>nS hi hy
theorem zHp {d:Dr} (hi:oL d.G):(uW d).G=jO d.G (mL d.N):=by
 show (WN d).map (·.1)=_
 rw [wG hi,wB]
 unfold mS Dr.G
 rw [List.filter_map]
 rfl
theorem EN {d:Dr} (hi:oL d.G) {y:Ly × List It}:y∈(uW d).L↔y∈d.L∧sS d.G (mL d.N) y.1.i=true:=by
 show y∈WN d↔_
 rw [wG hi,List.mem_filter]
theorem zI7 {l:List Ly} {N:List Nm} {n:Nm} {a:Int} (hn:n∈N) (h:a∈oX l n.l):sS l (mL N) a=true :=
 List.any_eq_true.2 ⟨n.l,List.mem_map.2 ⟨n,hn,rfl⟩,by rw [List.contains_iff_mem];exact h⟩
theorem zBf {l:List Ly} {N:List Nm} {a:Int} (h:sS l (mL N) a=true):∃ n∈N,a∈oX l n.l:=by
 obtain ⟨id,h1,h2⟩:=List.any_eq_true.1 h
 obtain ⟨n,h3,rfl⟩:=List.mem_map.1 h1
 exact ⟨n,h3,by rw [List.contains_iff_mem] at h2;exact h2⟩
theorem zBu {d:Dr} (hg:OkG d.G) {a:Int} (h:a=0∨sS d.G (mL d.N) a=true):cQ (uW d) a=cQ d a:=by
 have hk:oL (uW d).G:=by rw [zHp hg.inc,wB];exact (NG hg (zI hg _)).inc
 cases hl:pR d a with
 | none =>
  have hno:=FT hl
  rw [jT hno,jT fun y hy=>hno y ((EN hg.inc).1 hy).1]
 | some y =>
  obtain ⟨h1,rfl⟩:=mE hl
  rcases h with h|h
  ·have:=hg.lo1 y.1 (rK h1);omega
  ·rw [iR hg.inc h1,iR hk ((EN hg.inc).2 ⟨h1,h⟩)]
theorem SZ {r:Rm} {d:Dr} (h:SimW r d) (hl:(uW d).L.length≤40):Sim ⟨r.N,jO r.L (mL r.N),CM (jO r.L (mL r.N)) r.E,r.x⟩ (uW d):=by
 have hG:=zHp h.g.inc
 have hcl:=zI h.g (mL d.N)
 have hpg:OkG (uW d).G:=by rw [hG,wB];exact NG h.g hcl
 have hm:∀ y,y∈(uW d).L↔y∈d.L∧sS d.G (mL d.N) y.1.i=true:=fun y=>EN h.g.inc
 have hnm:∀ n∈d.N,sS d.G (mL d.N) n.l=true:=fun n hn=>by
  obtain ⟨y,_,h1,h2⟩:=h.toOkW.named hn
  exact zI7 hn (by rw [← h2];exact rG (rK h1))
 refine { g:=hpg,t:=fun y hy=>h.t y ((hm y).1 hy).1,srt:=h.srt,nm:=fun n hn=>?_,one:=fun n hn m hmm e hfz=>?_,nx:=⟨fun y hy=>h.nx.1 y ((hm y).1 hy).1,h.nx.2⟩,ln:=h.ln,N:=h.N,L:=?_,x:=h.x,e:=fun y hy=>?_,kept:=fun y hy=>?_,len:=hl }
 ·obtain ⟨h1,y,h2,h3⟩:=h.nm n hn
  exact ⟨h1,y,(hm y).2 ⟨h2,by rw [h3];exact hnm n hn⟩,h3⟩
 ·exact h.one n hn m hmm e fun y h2 h3=>hfz y ((hm y).2 ⟨h2,by rw [h3];exact hnm n hn⟩) h3
 ·show jO r.L (mL r.N)=_
  rw [hG,h.L,h.N]
 ·obtain ⟨h1,h2⟩:=(hm y).1 hy
  show kT (CM _ r.E) y.1.i=_
  have:y.1∈jO r.L (mL r.N):=by
   rw [h.L,h.N,← hG]
   exact rK hy
  rw [XP this,h.e y h1]
  congr 1
  refine (zBu h.g ?_).symm
  rcases h.toOkW.below h1 with h3|⟨z,h3,h4,_⟩
  ·exact .inl h3
  ·exact .inr (by rw [← h4];exact hcl y.1 (rK h1) h2 z.1 (rK h3) (.inl h4))
 ·obtain ⟨h1,h2⟩:=(hm y).1 hy
  obtain ⟨n,h3,h4⟩:=zBf h2
  refine ⟨n,h3,?_⟩
  rw [hG,wB,zEb h.g hcl (hnm n h3)]
  exact h4
end
section
theorem zDa {a p:List UInt8} (ha:a≠[]) (h:aR p=a):aP a p=true:=dU ha (by rw [h];exact ha) (.inl h)
theorem zCk {t w:List It} {x:It} (ht:OkT t) (hx:x.p≠[]) (h:zDf t w x=true):∃ y∈t,aR y.p=x.p:=by
 unfold zDf at h
 simp only [Bool.and_eq_true,Bool.not_eq_true',decide_eq_false_iff_not] at h
 obtain ⟨⟨_,_,h1⟩,_⟩:=h
 have h2:0<(gP t x.p).length:=by omega
 rw [YH] at h2
 obtain ⟨y,hy⟩:=List.exists_mem_of_length_pos h2
 obtain ⟨h3,h4⟩:=List.mem_filter.1 hy
 exact ⟨y,h3,eq_of_beq h4⟩
theorem rT {t:List It} (ht:OkT t):dY t t=[]:=by
 obtain ⟨_,hm⟩:=lY ht ht
 refine List.eq_nil_iff_forall_not_mem.2 fun e he=>?_
 rcases (hm e).1 he with h|⟨y,hy,_,h,_⟩
 ·obtain ⟨x,hx,h⟩:=List.mem_flatMap.1 h
  have hg:=cW ht.srt hx
  unfold QJ at h
  split at h
  ·rename_i hi
   have hb:=DR ht hx hi
   obtain ⟨y,hy,hd⟩:=zCk ht (ht.ne x hx) hb
   unfold zDf at hb
   simp only [Bool.and_eq_true,Bool.not_eq_true'] at hb
   have:KK t t x.p=true:=List.any_eq_true.2 ⟨y,hy,by rw [oP hy,zDa (ht.ne x hx) hd];rfl⟩
   rw [this] at hb
   exact absurd hb.2 (by decide)
  ·rw [hg] at h
   simp only [Option.isSome_some,Option.getD_some,xJ,Bool.not_true,Bool.or_false,Bool.false_eq_true,if_false] at h
   cases h
 ·rw [oP hy] at h;cases h
end
section
theorem tX {r:Rm} {d:Dr} (h:SimW r d) {N:List Nm} (hs:AK N) (hn:∀ n∈N,bF n.n=true∧∃ y∈d.L,y.1.i=n.l)
  (h1:∀ n∈N,∀ m∈N,n.l=m.l→(∀ y∈d.L,y.1.i=n.l→y.1.f=false)→n=m) (hl:N.length≤20):SimW ⟨N,r.L,r.E,r.x⟩ ⟨d.L,N,d.x⟩ :=
 { g:=h.g,t:=h.t,srt:=hs,nm:=hn,one:=h1,nx:=h.nx,ln:=hl,N:=rfl,L:=h.L,x:=h.x,e:=h.e }
theorem oS {id:Int}:∀ {l:List (Ly × List It)},oL (l.map (·.1))→yZ id l=l.map fun y=>(zW id y.1,y.2)
 | [],_=>rfl
 | y::l,h=>by
  have h2:=List.pairwise_cons.1 h
  simp only [yZ,List.map_cons]
  split
  ·rename_i hy
   have hy:=eq_of_beq hy
   have e1:zW id y.1=⟨y.1.i,y.1.p,y.1.s,true⟩:=by unfold zW;rw [show (y.1.i == id)=true by simpa using hy,Bool.or_true]
   rw [e1]
   congr 1
   have key:∀ z∈l,(zW id z.1,z.2)=z:=fun z hz=>by
    have:y.1.i<z.1.i:=h2.1 z.1 (List.mem_map.2 ⟨z,hz,rfl⟩)
    unfold zW
    rw [show (z.1.i == id)=false by simp;omega,Bool.or_false]
   exact ((List.map_congr_left key).trans (List.map_id' l)).symm
  ·rename_i hy
   have e1:zW id y.1=y.1:=by unfold zW;rw [show (y.1.i == id)=false by simpa using hy,Bool.or_false]
   rw [e1,oS h2.2]
def zHC (d:Dr) (id:Int):Dr:=⟨yZ id d.L,d.N,d.x⟩
theorem zDt {d:Dr} (hi:oL d.G) (id:Int):(zHC d id).G=mX d.G id:=by
 show (yZ id d.L).map (·.1)=_
 rw [oS hi]
 unfold mX Dr.G
 rw [List.map_map,List.map_map]
 rfl
theorem vK {d:Dr} (hi:oL d.G) {id:Int} {y:Ly × List It} (h:y∈(zHC d id).L):∃ z∈d.L,y=(zW id z.1,z.2):=by
 have h:y∈yZ id d.L:=h
 rw [oS hi] at h
 obtain ⟨z,h1,h2⟩:=List.mem_map.1 h
 exact ⟨z,h1,h2.symm⟩
theorem gB {d:Dr} (hi:oL d.G) {id:Int} {z:Ly × List It} (h:z∈d.L):(zW id z.1,z.2)∈(zHC d id).L:=by
 show _∈yZ id d.L
 rw [oS hi]
 exact List.mem_map.2 ⟨z,h,rfl⟩
theorem EG {d:Dr} (h:OkW d) (id a:Int):cQ (zHC d id) a=cQ d a:=by
 have hi:oL (zHC d id).G:=by rw [zDt h.g.inc];exact (zGP h.g id).inc
 cases hl:pR d a with
 | none =>
  have hno:=FT hl
  rw [jT hno,jT fun y hy=>?_]
  obtain ⟨z,h1,rfl⟩:=vK h.g.inc hy
  exact hno z h1
 | some y =>
  obtain ⟨h1,rfl⟩:=mE hl
  rw [iR h.g.inc h1]
  exact iR hi (y:=(zW id y.1,y.2)) (gB h.g.inc (id:=id) h1)
theorem wR {r:Rm} {d:Dr} (h:SimW r d) (id:Int):SimW ⟨r.N,mX r.L id,r.E,r.x⟩ (zHC d id):=by
 refine { g:=by rw [zDt h.g.inc];exact zGP h.g id,t:=fun y hy=>?_,srt:=h.srt,nm:=fun n hn=>?_,one:=fun n hn m hm e hf=>?_,nx:=⟨fun y hy=>?_,h.nx.2⟩,ln:=h.ln,N:=h.N,L:=by rw [zDt h.g.inc,← h.L],x:=h.x,e:=fun y hy=>?_ }
 ·obtain ⟨z,h1,rfl⟩:=vK h.g.inc hy;exact h.t z h1
 ·obtain ⟨h1,y,h2,h3⟩:=h.nm n hn
  exact ⟨h1,_,gB h.g.inc (id:=id) h2,h3⟩
 ·refine h.one n hn m hm e fun y h2 h3=>?_
  have:=hf _ (gB h.g.inc (id:=id) h2) h3
  simp only [zW,Bool.or_eq_false_iff] at this
  exact this.1
 ·obtain ⟨z,h1,rfl⟩:=vK h.g.inc hy;exact h.nx.1 z h1
 ·obtain ⟨z,h1,rfl⟩:=vK h.g.inc hy
  show kT r.E z.1.i=dY (cQ (zHC d id) z.1.p) z.2
  rw [EG h.toOkW];exact h.e z h1
def iN (d:Dr) (s:List UInt8) (p q:Int) (t:List It):Dr:=⟨d.L++[(⟨d.x,p,q,false⟩,t)],bX d.N s d.x,d.x+1⟩
theorem vH (d:Dr) (s:List UInt8) (p q:Int) (t:List It):uY d s p q t=uW (iN d s p q t):=rfl
theorem RJ (d:Dr) (s:List UInt8) (p q:Int) (t:List It):(iN d s p q t).G=d.G++[⟨d.x,p,q,false⟩]:=by
 unfold iN Dr.G;rw [List.map_append];rfl
def AE (d:Dr) (p:Int):Prop:=∃ y∈d.L,y.1.i=p∧y.1.f=true
theorem tG {d:Dr} {p:Int} (h:AE d p):eS d.G d.G.length p:=by
 obtain ⟨y,h1,h2,h3⟩:=h
 obtain ⟨k,hk⟩:=List.mem_iff_getElem?.1 (rK h1)
 exact .inr ⟨k,y.1,(List.getElem?_eq_some_iff.1 hk).1,hk,h2,h3⟩
theorem KG {d:Dr} (h:OkW d) {s:List UInt8} {p q:Int} {t:List It} (hi:oL (iN d s p q t).G) (a:Int) (ha:a≠d.x):cQ (iN d s p q t) a=cQ d a:=by
 cases hl:pR d a with
 | none =>
  have hno:=FT hl
  rw [jT hno,jT fun y hy=>?_]
  rcases List.mem_append.1 (show y∈d.L++[_] from hy) with h1|h1
  ·exact hno y h1
  ·rw [List.mem_singleton] at h1;subst h1;exact fun e=>ha e.symm
 | some y =>
  obtain ⟨h1,rfl⟩:=mE hl
  rw [iR h.g.inc h1]
  exact iR hi (show y∈d.L++[_] from List.mem_append_left _ h1)
theorem HN {r:Rm} {d:Dr} (h:SimW r d) {s:List UInt8} {p q:Int} {t:List It} (hs:bF s=true) (hp:AE d p) (hq:q=0∨(p≠q∧AE d q)) (hc:(bO d.G p).length≤11) (ht:OkT t)
  (hx:d.x<2147483647) (hn:(bX d.N s d.x).length≤20):SimW ⟨bX r.N s r.x,r.L++[⟨r.x,p,q,false⟩],mW r.E r.x (dY (cQ d p) t),r.x+1⟩ (iN d s p q t):=by
 have hz:∀ x∈d.G,x.i<d.x:=fun x hx=>by
  obtain ⟨y,hy,rfl⟩:=EO.1 hx
  exact h.nx.1 y hy
 have hp1:1≤p∧p<d.x:=by
  obtain ⟨y,h1,rfl,_⟩:=hp
  exact ⟨h.g.lo1 _ (rK h1),h.nx.1 y h1⟩
 have hg:OkG (iN d s p q t).G:=by
  rw [RJ]
  refine zBa h.g hz ⟨h.nx.2.1,by have:=h.nx.2.2;simp only;omega⟩ (tG hp) ?_ (fun h0=>?_) hc
  ·rcases hq with rfl|⟨_,hq⟩
   ·exact .inl rfl
   ·exact tG hq
  ·rcases hq with rfl|⟨hq,_⟩
   ·exact absurd rfl h0
   ·exact ⟨by show p≠0;omega,hq⟩
 have hmem:∀ y,y∈(iN d s p q t).L↔y∈d.L∨y=(⟨d.x,p,q,false⟩,t):=fun y=>by
  show y∈d.L++[_]↔_
  rw [List.mem_append,List.mem_singleton]
 have hN:∀ n,n∈(iN d s p q t).N↔n=⟨s,d.x⟩∨(n∈d.N∧n.n≠s):=fun n=>rB h.srt
 have old:∀ n∈d.N,n.l≠d.x:=fun n hn e=>by
  obtain ⟨y,_,h1,h2⟩:=h.toOkW.named hn
  have:=h.nx.1 y h1
  omega
 refine { g:=hg,t:=fun y hy=>?_,srt:=nK h.srt s d.x,nm:=fun n hnn=>?_,one:=fun n hnn m hmm e hf=>?_,nx:=⟨fun y hy=>?_,by show 1≤d.x+1;have:=h.nx.2.1;omega,by show d.x+1≤2147483647;omega⟩,ln:=hn,N:=by show bX r.N s r.x=bX d.N s d.x;rw [h.N,h.x],L:=by rw [RJ,← h.L,← h.x],x:=by show r.x+1=d.x+1;rw [h.x],e:=fun y hy=>?_ }
 ·rcases (hmem y).1 hy with h1|rfl
  ·exact h.t y h1
  ·exact ht
 ·rcases (hN n).1 hnn with rfl|⟨h1,_⟩
  ·exact ⟨hs,_,(hmem _).2 (.inr rfl),rfl⟩
  ·obtain ⟨h2,y,h3,h4⟩:=h.nm n h1
   exact ⟨h2,y,(hmem y).2 (.inl h3),h4⟩
 ·rcases (hN n).1 hnn with rfl|⟨h1,h2⟩ <;> rcases (hN m).1 hmm with rfl|⟨h3,h4⟩
  ·rfl
  ·exact absurd e.symm (old m h3)
  ·exact absurd e (old n h1)
  ·exact h.one n h1 m h3 e fun y h5 h6=>hf y ((hmem y).2 (.inl h5)) h6
 ·show y.1.i<d.x+1
  rcases (hmem y).1 hy with h1|rfl
  ·have:=h.nx.1 y h1;omega
  ·simp only;omega
 ·show kT (mW r.E r.x _) y.1.i=_
  rcases (hmem y).1 hy with h1|rfl
  ·have hlt:=h.nx.1 y h1
   rw [oN _ _ (by rw [h.x];omega),h.e y h1,KG h.toOkW hg.inc]
   rcases h.toOkW.below h1 with h2|⟨z,h2,h3,_⟩
   ·rw [h2];have:=h.nx.2.1;omega
   ·rw [← h3];have:=h.nx.1 z h2;omega
  ·rw [h.x]
   simp only
   rw [qY,KG h.toOkW hg.inc p (by omega)]
def bQ (r:Rm) (s:List UInt8):Ly × Int:=match sV r.N s with
 | some n=>((eQ r.L n.l).getD ly0,0)
 | none=>(ly0,6)
def wsP (r:Rm) (s:List UInt8):Ly × Int:=if (bQ r s).2 == 0 && (bQ r s).1.f then (ly0,14) else bQ r s
def snP (r:Rm) (s:List UInt8):Ly × Int:=if (bQ r s).2 == 0 && !(bQ r s).1.f then (ly0,13) else bQ r s
def gG (r:Rm) (s:List UInt8):Int:=if !bF s then 1 else if NF r.N s then 7 else if decide (20≤(r.N.length:Int)) || (decide (40≤(r.L.length:Int)) || decide (2147483647≤r.x)) then 16 else 0
def gO (r:Rm) (on:Int):Int:=if decide (12≤((bO r.L on).length:Int)) then 15 else 0
def CL (r:Rm):Rm:=⟨r.N,jO r.L (mL r.N),CM (jO r.L (mL r.N)) r.E,r.x⟩
def ZJ (r:Rm) (s:List UInt8) (p q:Int) (es:List En):Rm:=CL ⟨bX r.N s r.x,r.L++[⟨r.x,p,q,false⟩],mW r.E r.x es,r.x+1⟩
def lP (r:Rm) (s sn:List UInt8):Rm × Int :=
 if !((wsP r s).2 == 0) then (r,(wsP r s).2) else if !(gG r sn == 0) then (r,gG r sn) else if !(gO r (wsP r s).1.i == 0) then (r,gO r (wsP r s).1.i)
 else (ZJ ⟨bX r.N sn (wsP r s).1.i,mX r.L (wsP r s).1.i,r.E,r.x⟩ s (wsP r s).1.i 0 [],0)
def LP (r:Rm) (sn s:List UInt8):Rm × Int :=
 if !((snP r sn).2 == 0) then (r,(snP r sn).2) else if !(gG r s == 0) then (r,gG r s) else if !(gO r (snP r sn).1.i == 0) then (r,gO r (snP r sn).1.i)
 else (ZJ r s (snP r sn).1.i 0 [],0)
def JK (r:Rm) (s:List UInt8):Rm × Int:=if !NF r.N s then (r,6) else (CL ⟨oB r.N s,r.L,r.E,r.x⟩,0)
theorem dF {r:Rm} {d:Dr} (h:SimW r d) {s:List UInt8} {n:Nm} (hn:sV d.N s=some n):∃ y∈d.L,bQ r s=(y.1,0)∧bN d.N s=y.1.i∧pR d y.1.i=some y∧y.1.i=n.l∧(y.1.i == 0)=false:=by
 obtain ⟨h1,h2⟩:=fC hn
 obtain ⟨y,h3,h4,h5⟩:=h.toOkW.named h1
 refine ⟨y,h4,?_,by unfold bN;rw [hn,h5],by rw [h5];exact h3,h5,?_⟩
 ·unfold bQ
  rw [h.N,hn]
  show ((eQ r.L n.l).getD ly0,(0:Int))=_
  rw [h.L,zG2,h3]
  rfl
 ·have:=h.g.lo1 _ (rK h4)
  simp only [beq_eq_false_iff_ne,ne_eq];omega
theorem dG {r:Rm} {d:Dr} (h:SimW r d) {s:List UInt8} (hn:sV d.N s=none):bQ r s=(ly0,6)∧(bN d.N s == 0)=true:=by
 refine ⟨by unfold bQ;rw [h.N,hn],?_⟩
 rw [h.toOkW.name0,hn];rfl
theorem iX {d:Dr} {y:Ly × List It} (h:pR d y.1.i=some y):gU d y.1.i=y.1.f:=by unfold gU;rw [h]
theorem eE {d:Dr} {y:Ly × List It} (h:pR d y.1.i=some y):cQ d y.1.i=y.2:=by unfold cQ;rw [h]
theorem oE {r:Rm} {d:Dr} (h:SimW r d) (s:List UInt8):gG r s=kK d s:=by
 unfold gG kK
 rw [h.toOkW.name0,DL,h.N,h.L,h.x,show d.G.length=d.L.length by simp [Dr.G],Bool.not_not]
theorem oU {d:Dr} {s:List UInt8} (h:(kK d s == 0)=true):bF s=true∧bN d.N s=0∧d.N.length<20∧d.L.length<40∧d.x<2147483647:=by
 unfold kK at h
 split at h
 ·cases h
 ·rename_i h1
  split at h
  ·cases h
  ·rename_i h2
   split at h
   ·cases h
   ·rename_i h3
    simp only [Bool.or_eq_true,decide_eq_true_eq,not_or,Bool.not_eq_true,Bool.not_eq_false',beq_iff_eq] at h1 h2 h3
    exact ⟨h1,h2,by omega,by omega,by omega⟩
theorem lM {r:Rm} {d:Dr} (h:SimW r d) (on:Int):(gO r on == 0) = !rJ d on:=by
 unfold gO rJ
 rw [h.L]
 by_cases hc:12≤(bO d.G on).length
 ·rw [if_pos (by simp;omega),show decide (12<(((bO d.G on).length:Int)+1))=true by simp;omega];rfl
 ·rw [if_neg (by simp;omega),show decide (12<(((bO d.G on).length:Int)+1))=false by simp;omega];rfl
theorem DY (r:Rm) (on:Int) (h:(gO r on == 0)=false):gO r on=15:=by
 unfold gO at h ⊢
 split at h
 ·rename_i h1;rw [if_pos h1]
 ·cases h
theorem oI {d:Dr} {on:Int} (h:rJ d on=false):(bO d.G on).length≤11:=by
 unfold rJ at h
 simp only [decide_eq_false_iff_not] at h
 omega
theorem FE {r:Rm} {d:Dr} (h:SimW r d) {s:List UInt8} {p q:Int} {t:List It} {es:List En} (hs:bF s=true) (hp:AE d p) (hq:q=0∨(p≠q∧AE d q)) (hc:(bO d.G p).length≤11) (ht:OkT t)
  (hx:d.x<2147483647) (hn:(bX d.N s d.x).length≤20) (he:es=dY (cQ d p) t) (hl:(uY d s p q t).L.length≤40):Sim (ZJ r s p q es) (uY d s p q t):=by
 subst he
 exact SZ (HN h hs hp hq hc ht hx hn) hl
theorem vX (d:Dr) (hi:oL d.G):(uW d).L.length≤d.L.length:=by
 show (WN d).length≤_
 rw [wG hi]
 exact List.length_filter_le _ _
theorem vL {d:Dr} (h:OkW d) (s:List UInt8) (p q:Int) (t:List It):oL (iN d s p q t).G:=by
 rw [RJ]
 exact GG h.g.inc fun x hx=>by
  obtain ⟨y,hy,rfl⟩:=EO.1 hx
  exact h.nx.1 y hy
theorem zEz {r:Rm} {d:Dr} (h:Sim r d) (sn s:List UInt8):(LP r sn s).2=(XU d sn s).2∧Sim (LP r sn s).1 (XU d sn s).1:=by
 unfold LP XU snP
 cases hn:sV d.N sn with
 | none =>
  obtain ⟨h1,h2⟩:=dG h.toSimW hn
  rw [h1,h2]
  exact ⟨rfl,h⟩
 | some n =>
  obtain ⟨y,hy,h1,h2,h3,h4,h5⟩:=dF h.toSimW hn
  rw [h1,h2,h5,iX h3,eE h3]
  cases hf:y.1.f
  ·exact ⟨rfl,h⟩
  ·rw [show ((0:Int) == 0 && !true)=false from rfl]
   simp only [Bool.false_eq_true,if_false,Bool.not_true]
   rw [show (!((0:Int) == 0))=false from rfl]
   simp only [Bool.false_eq_true,if_false]
   rw [oE h.toSimW]
   cases hfr:(kK d s == 0)
   ·exact ⟨rfl,h⟩
   ·simp only [Bool.not_true,Bool.false_eq_true,if_false]
    rw [lM h.toSimW,Bool.not_not]
    cases hd:rJ d y.1.i
    ·simp only [Bool.false_eq_true,if_false,true_and]
     obtain ⟨f1,f2,f3,f4,f5⟩:=oU hfr
     refine FE h.toSimW f1 ⟨y,hy,rfl,hf⟩ (.inl rfl) (oI hd) (h.t y hy) f5 (by have:=hY d.N s d.x;omega) ?_ ?_
     ·rw [eE h3,rT (h.t y hy)]
     ·have:=vX (iN d s y.1.i 0 y.2) (vL h.toOkW _ _ _ _)
      have e:(iN d s y.1.i 0 y.2).L.length=d.L.length+1:=by show (d.L++[_]).length=_;rw [List.length_append];rfl
      rw [vH];omega
    ·simp only [if_true]
     have:=DY r y.1.i (by rw [lM h.toSimW,hd];rfl)
     exact ⟨this,h⟩
theorem zGd {r:Rm} {d:Dr} (h:Sim r d) (s:List UInt8):(JK r s).2=(ZA d s).2∧Sim (JK r s).1 (ZA d s).1:=by
 unfold JK ZA
 rw [h.toOkW.name0,DL,← h.N]
 cases hn:NF r.N s
 ·exact ⟨rfl,h⟩
 ·simp only [Bool.not_true,Bool.false_eq_true,if_false,true_and]
  have hw:=tX h.toSimW (N:=oB d.N s) (LV h.srt s) (fun n hn=>h.nm n (zM.1 hn).1) (fun n hn m hm=>h.one n (zM.1 hn).1 m (zM.1 hm).1) (Nat.le_trans (MP _ _) h.ln)
  have e:r.N=d.N:=h.N
  rw [e]
  exact SZ hw (Nat.le_trans (vX _ hw.g.inc) h.len)
theorem YM {r:Rm} {d:Dr} (h:Sim r d) (s sn:List UInt8):(lP r s sn).2=(fH d s sn).2∧Sim (lP r s sn).1 (fH d s sn).1:=by
 unfold lP fH wsP
 cases hn:sV d.N s with
 | none =>
  obtain ⟨h1,h2⟩:=dG h.toSimW hn
  rw [h1,h2]
  exact ⟨rfl,h⟩
 | some n =>
  obtain ⟨y,hy,h1,h2,h3,h4,h5⟩:=dF h.toSimW hn
  rw [h1,h2,h5,iX h3,eE h3]
  cases hf:y.1.f
  rotate_left 1
  ·exact ⟨rfl,h⟩
  ·rw [show ((0:Int) == 0 && false)=false from rfl]
   simp only [Bool.false_eq_true,if_false]
   rw [show (!((0:Int) == 0))=false from rfl]
   simp only [Bool.false_eq_true,if_false]
   rw [oE h.toSimW]
   cases hfr:(kK d sn == 0)
   ·exact ⟨rfl,h⟩
   ·simp only [Bool.not_true,Bool.false_eq_true,if_false]
    rw [lM h.toSimW,Bool.not_not]
    cases hd:rJ d y.1.i
    ·simp only [Bool.false_eq_true,if_false,true_and]
     obtain ⟨f1,f2,f3,f4,f5⟩:=oU hfr
     have hwf:=wR h.toSimW y.1.i
     have hmem:∀ n,n∈bX d.N sn y.1.i↔n=⟨sn,y.1.i⟩∨(n∈d.N∧n.n≠sn):=fun n=>rB h.srt
     have hwn:=tX hwf (N:=bX d.N sn y.1.i) (nK h.srt sn y.1.i) (fun m hm=>?_) (fun a ha b hb e hfz=>?_) (by have:=hY d.N sn y.1.i;omega)
     ·have hcl:=hY d.N sn y.1.i
      have hwn:SimW ⟨bX d.N sn y.1.i,mX r.L y.1.i,r.E,r.x⟩ ⟨yZ y.1.i d.L,bX d.N sn y.1.i,d.x⟩:=hwn
      have hsn:bF s=true:=by
       obtain ⟨g1,g2⟩:=fC hn
       rw [← g2];exact (h.nm n g1).1
      have hfa:AE ⟨yZ y.1.i d.L,bX d.N sn y.1.i,d.x⟩ y.1.i:=⟨_,gB h.g.inc (id:=y.1.i) hy,rfl,by show (y.1.f || y.1.i == y.1.i)=true;simp⟩
      have hGeq:(⟨yZ y.1.i d.L,bX d.N sn y.1.i,d.x⟩:Dr).G=mX d.G y.1.i:=zDt h.g.inc y.1.i
      have hne:sn≠s:=fun e=>by
       subst e
       have:=h.toOkW.name0 sn
       rw [f2,hn] at this
       cases this
      have hin:(⟨n.n,n.l⟩:Nm)∈bX d.N sn y.1.i:=by
       obtain ⟨g1,g2⟩:=fC hn
       exact (hmem _).2 (.inr ⟨g1,by rw [g2];exact fun e=>hne e.symm⟩)
      have hlen2:(bX (bX d.N sn y.1.i) s d.x).length≤20:=by
       obtain ⟨g1,g2⟩:=fC hn
       rw [← g2,nY (nK h.srt sn y.1.i) hin]
       rw [List.length_set];omega
      have e0:cQ ⟨yZ y.1.i d.L,bX d.N sn y.1.i,d.x⟩ y.1.i=y.2:=(EG h.toOkW y.1.i y.1.i).trans (eE h3)
      rw [h.N]
      refine FE hwn hsn hfa (.inl rfl) (by rw [hGeq,wL];exact oI hd) (h.t y hy) f5 hlen2 ?_ ?_
      ·show []=dY (cQ ⟨yZ y.1.i d.L,bX d.N sn y.1.i,d.x⟩ y.1.i) y.2
       rw [e0,rT (h.t y hy)]
      ·have h7:=vX (iN ⟨yZ y.1.i d.L,bX d.N sn y.1.i,d.x⟩ s y.1.i 0 y.2) (vL hwn.toOkW _ _ _ _)
       have e:(iN ⟨yZ y.1.i d.L,bX d.N sn y.1.i,d.x⟩ s y.1.i 0 y.2).L.length=d.L.length+1:=by
        show (yZ y.1.i d.L++[_]).length=_
        rw [List.length_append,oS h.g.inc,List.length_map];rfl
       rw [vH];omega
     ·rcases (hmem m).1 hm with rfl|⟨g1,_⟩
      ·exact ⟨f1,_,gB h.g.inc (id:=y.1.i) hy,rfl⟩
      ·exact hwf.nm m g1
     ·have hfz2:∀ z∈d.L,z.1.i=a.l→z.1.i≠y.1.i∧z.1.f=false:=fun z hz hza=>by
       have:=hfz _ (gB h.g.inc (id:=y.1.i) hz) hza
       simp only [zW,Bool.or_eq_false_iff] at this
       exact ⟨by simpa using this.2,this.1⟩
      rcases (hmem a).1 ha with rfl|⟨g1,_⟩ <;> rcases (hmem b).1 hb with rfl|⟨g2,_⟩
      ·rfl
      ·exact absurd rfl (hfz2 y hy rfl).1
      ·exact absurd rfl (hfz2 y hy e.symm).1
      ·exact h.one a g1 b g2 e fun z hz hza=>(hfz2 z hz hza).2
    ·simp only [if_true]
     have:=DY r y.1.i (by rw [lM h.toSimW,hd];rfl)
     exact ⟨this,h⟩
end
section
theorem zHt {t:List It} {c:Cl} (h:(doP t c).2.e≠0):(doP t c).1=t:=by
 unfold doP at h ⊢
 split
 ·rfl
 ·rename_i h1
  rw [if_neg h1] at h
  split
  ·rfl
  ·rename_i h2
   rw [if_neg h2] at h
   split
   ·rfl
   ·rename_i h3
    rw [if_neg h3] at h
    split
    ·rename_i h4
     rw [if_pos h4] at h
     exact absurd rfl h
    ·rfl
end
end Go.Dm
