/- Part 26 of the proof of roomAsks_card, set without needless blanks. No condition. -/
import Derived.Test.YtlbfnbldeefgmaaGreatDoorA24
set_option linter.all false
section
namespace Go.Dm
open Go
def DZ (l:List Ly) (p:Int→Bool):Prop:=∀ x∈l,p x.i=true→∀ y∈l,(y.i=x.p∨y.i=x.s)→p y.i=true
def mP (l:List Ly) (p:Int→Bool):List Ly:=l.filter fun x=>p x.i
theorem dX {l:List Ly} {p:Int→Bool} {x:Ly}:x∈mP l p↔x∈l∧p x.i=true:=by unfold mP;rw [List.mem_filter]
theorem zJA {l:List Ly} (h:oE l) {x y:Ly} (hx:x∈l) (hy:y∈l) (e:x.i=y.i):x=y:=by
 have h1:=lO h hx;have h2:=lO h hy;rw [e,h2] at h1;exact (Option.some.inj h1).symm
theorem pX {l:List Ly} {p:Int→Bool} (hi:oE l) {k q:Nat} {x:Ly} {id:Int} (hx:l[k]? = some x) (hq:(mP l p)[q]? = some x) (hc:∀ y∈l,y.i=id→p y.i=true) (h:eZ l k id):eZ (mP l p) q id:=by
 rcases h with h|⟨j,y,h1,h2,h3,h4⟩
 ·exact .inl h
 ·right;have hy:=List.mem_of_getElem? h2;have hm:y∈mP l p:=dX.2 ⟨hy,hc y hy h3⟩;obtain ⟨j',hj'⟩:=List.mem_iff_getElem?.1 hm;refine ⟨j',y,?_,hj',h3,h4⟩;have hlt:=VX hi h2 hx h1;have hip:oE (mP l p):=List.Pairwise.sublist List.filter_sublist hi;rcases Nat.lt_trichotomy j' q with h|h|h
  ·exact h
  ·subst h;rw [hq] at hj';cases hj';omega
  ·have:=VX hip hq hj' h;omega
theorem ZZ {l:List Ly} {p:Int→Bool} (hg:OkG l) (hc:DZ l p):∀ (k:Nat) {x:Ly},l[k]? = some x→p x.i=true→bQ (mP l p) x.i=bQ l x.i:=by
 have hip:oE (mP l p):=List.Pairwise.sublist List.filter_sublist hg.inc;have hlo:∀ x∈mP l p,1≤x.i:=fun x hx=>hg.lo1 x (dX.1 hx).1;have hpar:∀ q x,(mP l p)[q]? = some x→eZ (mP l p) q x.p:=fun q x hq=>by
  obtain ⟨h1,h2⟩:=dX.1 (List.mem_of_getElem? hq);obtain ⟨k,hk⟩:=List.mem_iff_getElem?.1 h1;exact pX hg.inc hk hq (fun y hy e=>hc x h1 h2 y hy (.inl e)) (hg.par k x hk)
 intro k
 induction k using Nat.strongRecOn with
 | ind k ih =>
  intro x hx hp;have hm:=List.mem_of_getElem? hx;rw [sX hip hlo hpar (dX.2 ⟨hm,hp⟩),hg.step hm]
  congr 1
  rcases hg.par k x hx with h0|⟨j,y,h1,h2,h3,_⟩
  ·rw [h0,oI hlo,oI hg.lo1]
  ·rw [← h3];exact ih j h1 h2 (hc x hm hp y (List.mem_of_getElem? h2) (.inl h3))
theorem RX {l:List Ly} {p:Int→Bool} (hg:OkG l) (hc:DZ l p):OkG (mP l p):=by
 have at_:∀ (q:Nat) (x:Ly),(mP l p)[q]? = some x→∃ k,l[k]? = some x∧p x.i=true:=fun q x hq=>by
  obtain ⟨h1,h2⟩:=dX.1 (List.mem_of_getElem? hq);obtain ⟨k,hk⟩:=List.mem_iff_getElem?.1 h1;exact ⟨k,hk,h2⟩
 refine OkG.mk (List.Pairwise.sublist List.filter_sublist hg.inc) (fun x hx=>hg.lo x (dX.1 hx).1) (fun q x hq=>?_) (fun q x hq=>?_) (fun x hx=>hg.two x (dX.1 hx).1) (fun x hx=>?_)
 ·obtain ⟨k,hk,hp⟩:=at_ q x hq;exact pX hg.inc hk hq (fun y hy e=>hc x (List.mem_of_getElem? hk) hp y hy (.inl e)) (hg.par k x hk)
 ·obtain ⟨k,hk,hp⟩:=at_ q x hq;exact pX hg.inc hk hq (fun y hy e=>hc x (List.mem_of_getElem? hk) hp y hy (.inr e)) (hg.sec k x hk)
 ·obtain ⟨h1,h2⟩:=dX.1 hx;obtain ⟨k,hk⟩:=List.mem_iff_getElem?.1 h1;rw [ZZ hg hc k hk h2];exact hg.chn x h1
theorem zHa {l:List Ly} {p:Int→Bool} (hg:OkG l) (hc:DZ l p) {id:Int} (hid:p id=true):sO (mP l p) id=sO l id:=by
 have hpg:=RX hg hc;refine QZ (EE hpg.inc id) (EE hg.inc id) fun a=>⟨fun ha=>?_,fun ha=>?_⟩
 ·refine sU (l:=mP l p) (C:=(·∈sO l id)) (fun x hx e=>?_) (fun x hx hcx y hy hp=>EF hg (dX.1 hx).1 (dX.1 hy).1 hcx hp) a ha
  rw [← e];exact qO (dX.1 hx).1
 ·refine sU (l:=l) (C:=(·∈sO (mP l p) id)) (fun x hx e=>?_) (fun x hx hcx y hy hp=>?_) a ha
  ·rw [← e];exact qO (dX.2 ⟨hx,by rw [e];exact hid⟩)
  ·obtain ⟨z,hz,e⟩:=zFi hcx;obtain rfl:=zJA hg.inc (dX.1 hz).1 hx e;exact EF hpg hz (dX.2 ⟨hy,hc z hx (dX.1 hz).2 y hy hp⟩) hcx hp
def yH (l:List Ly) (ids:List Int) (a:Int):Bool:=ids.any fun id=>(sO l id).contains a
theorem wC (l:List Ly) (ids:List Int):iU l ids=mP l (yH l ids):=rfl
theorem yI {l:List Ly} (hg:OkG l) (ids:List Int):DZ l (yH l ids):=fun x hx hp y hy h=>by
 unfold yH at hp ⊢;obtain ⟨id,h1,h2⟩:=List.any_eq_true.1 hp;refine List.any_eq_true.2 ⟨id,h1,?_⟩;rw [List.contains_iff_mem] at h2 ⊢;exact EF hg hx hy h2 h
def AN (id:Int) (x:Ly):Ly:=⟨x.i,x.p,x.s,x.f || x.i == id⟩
def mQ (l:List Ly) (id:Int):List Ly:=l.map (AN id)
theorem zGz (l:List Ly) (id a:Int):eF (mQ l id) a=(eF l a).map (AN id):=by
 unfold eF mQ
 induction l with
 | nil=>rfl
 | cons x l ih =>
  rw [List.map_cons,List.find?_cons,List.find?_cons];show (match (x.i == a) with|true=>_|false=>_)=_
  cases x.i == a
  ·exact ih
  ·rfl
theorem BU (l:List Ly) (id:Int):∀ (n:Nat) (a:Int),dY (mQ l id) n a=dY l n a
 | 0,_=>rfl
 | n+1,a=>by
  simp only [dY,zGz];cases eF l a with
  | none=>rfl
  | some x=>simp only [Option.map_some,AN];rw [BU l id n x.p]
theorem xY (l:List Ly) (id a:Int):bQ (mQ l id) a=bQ l a:=by
 unfold bQ;rw [BU,show (mQ l id).length=l.length by simp [mQ]]
theorem BV {l:List Ly} {id:Int} {k:Nat} {a:Int} (h:eZ l k a):eZ (mQ l id) k a:=by
 rcases h with h|⟨j,y,h1,h2,h3,h4⟩
 ·exact .inl h
 ·exact .inr ⟨j,AN id y,h1,by unfold mQ;rw [List.getElem?_map,h2];rfl,h3,by show (y.f || _)=true;rw [h4];rfl⟩
theorem zIi {l:List Ly} {id:Int} {k:Nat} {x:Ly} (h:(mQ l id)[k]? = some x):∃ y,l[k]? = some y∧x=AN id y:=by
 unfold mQ at h;rw [List.getElem?_map] at h;obtain ⟨y,h1,h2⟩:=Option.map_eq_some_iff.1 h;exact ⟨y,h1,h2.symm⟩
theorem QS {l:List Ly} {id:Int} {x:Ly} (h:x∈mQ l id):∃ y∈l,x=AN id y:=by
 unfold mQ at h;obtain ⟨y,h1,h2⟩:=List.mem_map.1 h;exact ⟨y,h1,h2.symm⟩
theorem zIj {l:List Ly} (hg:OkG l) (id:Int):OkG (mQ l id):=by
 refine ⟨?_,fun x hx=>?_,fun k x hx=>?_,fun k x hx=>?_,fun x hx=>?_,fun x hx=>?_⟩
 ·unfold oE mQ;rw [List.pairwise_map];exact hg.inc
 ·obtain ⟨y,h1,rfl⟩:=QS hx;exact hg.lo y h1
 ·obtain ⟨y,h1,rfl⟩:=zIi hx;exact BV (hg.par k y h1)
 ·obtain ⟨y,h1,rfl⟩:=zIi hx;exact BV (hg.sec k y h1)
 ·obtain ⟨y,h1,rfl⟩:=QS hx;exact hg.two y h1
 ·obtain ⟨y,h1,rfl⟩:=QS hx;rw [xY];exact hg.chn y h1
theorem gN {l:List Ly} {z:Ly} {k:Nat} {a:Int} (h:eZ l k a):eZ (l++[z]) k a:=by
 rcases h with h|⟨j,y,h1,h2,h3,h4⟩
 ·exact .inl h
 ·exact .inr ⟨j,y,h1,by rw [List.getElem?_append_left (List.getElem?_eq_some_iff.1 h2).1];exact h2,h3,h4⟩
theorem FG {l:List Ly} {z:Ly} (h:oE l) (hz:∀ x∈l,x.i<z.i):oE (l++[z]) :=
 List.pairwise_append.2 ⟨h,List.pairwise_singleton _ _,fun a ha b hb=>by rw [List.mem_singleton] at hb;subst hb;exact hz a ha⟩
theorem BX {l:List Ly} {z:Ly} (hg:OkG l) (hz:∀ x∈l,x.i<z.i) (hz1:1≤z.i) (hzp:eZ l l.length z.p) {x:Ly} (hx:x∈l):bQ (l++[z]) x.i=bQ l x.i:=by
 obtain ⟨k,hk⟩:=List.mem_iff_getElem?.1 hx;have hlt:=(List.getElem?_eq_some_iff.1 hk).1;have hi:=FG hg.inc hz;have hlo:∀ x∈l++[z],1≤x.i:=fun x hx=>by
  rcases List.mem_append.1 hx with h|h
  ·exact hg.lo1 x h
  ·rw [List.mem_singleton] at h;subst h;exact hz1
 have hp:∀ k x,(l++[z])[k]? = some x→eZ (l++[z]) k x.p:=fun k x hx=>by
  rcases Nat.lt_or_ge k l.length with h|h
  ·rw [List.getElem?_append_left h] at hx;exact gN (hg.par k x hx)
  ·have hk2:k=l.length:=by
    have:=(List.getElem?_eq_some_iff.1 hx).1;simp only [List.length_append,List.length_cons,List.length_nil] at this;omega
   subst hk2;rw [List.getElem?_append_right (Nat.le_refl _),Nat.sub_self] at hx;cases hx;exact gN hzp
 have h1:=oH hi hlo hp k (j:=l.length) (n:=l.length+1) (m:=(l++[z]).length+1) (by rw [List.getElem?_append_left hlt];exact hk) hlt (by omega) (by simp;omega);unfold bQ;rw [← h1,List.take_left'];rfl
theorem zJw {l:List Ly} {z:Ly} (hg:OkG l) (hz:∀ x∈l,x.i<z.i) (hz1:1≤z.i∧z.i≤2147483647) (hzp:eZ l l.length z.p) (hzs:eZ l l.length z.s) (h2:z.s≠0→z.p≠0∧z.p≠z.s) (hc:(bQ l z.p).length≤11):OkG (l++[z]):=by
 have at_:∀ {k:Nat} {x:Ly},(l++[z])[k]? = some x→l[k]? = some x∨(k=l.length∧x=z):=fun {k x} hx=>by
  rcases Nat.lt_or_ge k l.length with h|h
  ·rw [List.getElem?_append_left h] at hx;exact .inl hx
  ·have hk2:k=l.length:=by
    have:=(List.getElem?_eq_some_iff.1 hx).1;simp only [List.length_append,List.length_cons,List.length_nil] at this;omega
   subst hk2;rw [List.getElem?_append_right (Nat.le_refl _),Nat.sub_self] at hx;cases hx;exact .inr ⟨rfl,rfl⟩
 have hi:=FG hg.inc hz;have hlo:∀ x∈l++[z],1≤x.i∧x.i≤2147483647:=fun x hx=>by
  rcases List.mem_append.1 hx with h|h
  ·exact hg.lo x h
  ·rw [List.mem_singleton] at h;subst h;exact hz1
 have hp:∀ k x,(l++[z])[k]? = some x→eZ (l++[z]) k x.p:=fun k x hx=>by
  rcases at_ hx with h|⟨rfl,rfl⟩
  ·exact gN (hg.par k x h)
  ·exact gN hzp
 refine ⟨hi,hlo,hp,fun k x hx=>?_,fun x hx=>?_,fun x hx=>?_⟩
 ·rcases at_ hx with h|⟨rfl,rfl⟩
  ·exact gN (hg.sec k x h)
  ·exact gN hzs
 ·rcases List.mem_append.1 hx with h|h
  ·exact hg.two x h
  ·rw [List.mem_singleton] at h;subst h;exact h2
 ·rcases List.mem_append.1 hx with h|h
  ·rw [BX hg hz hz1.1 hzp h];exact hg.chn x h
  ·rw [List.mem_singleton] at h;subst h;rw [sX hi (fun x hx=>(hlo x hx).1) hp hx,List.length_append];have:(bQ (l++[x]) x.p).length≤11:=by
    rcases hzp with h0|⟨j,y,_,h4,h5,_⟩
    ·rw [h0,oI fun x hx=>(hlo x hx).1];simp
    ·rw [← h5,BX hg hz hz1.1 (.inr ⟨j,y,(List.getElem?_eq_some_iff.1 h4).1,h4,h5,by assumption⟩) (List.mem_of_getElem? h4),h5];exact hc
   simp only [List.length_cons,List.length_nil];omega
end Go.Dm
end
section
namespace Go.Dm
open Go
structure OkW (d:Dr):Prop where
 g:OkG d.G
 t:∀ y∈d.L,OkT y.2
 srt:HQ d.N
 nm:∀ n∈d.N,aW n.n=true∧∃ y∈d.L,y.1.i=n.l
 one:∀ n∈d.N,∀ m∈d.N,n.l=m.l→(∀ y∈d.L,y.1.i=n.l→y.1.f=false)→n=m
 nx:(∀ y∈d.L,y.1.i<d.x)∧1≤d.x∧d.x≤2147483647
 ln:d.N.length≤20
structure SimW (r:Rm) (d:Dr):Prop extends OkW d where
 N:r.N=d.N
 L:r.L=d.G
 x:r.x=d.x
 e:∀ y∈d.L,jP r.E y.1.i=fX (dE d y.1.p) y.2
structure Sim (r:Rm) (d:Dr):Prop extends SimW r d where
 kept:∀ y∈d.L,∃ n∈d.N,y.1.i∈sO d.G n.l
 len:d.L.length≤40
theorem RQ {d:Dr} {x:Ly}:x∈d.G↔∃ y∈d.L,y.1=x:=by unfold Dr.G;rw [List.mem_map]
theorem qK {d:Dr} {y:Ly × List It} (h:y∈d.L):y.1∈d.G:=RQ.2 ⟨y,h,rfl⟩
theorem iJ {d:Dr} (hi:oE d.G) {y:Ly × List It} (hy:y∈d.L):dE d y.1.i=y.2:=by unfold dE;rw [nK hi hy]
theorem jY {d:Dr} {id:Int} (h:∀ y∈d.L,y.1.i≠id):dE d id=[]:=by
 unfold dE;cases hl:tO d id with
 | none=>rfl
 | some y=>obtain ⟨h1,h2⟩:=lQ hl;exact absurd h2 (h y h1)
theorem OkW.tree {d:Dr} (h:OkW d) (id:Int):OkT (dE d id):=by
 unfold dE;cases hl:tO d id with
 | none=>exact OkT.nil
 | some y=>exact h.t y (lQ hl).1
theorem OkW.zero {d:Dr} (h:OkW d):dE d 0=[]:=jY fun y hy e=>by have:=h.g.lo1 y.1 (qK hy);omega
theorem SimW.tree {r:Rm} {d:Dr} (h:SimW r d) (id:Int):FB r id=(dE d id,true):=by
 cases hl:tO d id with
 | none =>
  have hno:=FR hl;rw [jY hno];unfold FB lR bQ;rw [h.L,iK]
  ·rfl
  ·rw [zIh,hl];rfl
 | some y =>
  obtain ⟨h1,rfl⟩:=lQ hl;have hm:y.1∈r.L:=by rw [h.L];exact qK h1
  obtain ⟨k,hk⟩:=List.mem_iff_getElem?.1 hm;refine YX (by rw [h.L];exact h.g) (dE d) h.toOkW.zero (fun x _=>h.toOkW.tree x.i) (fun x hx=>?_) k hk;rw [h.L] at hx;obtain ⟨z,hz,rfl⟩:=RQ.1 hx;rw [h.e z hz,iJ h.g.inc hz]
theorem SimW.treeR {r:Rm} {d:Dr} (h:SimW r d) (id:Int):treeR r id=dE d id:=by unfold Dm.treeR;rw [h.tree]
theorem OkW.named {d:Dr} (h:OkW d) {n:Nm} (hn:n∈d.N):∃ y,tO d n.l=some y∧y∈d.L∧y.1.i=n.l:=by
 obtain ⟨_,y,h1,h2⟩:=h.nm n hn;exact ⟨y,by rw [← h2];exact nK h.g.inc h1,h1,h2⟩
theorem OkW.name0 {d:Dr} (h:OkW d) (s:List UInt8):(gH d.N s == 0) = !(GD d.N s).isSome:=by
 unfold gH;cases hn:GD d.N s with
 | none=>rfl
 | some n =>
  obtain ⟨h1,h2⟩:=iH hn;obtain ⟨y,_,h3,h4⟩:=h.named h1;have:=h.g.lo1 y.1 (qK h3);simp only [Option.isSome_some,Bool.not_true,beq_eq_false_iff_ne,ne_eq];omega
theorem zMr (d:Dr) (id:Int) (t:List It):(mC d id t).G=d.G:=by
 unfold mC Dr.G;have:∀ l:List (Ly × List It),(AK id t l).map (·.1)=l.map (·.1):=by
  intro l
  induction l with
  | nil=>rfl
  | cons y l ih =>
   simp only [AK];split
   ·rfl
   ·simp only [List.map_cons,ih]
 exact this d.L
theorem sL {id:Int} {t:List It} {y:Ly × List It}:∀ {l:List (Ly × List It)},y∈AK id t l→(y∈l)∨(y.1.i=id∧y.2=t∧∃ z∈l,z.1=y.1)
 | [],h=>by cases h
 | z::l,h=>by
  simp only [AK] at h;split at h
  ·rename_i hz;rcases List.mem_cons.1 h with rfl|h
   ·exact .inr ⟨by simpa using hz,rfl,z,List.mem_cons_self,rfl⟩
   ·exact .inl (List.mem_cons_of_mem _ h)
  ·rcases List.mem_cons.1 h with rfl|h
   ·exact .inl List.mem_cons_self
   ·rcases sL h with h|⟨h1,h2,w,h3,h4⟩
    ·exact .inl (List.mem_cons_of_mem _ h)
    ·exact .inr ⟨h1,h2,w,List.mem_cons_of_mem _ h3,h4⟩
theorem XL (d:Dr) (id:Int) (t:List It) (a:Int):tO (mC d id t) a=if a=id then (tO d a).map (fun y=>(y.1,t)) else tO d a:=by
 unfold tO mC;have:∀ l:List (Ly × List It),(AK id t l).find? (fun y=>y.1.i == a)=if a=id then (l.find? fun y=>y.1.i == a).map (fun y=>(y.1,t)) else l.find? fun y=>y.1.i == a:=by
  intro l
  induction l with
  | nil=>simp [AK]
  | cons y l ih =>
   simp only [AK];split
   ·rename_i hy;have hy:=eq_of_beq hy;rw [List.find?_cons,List.find?_cons];by_cases ha:a=id
    ·subst ha;rw [if_pos rfl,show (y.1.i == a)=true by rw [hy];simp]
     rfl
    ·rw [if_neg ha,show (y.1.i == a)=false by rw [hy];simpa using fun e=>ha e.symm]
   ·rename_i hy;rw [List.find?_cons,List.find?_cons,ih];by_cases ha:a=id
    ·subst ha;rw [if_pos rfl,if_pos rfl,show (y.1.i == a)=false by simpa using hy]
    ·rw [if_neg ha,if_neg ha]
 exact this d.L
theorem zE3 {d:Dr} {id:Int} {t:List It} (h:(tO d id).isSome=true) (a:Int):dE (mC d id t) a=if a=id then t else dE d a:=by
 unfold dE;rw [XL];by_cases ha:a=id
 ·subst ha;rw [if_pos rfl,if_pos rfl];obtain ⟨y,hy⟩:=Option.isSome_iff_exists.1 h;rw [hy];rfl
 ·rw [if_neg ha,if_neg ha]
theorem PB {d:Dr} (hi:oE d.G) (id:Int):mC d id (dE d id)=d:=by
 unfold mC;have key:∀ (l:List (Ly × List It)) (t:List It),oE (l.map (·.1))→(∀ y∈l,y.1.i=id→y.2=t)→AK id t l=l:=by
  intro l t
  induction l with
  | nil=>intro _ _;rfl
  | cons y l ih =>
   intro hp h;have h2:=List.pairwise_cons.1 hp;simp only [AK];split
   ·rename_i hy;rw [← h y List.mem_cons_self (eq_of_beq hy)]
   ·rw [ih h2.2 fun z hz=>h z (List.mem_cons_of_mem _ hz)]
 rw [key d.L (dE d id) hi fun y hy e=>by rw [← e,iJ hi hy]]
theorem OkW.below {d:Dr} (h:OkW d) {y:Ly × List It} (hy:y∈d.L):y.1.p=0∨∃ z∈d.L,z.1.i=y.1.p∧z.1.f=true∧z.1.i<y.1.i:=by
 obtain ⟨k,hk⟩:=List.mem_iff_getElem?.1 (qK hy);rcases h.g.par k _ hk with h0|⟨j,x,h1,h2,h3,h4⟩
 ·exact .inl h0
 ·obtain ⟨z,hz,rfl⟩:=RQ.1 (List.mem_of_getElem? h2);exact .inr ⟨z,hz,h3,h4,VX h.g.inc h2 hk h1⟩
theorem zLu {d:Dr} (h:oE d.G) {x y:Ly × List It} (hx:x∈d.L) (hy:y∈d.L) (e:x.1.i=y.1.i):x=y:=by
 have h1:=nK h hx;rw [e,nK h hy] at h1;exact (Option.some.inj h1).symm
theorem zKa {r:Rm} {d:Dr} (h:Sim r d) {y:Ly × List It} (hy:y∈d.L) (hf:y.1.f=false) {t:List It} (ht:OkT t):
  Sim ⟨r.N,r.L,pZ r.E y.1.i (fX (dE d y.1.p) t),r.x⟩ (mC d y.1.i t):=by
 have hG:=zMr d y.1.i t;have hso:(tO d y.1.i).isSome=true:=by rw [nK h.g.inc hy];rfl
 have frame:∀ z∈(mC d y.1.i t).L,∃ z0∈d.L,z0.1=z.1:=fun z hz=>by
  rcases sL hz with h1|⟨_,_,w,h1,h2⟩
  ·exact ⟨z,h1,rfl⟩
  ·exact ⟨w,h1,h2⟩
 have back:∀ z0∈d.L,∃ z∈(mC d y.1.i t).L,z.1=z0.1:=fun z0 hz0=>by
  have:=qK hz0;rw [← hG] at this;exact RQ.1 this
 refine { g:=by rw [hG];exact h.g,t:=fun z hz=>?_,srt:=h.srt,nm:=fun n hn=>?_,one:=fun n hn m hm e hfz=>?_,nx:=⟨fun z hz=>?_,h.nx.2⟩,ln:=h.ln,N:=h.N,L:=by rw [hG];exact h.L,x:=h.x,e:=fun z hz=>?_,kept:=fun z hz=>?_,len:=?_ }
 ·rcases sL hz with h1|⟨_,h2,_⟩
  ·exact h.t z h1
  ·rw [h2];exact ht
 ·obtain ⟨h1,z0,h2,h3⟩:=h.nm n hn;obtain ⟨z,h4,h5⟩:=back z0 h2;exact ⟨h1,z,h4,by rw [h5];exact h3⟩
 ·refine h.one n hn m hm e fun z0 h2 h3=>?_;obtain ⟨z,h4,h5⟩:=back z0 h2;rw [← h5];exact hfz z h4 (by rw [h5];exact h3)
 ·obtain ⟨z0,h1,h2⟩:=frame z hz;rw [← h2];exact h.nx.1 z0 h1
 ·obtain ⟨z0,h1,h2⟩:=frame z hz;have hp:dE (mC d y.1.i t) z.1.p=dE d z.1.p:=by
   rw [zE3 hso,if_neg];intro e;rcases h.toOkW.below h1 with h3|⟨w,h3,h4,h5,_⟩
   ·rw [h2,e] at h3;have:=h.g.lo1 y.1 (qK hy);omega
   ·rw [h2,e] at h4;rw [zLu h.g.inc h3 hy h4,hf] at h5;cases h5
  rw [hp];by_cases hzi:z.1.i=y.1.i
  ·show jP (pZ r.E y.1.i _) z.1.i=_;have hz0y:z0=y:=zLu h.g.inc h1 hy (by rw [h2];exact hzi);subst hz0y;rw [hzi,rT,← h2]
   congr 1
   rcases sL hz with h3|⟨_,h4,_⟩
   ·have hlz:=nK (d:=mC d z0.1.i t) (by rw [hG];exact h.g.inc) hz;rw [XL,if_pos hzi,hzi,nK h.g.inc hy] at hlz;simp only [Option.map_some,Option.some.injEq] at hlz;rw [← hlz]
   ·exact h4.symm
  ·show jP (pZ r.E y.1.i _) z.1.i=_;rw [oT _ _ hzi];rcases sL hz with h3|⟨h4,_⟩
   ·exact h.e z h3
   ·exact absurd h4 hzi
 ·obtain ⟨z0,h1,h2⟩:=frame z hz;rw [hG,← h2];exact h.kept z0 h1
 ·have:(mC d y.1.i t).L.length=d.L.length:=by
   have:=congrArg List.length hG;simpa [Dr.G] using this
  rw [this];exact h.len
def BK (L:List Ly) (E:List (Int × List En)):List (Int × List En):=L.foldl (fun k l=>pZ k l.i (jP E l.i)) []
theorem JA (E:List (Int × List En)):∀ (L:List Ly) (K:List (Int × List En)) (a:Int),jP (L.foldl (fun k l=>pZ k l.i (jP E l.i)) K) a=if L.any (fun x=>x.i == a) then jP E a else jP K a
 | [],K,a=>rfl
 | x::L,K,a=>by
  rw [List.foldl_cons,JA E L,List.any_cons];by_cases hL:L.any (fun x=>x.i == a)=true
  ·rw [if_pos hL,if_pos (by rw [hL];simp)]
  ·rw [if_neg hL];by_cases hx:x.i=a
   ·subst hx;rw [rT,if_pos (by simp)]
   ·rw [oT _ _ (fun e=>hx e.symm),if_neg];simp [hx];simpa using hL
theorem XZ {L:List Ly} {E:List (Int × List En)} {x:Ly} (h:x∈L):jP (BK L E) x.i=jP E x.i:=by
 unfold BK;rw [JA,if_pos];exact List.any_eq_true.2 ⟨x,h,by simp⟩
def mM (N:List Nm):List Int:=N.map (·.l)
theorem FN {d:Dr} (hi:oE d.G):zDf d=d.L.filter fun y=>yH d.G (mM d.N) y.1.i:=by
 have key:∀ (l:List (Ly × List It)) (p:Int→Bool),(∀ y∈l,tO d y.1.i=some y)→((l.map (·.1)).filter fun x=>p x.i).filterMap (fun y=>tO d y.i)=l.filter fun y=>p y.1.i:=by
  intro l p
  induction l with
  | nil=>intro _;rfl
  | cons y l ih =>
   intro h;rw [List.map_cons,List.filter_cons,List.filter_cons];split
   ·rw [List.filterMap_cons,h y List.mem_cons_self,ih fun z hz=>h z (List.mem_cons_of_mem _ hz)]
   ·exact ih fun z hz=>h z (List.mem_cons_of_mem _ hz)
 exact key d.L (yH d.G (mM d.N)) fun y hy=>nK hi hy
theorem zIl {d:Dr} (hi:oE d.G):(yG d).G=iU d.G (mM d.N):=by
 show (zDf d).map (·.1)=_
 rw [FN hi,wC];unfold mP Dr.G;rw [List.filter_map];rfl
theorem FM {d:Dr} (hi:oE d.G) {y:Ly × List It}:y∈(yG d).L↔y∈d.L∧yH d.G (mM d.N) y.1.i=true:=by
 show y∈zDf d↔_;rw [FN hi,List.mem_filter]
theorem zJK {l:List Ly} {N:List Nm} {n:Nm} {a:Int} (hn:n∈N) (h:a∈sO l n.l):yH l (mM N) a=true :=
 List.any_eq_true.2 ⟨n.l,List.mem_map.2 ⟨n,hn,rfl⟩,by rw [List.contains_iff_mem];exact h⟩
theorem zJV {l:List Ly} {N:List Nm} {a:Int} (h:yH l (mM N) a=true):∃ n∈N,a∈sO l n.l:=by
 obtain ⟨id,h1,h2⟩:=List.any_eq_true.1 h;obtain ⟨n,h3,rfl⟩:=List.mem_map.1 h1;exact ⟨n,h3,by rw [List.contains_iff_mem] at h2;exact h2⟩
theorem zDe {d:Dr} (hg:OkG d.G) {a:Int} (h:a=0∨yH d.G (mM d.N) a=true):dE (yG d) a=dE d a:=by
 have hk:oE (yG d).G:=by rw [zIl hg.inc,wC];exact (RX hg (yI hg _)).inc
 cases hl:tO d a with
 | none =>
  have hno:=FR hl;rw [jY hno,jY fun y hy=>hno y ((FM hg.inc).1 hy).1]
 | some y =>
  obtain ⟨h1,rfl⟩:=lQ hl;rcases h with h|h
  ·have:=hg.lo1 y.1 (qK h1);omega
  ·rw [iJ hg.inc h1,iJ hk ((FM hg.inc).2 ⟨h1,h⟩)]
theorem zHw {r:Rm} {d:Dr} (h:SimW r d) (hl:(yG d).L.length≤40):Sim ⟨r.N,iU r.L (mM r.N),BK (iU r.L (mM r.N)) r.E,r.x⟩ (yG d):=by
 have hG:=zIl h.g.inc;have hcl:=yI h.g (mM d.N);have hpg:OkG (yG d).G:=by rw [hG,wC];exact RX h.g hcl
 have hm:∀ y,y∈(yG d).L↔y∈d.L∧yH d.G (mM d.N) y.1.i=true:=fun y=>FM h.g.inc;have hnm:∀ n∈d.N,yH d.G (mM d.N) n.l=true:=fun n hn=>by
  obtain ⟨y,_,h1,h2⟩:=h.toOkW.named hn;exact zJK hn (by rw [← h2];exact qO (qK h1))
 refine { g:=hpg,t:=fun y hy=>h.t y ((hm y).1 hy).1,srt:=h.srt,nm:=fun n hn=>?_,one:=fun n hn m hmm e hfz=>?_,nx:=⟨fun y hy=>h.nx.1 y ((hm y).1 hy).1,h.nx.2⟩,ln:=h.ln,N:=h.N,L:=?_,x:=h.x,e:=fun y hy=>?_,kept:=fun y hy=>?_,len:=hl }
 ·obtain ⟨h1,y,h2,h3⟩:=h.nm n hn;exact ⟨h1,y,(hm y).2 ⟨h2,by rw [h3];exact hnm n hn⟩,h3⟩
 ·exact h.one n hn m hmm e fun y h2 h3=>hfz y ((hm y).2 ⟨h2,by rw [h3];exact hnm n hn⟩) h3
 ·show iU r.L (mM r.N)=_;rw [hG,h.L,h.N]
 ·obtain ⟨h1,h2⟩:=(hm y).1 hy;show jP (BK _ r.E) y.1.i=_;have:y.1∈iU r.L (mM r.N):=by
   rw [h.L,h.N,← hG];exact qK hy
  rw [XZ this,h.e y h1]
  congr 1
  refine (zDe h.g ?_).symm;rcases h.toOkW.below h1 with h3|⟨z,h3,h4,_⟩
  ·exact .inl h3
  ·exact .inr (by rw [← h4];exact hcl y.1 (qK h1) h2 z.1 (qK h3) (.inl h4))
 ·obtain ⟨h1,h2⟩:=(hm y).1 hy;obtain ⟨n,h3,h4⟩:=zJV h2;refine ⟨n,h3,?_⟩;rw [hG,wC,zHa h.g hcl (hnm n h3)];exact h4
end Go.Dm
end
section
namespace Go.Dm
open Go
theorem zBF {a p:List UInt8} (ha:a≠[]) (h:aR p=a):aP a p=true:=dP ha (by rw [h];exact ha) (.inl h)
theorem zDP {t w:List It} {x:It} (ht:OkT t) (hx:x.p≠[]) (h:zDO t w x=true):∃ y∈t,aR y.p=x.p:=by
 unfold zDO at h;simp only [Bool.and_eq_true,Bool.not_eq_true',decide_eq_false_iff_not] at h;obtain ⟨⟨_,_,h1⟩,_⟩:=h;have h2:0<(fR t x.p).length:=by omega
 rw [ZS] at h2;obtain ⟨y,hy⟩:=List.exists_mem_of_length_pos h2;obtain ⟨h3,h4⟩:=List.mem_filter.1 hy;exact ⟨y,h3,eq_of_beq h4⟩
theorem LN {t:List It} (ht:OkT t):fX t t=[]:=by
 obtain ⟨_,hm⟩:=lT ht ht;refine List.eq_nil_iff_forall_not_mem.2 fun e he=>?_;rcases (hm e).1 he with h|⟨y,hy,_,h,_⟩
 ·obtain ⟨x,hx,h⟩:=List.mem_flatMap.1 h;have hg:=cI ht.srt hx;unfold RY at h;split at h
  ·rename_i hi;have hb:=GH ht hx hi;obtain ⟨y,hy,hd⟩:=zDP ht (ht.ne x hx) hb;unfold zDO at hb;simp only [Bool.and_eq_true,Bool.not_eq_true'] at hb;have:NS t t x.p=true:=List.any_eq_true.2 ⟨y,hy,by rw [rF hy,zBF (ht.ne x hx) hd];rfl⟩
   rw [this] at hb;exact absurd hb.2 (by decide)
  ·rw [hg] at h;simp only [Option.isSome_some,Option.getD_some,qE,Bool.not_true,Bool.or_false,Bool.false_eq_true,if_false] at h;cases h
 ·rw [rF hy] at h;cases h
end Go.Dm
end
