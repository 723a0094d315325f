/- Part 25 of the proof of roomDeep_card, set without needless blanks. No condition. -/
import Derived.Test.YtlbfnbldeefgmaaGreatDoorC23
set_option linter.all false
section
namespace Go.Dm
open Go
def AQ (l:List Ly) (p:Int→Bool):Prop:=∀ x∈l,p x.i=true→∀ y∈l,(y.i=x.p∨y.i=x.s)→p y.i=true
def lL (l:List Ly) (p:Int→Bool):List Ly:=l.filter fun x=>p x.i
theorem dV {l:List Ly} {p:Int→Bool} {x:Ly}:x∈lL l p↔x∈l∧p x.i=true:=by unfold lL;rw [List.mem_filter]
theorem zGK {l:List Ly} (h:mV l) {x y:Ly} (hx:x∈l) (hy:y∈l) (e:x.i=y.i):x=y:=by
 have h1:=kM h hx;have h2:=kM h hy;rw [e,h2] at h1;exact (Option.some.inj h1).symm
theorem oH {l:List Ly} {p:Int→Bool} (hi:mV l) {k q:Nat} {x:Ly} {id:Int} (hx:l[k]? = some x) (hq:(lL l p)[q]? = some x) (hc:∀ y∈l,y.i=id→p y.i=true) (h:eS l k id):eS (lL l p) q id:=by
 rcases h with h|⟨j,y,h1,h2,h3,h4⟩
 ·exact .inl h
 ·right;have hy:=List.mem_of_getElem? h2;have hm:y∈lL l p:=dV.2 ⟨hy,hc y hy h3⟩;obtain ⟨j',hj'⟩:=List.mem_iff_getElem?.1 hm;refine ⟨j',y,?_,hj',h3,h4⟩;have hlt:=PJ hi h2 hx h1;have hip:mV (lL l p):=List.Pairwise.sublist List.filter_sublist hi;rcases Nat.lt_trichotomy j' q with h|h|h
  ·exact h
  ·subst h;rw [hq] at hj';cases hj';omega
  ·have:=PJ hip hq hj' h;omega
theorem TC {l:List Ly} {p:Int→Bool} (hg:OkG l) (hc:AQ l p):∀ (k:Nat) {x:Ly},l[k]? = some x→p x.i=true→bM (lL l p) x.i=bM l x.i:=by
 have hip:mV (lL l p):=List.Pairwise.sublist List.filter_sublist hg.inc;have hlo:∀ x∈lL l p,1≤x.i:=fun x hx=>hg.lo1 x (dV.1 hx).1;have hpar:∀ q x,(lL l p)[q]? = some x→eS (lL l p) q x.p:=fun q x hq=>by
  obtain ⟨h1,h2⟩:=dV.1 (List.mem_of_getElem? hq);obtain ⟨k,hk⟩:=List.mem_iff_getElem?.1 h1;exact oH hg.inc hk hq (fun y hy e=>hc x h1 h2 y hy (.inl e)) (hg.par k x hk)
 intro k
 induction k using Nat.strongRecOn with
 | ind k ih =>
  intro x hx hp;have hm:=List.mem_of_getElem? hx;rw [qV hip hlo hpar (dV.2 ⟨hm,hp⟩),hg.step hm]
  congr 1
  rcases hg.par k x hx with h0|⟨j,y,h1,h2,h3,_⟩
  ·rw [h0,mY hlo,mY hg.lo1]
  ·rw [← h3];exact ih j h1 h2 (hc x hm hp y (List.mem_of_getElem? h2) (.inl h3))
theorem MB {l:List Ly} {p:Int→Bool} (hg:OkG l) (hc:AQ l p):OkG (lL l p):=by
 have at_:∀ (q:Nat) (x:Ly),(lL l p)[q]? = some x→∃ k,l[k]? = some x∧p x.i=true:=fun q x hq=>by
  obtain ⟨h1,h2⟩:=dV.1 (List.mem_of_getElem? hq);obtain ⟨k,hk⟩:=List.mem_iff_getElem?.1 h1;exact ⟨k,hk,h2⟩
 refine OkG.mk (List.Pairwise.sublist List.filter_sublist hg.inc) (fun x hx=>hg.lo x (dV.1 hx).1) (fun q x hq=>?_) (fun q x hq=>?_) (fun x hx=>hg.two x (dV.1 hx).1) (fun x hx=>?_)
 ·obtain ⟨k,hk,hp⟩:=at_ q x hq;exact oH hg.inc hk hq (fun y hy e=>hc x (List.mem_of_getElem? hk) hp y hy (.inl e)) (hg.par k x hk)
 ·obtain ⟨k,hk,hp⟩:=at_ q x hq;exact oH hg.inc hk hq (fun y hy e=>hc x (List.mem_of_getElem? hk) hp y hy (.inr e)) (hg.sec k x hk)
 ·obtain ⟨h1,h2⟩:=dV.1 hx;obtain ⟨k,hk⟩:=List.mem_iff_getElem?.1 h1;rw [TC hg hc k hk h2];exact hg.chn x h1
theorem zEs {l:List Ly} {p:Int→Bool} (hg:OkG l) (hc:AQ l p) {id:Int} (hid:p id=true):qP (lL l p) id=qP l id:=by
 have hpg:=MB hg hc;refine LI (AW hpg.inc id) (AW hg.inc id) fun a=>⟨fun ha=>?_,fun ha=>?_⟩
 ·refine qS (l:=lL l p) (C:=(·∈qP l id)) (fun x hx e=>?_) (fun x hx hcx y hy hp=>AX hg (dV.1 hx).1 (dV.1 hy).1 hcx hp) a ha
  rw [← e];exact oY (dV.1 hx).1
 ·refine qS (l:=l) (C:=(·∈qP (lL l p) id)) (fun x hx e=>?_) (fun x hx hcx y hy hp=>?_) a ha
  ·rw [← e];exact oY (dV.2 ⟨hx,by rw [e];exact hid⟩)
  ·obtain ⟨z,hz,e⟩:=zCF hcx;obtain rfl:=zGK hg.inc (dV.1 hz).1 hx e;exact AX hpg hz (dV.2 ⟨hy,hc z hx (dV.1 hz).2 y hy hp⟩) hcx hp
def vL (l:List Ly) (ids:List Int) (a:Int):Bool:=ids.any fun id=>(qP l id).contains a
theorem tK (l:List Ly) (ids:List Int):iG l ids=lL l (vL l ids):=rfl
theorem vM {l:List Ly} (hg:OkG l) (ids:List Int):AQ l (vL l ids):=fun x hx hp y hy h=>by
 unfold vL at hp ⊢;obtain ⟨id,h1,h2⟩:=List.any_eq_true.1 hp;refine List.any_eq_true.2 ⟨id,h1,?_⟩;rw [List.contains_iff_mem] at h2 ⊢;exact AX hg hx hy h2 h
def xL (id:Int) (x:Ly):Ly:=⟨x.i,x.p,x.s,x.f || x.i == id⟩
def lM (l:List Ly) (id:Int):List Ly:=l.map (xL id)
theorem zDT (l:List Ly) (id a:Int):eA (lM l id) a=(eA l a).map (xL id):=by
 unfold eA lM
 induction l with
 | nil=>rfl
 | cons x l ih =>
  rw [List.map_cons,List.find?_cons,List.find?_cons];show (match (x.i == a) with|true=>_|false=>_)=_
  cases x.i == a
  ·exact ih
  ·rfl
theorem yQ (l:List Ly) (id:Int):∀ (n:Nat) (a:Int),dW (lM l id) n a=dW l n a
 | 0,_=>rfl
 | n+1,a=>by
  simp only [dW,zDT];cases eA l a with
  | none=>rfl
  | some x=>simp only [Option.map_some,xL];rw [yQ l id n x.p]
theorem vC (l:List Ly) (id a:Int):bM (lM l id) a=bM l a:=by
 unfold bM;rw [yQ,show (lM l id).length=l.length by simp [lM]]
theorem yR {l:List Ly} {id:Int} {k:Nat} {a:Int} (h:eS l k a):eS (lM l id) k a:=by
 rcases h with h|⟨j,y,h1,h2,h3,h4⟩
 ·exact .inl h
 ·exact .inr ⟨j,xL id y,h1,by unfold lM;rw [List.getElem?_map,h2];rfl,h3,by show (y.f || _)=true;rw [h4];rfl⟩
theorem zFv {l:List Ly} {id:Int} {k:Nat} {x:Ly} (h:(lM l id)[k]? = some x):∃ y,l[k]? = some y∧x=xL id y:=by
 unfold lM at h;rw [List.getElem?_map] at h;obtain ⟨y,h1,h2⟩:=Option.map_eq_some_iff.1 h;exact ⟨y,h1,h2.symm⟩
theorem LB {l:List Ly} {id:Int} {x:Ly} (h:x∈lM l id):∃ y∈l,x=xL id y:=by
 unfold lM at h;obtain ⟨y,h1,h2⟩:=List.mem_map.1 h;exact ⟨y,h1,h2.symm⟩
theorem zFw {l:List Ly} (hg:OkG l) (id:Int):OkG (lM l id):=by
 refine ⟨?_,fun x hx=>?_,fun k x hx=>?_,fun k x hx=>?_,fun x hx=>?_,fun x hx=>?_⟩
 ·unfold mV lM;rw [List.pairwise_map];exact hg.inc
 ·obtain ⟨y,h1,rfl⟩:=LB hx;exact hg.lo y h1
 ·obtain ⟨y,h1,rfl⟩:=zFv hx;exact yR (hg.par k y h1)
 ·obtain ⟨y,h1,rfl⟩:=zFv hx;exact yR (hg.sec k y h1)
 ·obtain ⟨y,h1,rfl⟩:=LB hx;exact hg.two y h1
 ·obtain ⟨y,h1,rfl⟩:=LB hx;rw [vC];exact hg.chn y h1
theorem gC {l:List Ly} {z:Ly} {k:Nat} {a:Int} (h:eS l k a):eS (l++[z]) k a:=by
 rcases h with h|⟨j,y,h1,h2,h3,h4⟩
 ·exact .inl h
 ·exact .inr ⟨j,y,h1,by rw [List.getElem?_append_left (List.getElem?_eq_some_iff.1 h2).1];exact h2,h3,h4⟩
theorem BT {l:List Ly} {z:Ly} (h:mV l) (hz:∀ x∈l,x.i<z.i):mV (l++[z]) :=
 List.pairwise_append.2 ⟨h,List.pairwise_singleton _ _,fun a ha b hb=>by rw [List.mem_singleton] at hb;subst hb;exact hz a ha⟩
theorem yT {l:List Ly} {z:Ly} (hg:OkG l) (hz:∀ x∈l,x.i<z.i) (hz1:1≤z.i) (hzp:eS l l.length z.p) {x:Ly} (hx:x∈l):bM (l++[z]) x.i=bM l x.i:=by
 obtain ⟨k,hk⟩:=List.mem_iff_getElem?.1 hx;have hlt:=(List.getElem?_eq_some_iff.1 hk).1;have hi:=BT hg.inc hz;have hlo:∀ x∈l++[z],1≤x.i:=fun x hx=>by
  rcases List.mem_append.1 hx with h|h
  ·exact hg.lo1 x h
  ·rw [List.mem_singleton] at h;subst h;exact hz1
 have hp:∀ k x,(l++[z])[k]? = some x→eS (l++[z]) k x.p:=fun k x hx=>by
  rcases Nat.lt_or_ge k l.length with h|h
  ·rw [List.getElem?_append_left h] at hx;exact gC (hg.par k x hx)
  ·have hk2:k=l.length:=by
    have:=(List.getElem?_eq_some_iff.1 hx).1;simp only [List.length_append,List.length_cons,List.length_nil] at this;omega
   subst hk2;rw [List.getElem?_append_right (Nat.le_refl _),Nat.sub_self] at hx;cases hx;exact gC hzp
 have h1:=mX hi hlo hp k (j:=l.length) (n:=l.length+1) (m:=(l++[z]).length+1) (by rw [List.getElem?_append_left hlt];exact hk) hlt (by omega) (by simp;omega);unfold bM;rw [← h1,List.take_left'];rfl
theorem zGG {l:List Ly} {z:Ly} (hg:OkG l) (hz:∀ x∈l,x.i<z.i) (hz1:1≤z.i∧z.i≤2147483647) (hzp:eS l l.length z.p) (hzs:eS l l.length z.s) (h2:z.s≠0→z.p≠0∧z.p≠z.s) (hc:(bM l z.p).length≤11):OkG (l++[z]):=by
 have at_:∀ {k:Nat} {x:Ly},(l++[z])[k]? = some x→l[k]? = some x∨(k=l.length∧x=z):=fun {k x} hx=>by
  rcases Nat.lt_or_ge k l.length with h|h
  ·rw [List.getElem?_append_left h] at hx;exact .inl hx
  ·have hk2:k=l.length:=by
    have:=(List.getElem?_eq_some_iff.1 hx).1;simp only [List.length_append,List.length_cons,List.length_nil] at this;omega
   subst hk2;rw [List.getElem?_append_right (Nat.le_refl _),Nat.sub_self] at hx;cases hx;exact .inr ⟨rfl,rfl⟩
 have hi:=BT hg.inc hz;have hlo:∀ x∈l++[z],1≤x.i∧x.i≤2147483647:=fun x hx=>by
  rcases List.mem_append.1 hx with h|h
  ·exact hg.lo x h
  ·rw [List.mem_singleton] at h;subst h;exact hz1
 have hp:∀ k x,(l++[z])[k]? = some x→eS (l++[z]) k x.p:=fun k x hx=>by
  rcases at_ hx with h|⟨rfl,rfl⟩
  ·exact gC (hg.par k x h)
  ·exact gC hzp
 refine ⟨hi,hlo,hp,fun k x hx=>?_,fun x hx=>?_,fun x hx=>?_⟩
 ·rcases at_ hx with h|⟨rfl,rfl⟩
  ·exact gC (hg.sec k x h)
  ·exact gC hzs
 ·rcases List.mem_append.1 hx with h|h
  ·exact hg.two x h
  ·rw [List.mem_singleton] at h;subst h;exact h2
 ·rcases List.mem_append.1 hx with h|h
  ·rw [yT hg hz hz1.1 hzp h];exact hg.chn x h
  ·rw [List.mem_singleton] at h;subst h;rw [qV hi (fun x hx=>(hlo x hx).1) hp hx,List.length_append];have:(bM (l++[x]) x.p).length≤11:=by
    rcases hzp with h0|⟨j,y,_,h4,h5,_⟩
    ·rw [h0,mY fun x hx=>(hlo x hx).1];simp
    ·rw [← h5,yT hg hz hz1.1 (.inr ⟨j,y,(List.getElem?_eq_some_iff.1 h4).1,h4,h5,by assumption⟩) (List.mem_of_getElem? h4),h5];exact hc
   simp only [List.length_cons,List.length_nil];omega
end Go.Dm
end
section
namespace Go.Dm
open Go
structure OkW (d:Dr):Prop where
 g:OkG d.G
 t:∀ y∈d.L,OkT y.2
 srt:DW d.N
 nm:∀ n∈d.N,bE n.n=true∧∃ y∈d.L,y.1.i=n.l
 one:∀ n∈d.N,∀ m∈d.N,n.l=m.l→(∀ y∈d.L,y.1.i=n.l→y.1.f=false)→n=m
 nx:(∀ y∈d.L,y.1.i<d.x)∧1≤d.x∧d.x≤2147483647
 ln:d.N.length≤20
structure SimW (r:Rm) (d:Dr):Prop extends OkW d where
 N:r.N=d.N
 L:r.L=d.G
 x:r.x=d.x
 e:∀ y∈d.L,iX r.E y.1.i=fR (dJ d y.1.p) y.2
structure Sim (r:Rm) (d:Dr):Prop extends SimW r d where
 kept:∀ y∈d.L,∃ n∈d.N,y.1.i∈qP d.G n.l
 len:d.L.length≤40
theorem LU {d:Dr} {x:Ly}:x∈d.G↔∃ y∈d.L,y.1=x:=by unfold Dr.G;rw [List.mem_map]
theorem oV {d:Dr} {y:Ly × List It} (h:y∈d.L):y.1∈d.G:=LU.2 ⟨y,h,rfl⟩
theorem hD {d:Dr} (hi:mV d.G) {y:Ly × List It} (hy:y∈d.L):dJ d y.1.i=y.2:=by unfold dJ;rw [mB hi hy]
theorem jF {d:Dr} {id:Int} (h:∀ y∈d.L,y.1.i≠id):dJ d id=[]:=by
 unfold dJ;cases hl:pP d id with
 | none=>rfl
 | some y=>obtain ⟨h1,h2⟩:=kQ hl;exact absurd h2 (h y h1)
theorem OkW.tree {d:Dr} (h:OkW d) (id:Int):OkT (dJ d id):=by
 unfold dJ;cases hl:pP d id with
 | none=>exact OkT.nil
 | some y=>exact h.t y (kQ hl).1
theorem OkW.zero {d:Dr} (h:OkW d):dJ d 0=[]:=jF fun y hy e=>by have:=h.g.lo1 y.1 (oV hy);omega
theorem SimW.tree {r:Rm} {d:Dr} (h:SimW r d) (id:Int):BN r id=(dJ d id,true):=by
 cases hl:pP d id with
 | none =>
  have hno:=CD hl;rw [jF hno];unfold BN kR bM;rw [h.L,hU]
  ·rfl
  ·rw [zFu,hl];rfl
 | some y =>
  obtain ⟨h1,rfl⟩:=kQ hl;have hm:y.1∈r.L:=by rw [h.L];exact oV h1
  obtain ⟨k,hk⟩:=List.mem_iff_getElem?.1 hm;refine RY (by rw [h.L];exact h.g) (dJ d) h.toOkW.zero (fun x _=>h.toOkW.tree x.i) (fun x hx=>?_) k hk;rw [h.L] at hx;obtain ⟨z,hz,rfl⟩:=LU.1 hx;rw [h.e z hz,hD h.g.inc hz]
theorem SimW.treeR {r:Rm} {d:Dr} (h:SimW r d) (id:Int):treeR r id=dJ d id:=by unfold Dm.treeR;rw [h.tree]
theorem OkW.named {d:Dr} (h:OkW d) {n:Nm} (hn:n∈d.N):∃ y,pP d n.l=some y∧y∈d.L∧y.1.i=n.l:=by
 obtain ⟨_,y,h1,h2⟩:=h.nm n hn;exact ⟨y,by rw [← h2];exact mB h.g.inc h1,h1,h2⟩
theorem OkW.name0 {d:Dr} (h:OkW d) (s:List UInt8):(gN d.N s == 0) = !(HA d.N s).isSome:=by
 unfold gN;cases hn:HA d.N s with
 | none=>rfl
 | some n =>
  obtain ⟨h1,h2⟩:=gY hn;obtain ⟨y,_,h3,h4⟩:=h.named h1;have:=h.g.lo1 y.1 (oV h3);simp only [Option.isSome_some,Bool.not_true,beq_eq_false_iff_ne,ne_eq];omega
theorem zJp (d:Dr) (id:Int) (t:List It):(nO d id t).G=d.G:=by
 unfold nO Dr.G;have:∀ l:List (Ly × List It),(qN id t l).map (·.1)=l.map (·.1):=by
  intro l
  induction l with
  | nil=>rfl
  | cons y l ih =>
   simp only [qN];split
   ·rfl
   ·simp only [List.map_cons,ih]
 exact this d.L
theorem qO {id:Int} {t:List It} {y:Ly × List It}:∀ {l:List (Ly × List It)},y∈qN id t l→(y∈l)∨(y.1.i=id∧y.2=t∧∃ z∈l,z.1=y.1)
 | [],h=>by cases h
 | z::l,h=>by
  simp only [qN] at h;split at h
  ·rename_i hz;rcases List.mem_cons.1 h with rfl|h
   ·exact .inr ⟨by simpa using hz,rfl,z,List.mem_cons_self,rfl⟩
   ·exact .inl (List.mem_cons_of_mem _ h)
  ·rcases List.mem_cons.1 h with rfl|h
   ·exact .inl List.mem_cons_self
   ·rcases qO h with h|⟨h1,h2,w,h3,h4⟩
    ·exact .inl (List.mem_cons_of_mem _ h)
    ·exact .inr ⟨h1,h2,w,List.mem_cons_of_mem _ h3,h4⟩
theorem QJ (d:Dr) (id:Int) (t:List It) (a:Int):pP (nO d id t) a=if a=id then (pP d a).map (fun y=>(y.1,t)) else pP d a:=by
 unfold pP nO;have:∀ l:List (Ly × List It),(qN id t l).find? (fun y=>y.1.i == a)=if a=id then (l.find? fun y=>y.1.i == a).map (fun y=>(y.1,t)) else l.find? fun y=>y.1.i == a:=by
  intro l
  induction l with
  | nil=>simp [qN]
  | cons y l ih =>
   simp only [qN];split
   ·rename_i hy;have hy:=eq_of_beq hy;rw [List.find?_cons,List.find?_cons];by_cases ha:a=id
    ·subst ha;rw [if_pos rfl,show (y.1.i == a)=true by rw [hy];simp]
     rfl
    ·rw [if_neg ha,show (y.1.i == a)=false by rw [hy];simpa using fun e=>ha e.symm]
   ·rename_i hy;rw [List.find?_cons,List.find?_cons,ih];by_cases ha:a=id
    ·subst ha;rw [if_pos rfl,if_pos rfl,show (y.1.i == a)=false by simpa using hy]
    ·rw [if_neg ha,if_neg ha]
 exact this d.L
theorem zCo {d:Dr} {id:Int} {t:List It} (h:(pP d id).isSome=true) (a:Int):dJ (nO d id t) a=if a=id then t else dJ d a:=by
 unfold dJ;rw [QJ];by_cases ha:a=id
 ·subst ha;rw [if_pos rfl,if_pos rfl];obtain ⟨y,hy⟩:=Option.isSome_iff_exists.1 h;rw [hy];rfl
 ·rw [if_neg ha,if_neg ha]
theorem JR {d:Dr} (hi:mV d.G) (id:Int):nO d id (dJ d id)=d:=by
 unfold nO;have key:∀ (l:List (Ly × List It)) (t:List It),mV (l.map (·.1))→(∀ y∈l,y.1.i=id→y.2=t)→qN id t l=l:=by
  intro l t
  induction l with
  | nil=>intro _ _;rfl
  | cons y l ih =>
   intro hp h;have h2:=List.pairwise_cons.1 hp;simp only [qN];split
   ·rename_i hy;rw [← h y List.mem_cons_self (eq_of_beq hy)]
   ·rw [ih h2.2 fun z hz=>h z (List.mem_cons_of_mem _ hz)]
 rw [key d.L (dJ d id) hi fun y hy e=>by rw [← e,hD hi hy]]
theorem OkW.below {d:Dr} (h:OkW d) {y:Ly × List It} (hy:y∈d.L):y.1.p=0∨∃ z∈d.L,z.1.i=y.1.p∧z.1.f=true∧z.1.i<y.1.i:=by
 obtain ⟨k,hk⟩:=List.mem_iff_getElem?.1 (oV hy);rcases h.g.par k _ hk with h0|⟨j,x,h1,h2,h3,h4⟩
 ·exact .inl h0
 ·obtain ⟨z,hz,rfl⟩:=LU.1 (List.mem_of_getElem? h2);exact .inr ⟨z,hz,h3,h4,PJ h.g.inc h2 hk h1⟩
theorem zIv {d:Dr} (h:mV d.G) {x y:Ly × List It} (hx:x∈d.L) (hy:y∈d.L) (e:x.1.i=y.1.i):x=y:=by
 have h1:=mB h hx;rw [e,mB h hy] at h1;exact (Option.some.inj h1).symm
theorem zHk {r:Rm} {d:Dr} (h:Sim r d) {y:Ly × List It} (hy:y∈d.L) (hf:y.1.f=false) {t:List It} (ht:OkT t):
  Sim ⟨r.N,r.L,oJ r.E y.1.i (fR (dJ d y.1.p) t),r.x⟩ (nO d y.1.i t):=by
 have hG:=zJp d y.1.i t;have hso:(pP d y.1.i).isSome=true:=by rw [mB h.g.inc hy];rfl
 have frame:∀ z∈(nO d y.1.i t).L,∃ z0∈d.L,z0.1=z.1:=fun z hz=>by
  rcases qO hz with h1|⟨_,_,w,h1,h2⟩
  ·exact ⟨z,h1,rfl⟩
  ·exact ⟨w,h1,h2⟩
 have back:∀ z0∈d.L,∃ z∈(nO d y.1.i t).L,z.1=z0.1:=fun z0 hz0=>by
  have:=oV hz0;rw [← hG] at this;exact LU.1 this
 refine { g:=by rw [hG];exact h.g,t:=fun z hz=>?_,srt:=h.srt,nm:=fun n hn=>?_,one:=fun n hn m hm e hfz=>?_,nx:=⟨fun z hz=>?_,h.nx.2⟩,ln:=h.ln,N:=h.N,L:=by rw [hG];exact h.L,x:=h.x,e:=fun z hz=>?_,kept:=fun z hz=>?_,len:=?_ }
 ·rcases qO hz with h1|⟨_,h2,_⟩
  ·exact h.t z h1
  ·rw [h2];exact ht
 ·obtain ⟨h1,z0,h2,h3⟩:=h.nm n hn;obtain ⟨z,h4,h5⟩:=back z0 h2;exact ⟨h1,z,h4,by rw [h5];exact h3⟩
 ·refine h.one n hn m hm e fun z0 h2 h3=>?_;obtain ⟨z,h4,h5⟩:=back z0 h2;rw [← h5];exact hfz z h4 (by rw [h5];exact h3)
 ·obtain ⟨z0,h1,h2⟩:=frame z hz;rw [← h2];exact h.nx.1 z0 h1
 ·obtain ⟨z0,h1,h2⟩:=frame z hz;have hp:dJ (nO d y.1.i t) z.1.p=dJ d z.1.p:=by
   rw [zCo hso,if_neg];intro e;rcases h.toOkW.below h1 with h3|⟨w,h3,h4,h5,_⟩
   ·rw [h2,e] at h3;have:=h.g.lo1 y.1 (oV hy);omega
   ·rw [h2,e] at h4;rw [zIv h.g.inc h3 hy h4,hf] at h5;cases h5
  rw [hp];by_cases hzi:z.1.i=y.1.i
  ·show iX (oJ r.E y.1.i _) z.1.i=_;have hz0y:z0=y:=zIv h.g.inc h1 hy (by rw [h2];exact hzi);subst hz0y;rw [hzi,pY,← h2]
   congr 1
   rcases qO hz with h3|⟨_,h4,_⟩
   ·have hlz:=mB (d:=nO d z0.1.i t) (by rw [hG];exact h.g.inc) hz;rw [QJ,if_pos hzi,hzi,mB h.g.inc hy] at hlz;simp only [Option.map_some,Option.some.injEq] at hlz;rw [← hlz]
   ·exact h4.symm
  ·show iX (oJ r.E y.1.i _) z.1.i=_;rw [nI _ _ hzi];rcases qO hz with h3|⟨h4,_⟩
   ·exact h.e z h3
   ·exact absurd h4 hzi
 ·obtain ⟨z0,h1,h2⟩:=frame z hz;rw [hG,← h2];exact h.kept z0 h1
 ·have:(nO d y.1.i t).L.length=d.L.length:=by
   have:=congrArg List.length hG;simpa [Dr.G] using this
  rw [this];exact h.len
def yF (L:List Ly) (E:List (Int × List En)):List (Int × List En):=L.foldl (fun k l=>oJ k l.i (iX E l.i)) []
theorem EJ (E:List (Int × List En)):∀ (L:List Ly) (K:List (Int × List En)) (a:Int),iX (L.foldl (fun k l=>oJ k l.i (iX E l.i)) K) a=if L.any (fun x=>x.i == a) then iX E a else iX K a
 | [],K,a=>rfl
 | x::L,K,a=>by
  rw [List.foldl_cons,EJ E L,List.any_cons];by_cases hL:L.any (fun x=>x.i == a)=true
  ·rw [if_pos hL,if_pos (by rw [hL];simp)]
  ·rw [if_neg hL];by_cases hx:x.i=a
   ·subst hx;rw [pY,if_pos (by simp)]
   ·rw [nI _ _ (fun e=>hx e.symm),if_neg];simp [hx];simpa using hL
theorem QT {L:List Ly} {E:List (Int × List En)} {x:Ly} (h:x∈L):iX (yF L E) x.i=iX E x.i:=by
 unfold yF;rw [EJ,if_pos];exact List.any_eq_true.2 ⟨x,h,by simp⟩
def lI (N:List Nm):List Int:=N.map (·.l)
theorem BZ {d:Dr} (hi:mV d.G):zAL d=d.L.filter fun y=>vL d.G (lI d.N) y.1.i:=by
 have key:∀ (l:List (Ly × List It)) (p:Int→Bool),(∀ y∈l,pP d y.1.i=some y)→((l.map (·.1)).filter fun x=>p x.i).filterMap (fun y=>pP d y.i)=l.filter fun y=>p y.1.i:=by
  intro l p
  induction l with
  | nil=>intro _;rfl
  | cons y l ih =>
   intro h;rw [List.map_cons,List.filter_cons,List.filter_cons];split
   ·rw [List.filterMap_cons,h y List.mem_cons_self,ih fun z hz=>h z (List.mem_cons_of_mem _ hz)]
   ·exact ih fun z hz=>h z (List.mem_cons_of_mem _ hz)
 exact key d.L (vL d.G (lI d.N)) fun y hy=>mB hi hy
theorem zFy {d:Dr} (hi:mV d.G):(vK d).G=iG d.G (lI d.N):=by
 show (zAL d).map (·.1)=_
 rw [BZ hi,tK];unfold lL Dr.G;rw [List.filter_map];rfl
theorem BX {d:Dr} (hi:mV d.G) {y:Ly × List It}:y∈(vK d).L↔y∈d.L∧vL d.G (lI d.N) y.1.i=true:=by
 show y∈zAL d↔_;rw [BZ hi,List.mem_filter]
theorem zGU {l:List Ly} {N:List Nm} {n:Nm} {a:Int} (hn:n∈N) (h:a∈qP l n.l):vL l (lI N) a=true :=
 List.any_eq_true.2 ⟨n.l,List.mem_map.2 ⟨n,hn,rfl⟩,by rw [List.contains_iff_mem];exact h⟩
theorem zG6 {l:List Ly} {N:List Nm} {a:Int} (h:vL l (lI N) a=true):∃ n∈N,a∈qP l n.l:=by
 obtain ⟨id,h1,h2⟩:=List.any_eq_true.1 h;obtain ⟨n,h3,rfl⟩:=List.mem_map.1 h1;exact ⟨n,h3,by rw [List.contains_iff_mem] at h2;exact h2⟩
theorem zAK {d:Dr} (hg:OkG d.G) {a:Int} (h:a=0∨vL d.G (lI d.N) a=true):dJ (vK d) a=dJ d a:=by
 have hk:mV (vK d).G:=by rw [zFy hg.inc,tK];exact (MB hg (vM hg _)).inc
 cases hl:pP d a with
 | none =>
  have hno:=CD hl;rw [jF hno,jF fun y hy=>hno y ((BX hg.inc).1 hy).1]
 | some y =>
  obtain ⟨h1,rfl⟩:=kQ hl;rcases h with h|h
  ·have:=hg.lo1 y.1 (oV h1);omega
  ·rw [hD hg.inc h1,hD hk ((BX hg.inc).2 ⟨h1,h⟩)]
theorem zEN {r:Rm} {d:Dr} (h:SimW r d) (hl:(vK d).L.length≤40):Sim ⟨r.N,iG r.L (lI r.N),yF (iG r.L (lI r.N)) r.E,r.x⟩ (vK d):=by
 have hG:=zFy h.g.inc;have hcl:=vM h.g (lI d.N);have hpg:OkG (vK d).G:=by rw [hG,tK];exact MB h.g hcl
 have hm:∀ y,y∈(vK d).L↔y∈d.L∧vL d.G (lI d.N) y.1.i=true:=fun y=>BX h.g.inc;have hnm:∀ n∈d.N,vL d.G (lI d.N) n.l=true:=fun n hn=>by
  obtain ⟨y,_,h1,h2⟩:=h.toOkW.named hn;exact zGU hn (by rw [← h2];exact oY (oV h1))
 refine { g:=hpg,t:=fun y hy=>h.t y ((hm y).1 hy).1,srt:=h.srt,nm:=fun n hn=>?_,one:=fun n hn m hmm e hfz=>?_,nx:=⟨fun y hy=>h.nx.1 y ((hm y).1 hy).1,h.nx.2⟩,ln:=h.ln,N:=h.N,L:=?_,x:=h.x,e:=fun y hy=>?_,kept:=fun y hy=>?_,len:=hl }
 ·obtain ⟨h1,y,h2,h3⟩:=h.nm n hn;exact ⟨h1,y,(hm y).2 ⟨h2,by rw [h3];exact hnm n hn⟩,h3⟩
 ·exact h.one n hn m hmm e fun y h2 h3=>hfz y ((hm y).2 ⟨h2,by rw [h3];exact hnm n hn⟩) h3
 ·show iG r.L (lI r.N)=_;rw [hG,h.L,h.N]
 ·obtain ⟨h1,h2⟩:=(hm y).1 hy;show iX (yF _ r.E) y.1.i=_;have:y.1∈iG r.L (lI r.N):=by
   rw [h.L,h.N,← hG];exact oV hy
  rw [QT this,h.e y h1]
  congr 1
  refine (zAK h.g ?_).symm;rcases h.toOkW.below h1 with h3|⟨z,h3,h4,_⟩
  ·exact .inl h3
  ·exact .inr (by rw [← h4];exact hcl y.1 (oV h1) h2 z.1 (oV h3) (.inl h4))
 ·obtain ⟨h1,h2⟩:=(hm y).1 hy;obtain ⟨n,h3,h4⟩:=zG6 h2;refine ⟨n,h3,?_⟩;rw [hG,tK,zEs h.g hcl (hnm n h3)];exact h4
end Go.Dm
end
section
namespace Go.Dm
open Go
theorem XS {a p:List UInt8} (ha:a≠[]) (h:aP p=a):aM a p=true:=dN ha (by rw [h];exact ha) (.inl h)
theorem zBf {t w:List It} {x:It} (ht:OkT t) (hx:x.p≠[]) (h:zBe t w x=true):∃ y∈t,aP y.p=x.p:=by
 unfold zBe at h;simp only [Bool.and_eq_true,Bool.not_eq_true',decide_eq_false_iff_not] at h;obtain ⟨⟨_,_,h1⟩,_⟩:=h;have h2:0<(gA t x.p).length:=by omega
 rw [SS] at h2;obtain ⟨y,hy⟩:=List.exists_mem_of_length_pos h2;obtain ⟨h3,h4⟩:=List.mem_filter.1 hy;exact ⟨y,h3,eq_of_beq h4⟩
theorem GU {t:List It} (ht:OkT t):fR t t=[]:=by
 obtain ⟨_,hm⟩:=kT ht ht;refine List.eq_nil_iff_forall_not_mem.2 fun e he=>?_;rcases (hm e).1 he with h|⟨y,hy,_,h,_⟩
 ·obtain ⟨x,hx,h⟩:=List.mem_flatMap.1 h;have hg:=cP ht.srt hx;unfold MC at h;split at h
  ·rename_i hi;have hb:=CN ht hx hi;obtain ⟨y,hy,hd⟩:=zBf ht (ht.ne x hx) hb;unfold zBe at hb;simp only [Bool.and_eq_true,Bool.not_eq_true'] at hb;have:JJ t t x.p=true:=List.any_eq_true.2 ⟨y,hy,by rw [BR hy,XS (ht.ne x hx) hd];rfl⟩
   rw [this] at hb;exact absurd hb.2 (by decide)
  ·rw [hg] at h;simp only [Option.isSome_some,Option.getD_some,oM,Bool.not_true,Bool.or_false,Bool.false_eq_true,if_false] at h;cases h
 ·rw [BR hy] at h;cases h
end Go.Dm
end
