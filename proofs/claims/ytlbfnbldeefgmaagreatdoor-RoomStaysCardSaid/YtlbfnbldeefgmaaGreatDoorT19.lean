/- Part 20 of the proof of roomStays_card, set without needless blanks. No condition. -/
import Derived.Test.YtlbfnbldeefgmaaGreatDoorT18
set_option linter.all false
set_option maxRecDepth 100000
set_option maxHeartbeats 16000000
section
namespace Go.Dm
open Go
section
variable {l:List Ly}{p:Int->Bool}{x z:Ly}{k:Nat}{id a:Int}
def GQ(l:List Ly)(p:Int->Bool):Prop:=∀x∈l,p x.i=true->∀y∈l,(y.i=x.p∨y.i=x.s)->p y.i=true
def oH(l:List Ly)(p:Int->Bool):List Ly:=l.filter λx=>p x.i
theorem eO: x∈oH l p↔x∈l/\p x.i=true:=by unfold oH;rw[List.mem_filter]
theorem zEn(h:pV l){y:Ly}(hx:x∈l)(hy:y∈l)(e:x.i=y.i):x=y:=by
 have h1:=nM h hx;have h2:=nM h hy;rw[e,h2] at h1;exact(Option.some.inj h1).symm
theorem sA(hi:pV l){q:Nat}(hx:l[k]?=some x)(hq:(oH l p)[q]?=some x)(hc:∀y∈l,y.i=id->p y.i=true)(h:fD l k id):fD (oH l p) q id:=by
 rcases h with h|⟨j,y,h1,h2,h3,h4⟩
 .exact .inl h
 .right;have hy:=List.mem_of_getElem? h2;have hm:y∈oH l p:=eO.2 ⟨hy,hc y hy h3⟩;obtain⟨j',hj'⟩:=List.mem_iff_getElem?.1 hm;refine⟨j',y,?_,hj',h3,h4⟩;have hlt:=YL hi h2 hx h1;have hip:pV (oH l p):=List.Pairwise.sublist List.filter_sublist hi;rcases Nat.lt_trichotomy j' q with h|h|h
  .exact h
  .subst h;rw[hq] at hj';cases hj';omega
  .have:=YL hip hq hj' h;omega
theorem zBf(hg:OkG l)(hc:GQ l p):∀(k:Nat) {x:Ly},l[k]?=some x->p x.i=true->bN (oH l p) x.i=bN l x.i:=by
 have hip:pV (oH l p):=List.Pairwise.sublist List.filter_sublist hg.inc;have hlo:∀x∈oH l p,1<=x.i:=λx hx=>hg.lo1 x (eO.1 hx).1;have hpar:∀q x,(oH l p)[q]?=some x->fD (oH l p) q x.p:=λq x hq=>by
  obtain⟨h1,h2⟩:=eO.1 (List.mem_of_getElem? hq);obtain⟨k,hk⟩:=List.mem_iff_getElem?.1 h1;exact sA hg.inc hk hq (λy hy e=>hc x h1 h2 y hy (.inl e)) (hg.par k x hk)
 intro k
 induction k using Nat.strongRecOn with
 | ind k ih =>
  intro x hx hp;have hm:=List.mem_of_getElem? hx;rw[uY hip hlo hpar (eO.2 ⟨hm,hp⟩),hg.step hm]
  congr 1
  rcases hg.par k x hx with h0|⟨j,y,h1,h2,h3,_⟩
  .rw[h0,qA hlo,qA hg.lo1]
  .rw[<- h3];exact ih j h1 h2 (hc x hm hp y (List.mem_of_getElem? h2) (.inl h3))
theorem JT(hg:OkG l)(hc:GQ l p):OkG (oH l p):=by
 have at_:∀(q:Nat) (x:Ly),(oH l p)[q]?=some x->∃k,l[k]?=some x/\p x.i=true:=λq x hq=>by
  obtain⟨h1,h2⟩:=eO.1 (List.mem_of_getElem? hq);obtain⟨k,hk⟩:=List.mem_iff_getElem?.1 h1;exact⟨k,hk,h2⟩
 refine OkG.mk (List.Pairwise.sublist List.filter_sublist hg.inc) (λx hx=>hg.lo x (eO.1 hx).1) (λq x hq=>?_) (λq x hq=>?_) (λx hx=>hg.two x (eO.1 hx).1) (λx hx=>?_)
 .obtain⟨k,hk,hp⟩:=at_ q x hq;exact sA hg.inc hk hq (λy hy e=>hc x (List.mem_of_getElem? hk) hp y hy (.inl e)) (hg.par k x hk)
 .obtain⟨k,hk,hp⟩:=at_ q x hq;exact sA hg.inc hk hq (λy hy e=>hc x (List.mem_of_getElem? hk) hp y hy (.inr e)) (hg.sec k x hk)
 .obtain⟨h1,h2⟩:=eO.1 hx;obtain⟨k,hk⟩:=List.mem_iff_getElem?.1 h1;rw[zBf hg hc k hk h2];exact hg.chn x h1
theorem zI8(hg:OkG l)(hc:GQ l p)(hid:p id=true):pW (oH l p) id=pW l id:=by
 have hpg:=JT hg hc;refine VK (GU hpg.inc id) (GU hg.inc id) λa=>⟨λha=>?_,λha=>?_⟩
 .refine pX (l:=oH l p) (C:=(·∈pW l id)) (λx hx e=>?_) (λx hx hcx y hy hp=>GV hg (eO.1 hx).1 (eO.1 hy).1 hcx hp) a ha
  rw[<- e];exact mH (eO.1 hx).1
 .refine pX (l:=l) (C:=(·∈pW (oH l p) id)) (λx hx e=>?_) (λx hx hcx y hy hp=>?_) a ha
  .rw[<- e];exact mH (eO.2 ⟨hx,by rw[e];exact hid⟩)
  .obtain⟨z,hz,e⟩:=zGY hcx;obtain rfl:=zEn hg.inc (eO.1 hz).1 hx e;exact GV hpg hz (eO.2 ⟨hy,hc z hx (eO.1 hz).2 y hy hp⟩) hcx hp
theorem ZZ(hg:OkG l)(h:a∈pW l id):a=id∨∃y∈l,y.i=a/\y.f=true:=by
 refine pX (l:=l) (C:=λa=>a=id∨∃y∈l,y.i=a/\y.f=true) (λx _ e=>.inl e) (λx hx _ y hy hp=>.inr ⟨y,hy,rfl,?_⟩) a h;obtain⟨k,hk⟩:=List.mem_iff_getElem?.1 hx;have st:∀q,fD l k q->y.i=q->y.f=true:=λq hq e=>by
  rcases hq with hq|⟨j,z,_,h2,h3,h4⟩
  .have:=hg.lo1 y hy;omega
  .rw[zEn hg.inc hy (List.mem_of_getElem? h2) (by omega)];exact h4
 rcases hp with hp|hp
 .exact st _ (hg.par k x hk) hp
 .exact st _ (hg.sec k x hk) hp
def rQ(l:List Ly)(ids:List Int)(a:Int):Bool:=ids.any λid=>(pW l id).contains a
theorem tK(l:List Ly)(ids:List Int):kL l ids=oH l (rQ l ids):=rfl
theorem rR(hg:OkG l)(ids:List Int):GQ l (rQ l ids):=λx hx hp y hy h=>by
 unfold rQ at hp ⊢;obtain⟨id,h1,h2⟩:=List.any_eq_true.1 hp;refine List.any_eq_true.2 ⟨id,h1,?_⟩;rw[List.contains_iff_mem] at h2 ⊢;exact GV hg hx hy h2 h
def zX(id:Int)(x:Ly):Ly:=⟨x.i,x.p,x.s,x.f || x.i==id⟩
def oC(l:List Ly)(id:Int):List Ly:=l.map (zX id)
theorem zIu(l:List Ly)(id a:Int):dR (oC l id) a=(dR l a).map (zX id):=by
 unfold dR oC
 induction l with
 | nil=>rfl
 | cons x l ih =>
  rw[List.map_cons,List.find?_cons,List.find?_cons];show (match (x.i==a) with|true=>_|false=>_)=_
  cases x.i==a
  .exact ih
  .rfl
theorem EM(l:List Ly)(id:Int):∀(n:Nat) (a:Int),eR (oC l id) n a=eR l n a
 | 0,_=>rfl
 | n+1,a=>by
  simp only[eR,zIu];cases dR l a with
  | none=>rfl
  | some x=>simp only[Option.map_some,zX];rw[EM l id n x.p]
theorem tH(l:List Ly)(id a:Int):bN (oC l id) a=bN l a:=by
 unfold bN;rw[EM,show (oC l id).length=l.length by simp[oC]]
theorem EN(h:fD l k a):fD (oC l id) k a:=by
 rcases h with h|⟨j,y,h1,h2,h3,h4⟩
 .exact .inl h
 .exact .inr ⟨j,zX id y,h1,by unfold oC;rw[List.getElem?_map,h2];rfl,h3,by show (y.f || _)=true;rw[h4];rfl⟩
theorem zKk(h:(oC l id)[k]?=some x):∃y,l[k]?=some y/\x=zX id y:=by
 unfold oC at h;rw[List.getElem?_map] at h;obtain⟨y,h1,h2⟩:=Option.map_eq_some_iff.1 h;exact⟨y,h1,h2.symm⟩
theorem VB(h:x∈oC l id):∃y∈l,x=zX id y:=by
 unfold oC at h;obtain⟨y,h1,h2⟩:=List.mem_map.1 h;exact⟨y,h1,h2.symm⟩
theorem zKl(hg:OkG l)(id:Int):OkG (oC l id):=by
 refine⟨?_,λx hx=>?_,λk x hx=>?_,λk x hx=>?_,λx hx=>?_,λx hx=>?_⟩
 .unfold pV oC;rw[List.pairwise_map];exact hg.inc
 .obtain⟨y,h1,rfl⟩:=VB hx;exact hg.lo y h1
 .obtain⟨y,h1,rfl⟩:=zKk hx;exact EN (hg.par k y h1)
 .obtain⟨y,h1,rfl⟩:=zKk hx;exact EN (hg.sec k y h1)
 .obtain⟨y,h1,rfl⟩:=VB hx;exact hg.two y h1
 .obtain⟨y,h1,rfl⟩:=VB hx;rw[tH];exact hg.chn y h1
theorem iN(h:fD l k a):fD (l++[z]) k a:=by
 rcases h with h|⟨j,y,h1,h2,h3,h4⟩
 .exact .inl h
 .exact .inr ⟨j,y,h1,by rw[List.getElem?_append_left (List.getElem?_eq_some_iff.1 h2).1];exact h2,h3,h4⟩
theorem HW(h:pV l)(hz:∀x∈l,x.i<z.i):pV (l++[z]) :=
 List.pairwise_append.2 ⟨h,List.pairwise_singleton _ _,λa ha b hb=>by rw[List.mem_singleton] at hb;subst hb;exact hz a ha⟩
theorem EP(hg:OkG l)(hz:∀x∈l,x.i<z.i)(hz1:1<=z.i)(hzp:fD l l.length z.p)(hx:x∈l):bN (l++[z]) x.i=bN l x.i:=by
 obtain ⟨k,hk⟩:=List.mem_iff_getElem?.1 hx;have hlt:=(List.getElem?_eq_some_iff.1 hk).1;have hi:=HW hg.inc hz;have hlo:∀x∈l++[z],1<=x.i:=λx hx=>by
  rcases List.mem_append.1 hx with h|h
  .exact hg.lo1 x h
  .rw[List.mem_singleton] at h;subst h;exact hz1
 have hp:∀k x,(l++[z])[k]?=some x->fD (l++[z]) k x.p:=λk x hx=>by
  rcases Nat.lt_or_ge k l.length with h|h
  .rw[List.getElem?_append_left h] at hx;exact iN (hg.par k x hx)
  .have hk2:k=l.length:=by
    have:=(List.getElem?_eq_some_iff.1 hx).1;simp only[List.length_append,List.length_cons,List.length_nil] at this;omega
   subst hk2;rw[List.getElem?_append_right (Nat.le_refl _),Nat.sub_self] at hx;cases hx;exact iN hzp
 have h1:=pZ hi hlo hp k (j:=l.length) (n:=l.length+1) (m:=(l++[z]).length+1) (by rw[List.getElem?_append_left hlt];exact hk) hlt (by omega) (by simp;omega);unfold bN;rw[<- h1,List.take_left'];rfl
theorem zEh(hg:OkG l)(hz:∀x∈l,x.i<z.i)(hz1:1<=z.i/\z.i<=2147483647)(hzp:fD l l.length z.p)(hzs:fD l l.length z.s)(h2:z.s≠0->z.p≠0/\z.p≠z.s)(hc:(bN l z.p).length<=11):OkG (l++[z]):=by
 have at_:∀{k:Nat} {x:Ly},(l++[z])[k]?=some x->l[k]?=some x∨(k=l.length/\x=z):=λ{k x} hx=>by
  rcases Nat.lt_or_ge k l.length with h|h
  .rw[List.getElem?_append_left h] at hx;exact .inl hx
  .have hk2:k=l.length:=by
    have:=(List.getElem?_eq_some_iff.1 hx).1;simp only[List.length_append,List.length_cons,List.length_nil] at this;omega
   subst hk2;rw[List.getElem?_append_right (Nat.le_refl _),Nat.sub_self] at hx;cases hx;exact .inr ⟨rfl,rfl⟩
 have hi:=HW hg.inc hz;have hlo:∀x∈l++[z],1<=x.i/\x.i<=2147483647:=λx hx=>by
  rcases List.mem_append.1 hx with h|h
  .exact hg.lo x h
  .rw[List.mem_singleton] at h;subst h;exact hz1
 have hp:∀k x,(l++[z])[k]?=some x->fD (l++[z]) k x.p:=λk x hx=>by
  rcases at_ hx with h|⟨rfl,rfl⟩
  .exact iN (hg.par k x h)
  .exact iN hzp
 refine⟨hi,hlo,hp,λk x hx=>?_,λx hx=>?_,λx hx=>?_⟩
 .rcases at_ hx with h|⟨rfl,rfl⟩
  .exact iN (hg.sec k x h)
  .exact iN hzs
 .rcases List.mem_append.1 hx with h|h
  .exact hg.two x h
  .rw[List.mem_singleton] at h;subst h;exact h2
 .rcases List.mem_append.1 hx with h|h
  .rw[EP hg hz hz1.1 hzp h];exact hg.chn x h
  .rw [List.mem_singleton] at h;subst h;rw[uY hi (λx hx=>(hlo x hx).1) hp hx,List.length_append];have:(bN (l++[x]) x.p).length<=11:=by
    rcases hzp with h0|⟨j,y,_,h4,h5,_⟩
    .rw[h0,qA λx hx=>(hlo x hx).1];simp
    .rw[<- h5,EP hg hz hz1.1 (.inr ⟨j,y,(List.getElem?_eq_some_iff.1 h4).1,h4,h5,by assumption⟩) (List.mem_of_getElem? h4),h5];exact hc
   simp only[List.length_cons,List.length_nil];omega
end
section
variable {d:Dr}{x:Ly}{y:Ly × List It}{id a:Int}{r:Rm}{n:Nm}{t:List It}{l:List Ly}{N:List Nm}
structure OkW (d:Dr):Prop where
 g:OkG d.G
 t:∀y∈d.L,OkT y.2
 srt:wZ d.N
 nm:∀n∈d.N,aZ n.n=true/\∃y∈d.L,y.1.i=n.l
 one:∀n∈d.N,∀m∈d.N,n.l=m.l->(∀y∈d.L,y.1.i=n.l->y.1.f=false)->n=m
 nx:(∀y∈d.L,y.1.i<d.x)/\1<=d.x/\d.x<=2147483647
 ln:d.N.length<=20
structure SimW (r:Rm) (d:Dr):Prop extends OkW d where
 N:r.N=d.N
 L:r.L=d.G
 x:r.x=d.x
 e:∀y∈d.L,lH r.E y.1.i=eG (bU d y.1.p) y.2
structure Sim (r:Rm) (d:Dr):Prop extends SimW r d where
 kept:∀y∈d.L,∃n∈d.N,y.1.i∈pW d.G n.l
 len:d.L.length<=40
theorem JJ: x∈d.G↔∃y∈d.L,y.1=x:=by unfold Dr.G;rw[List.mem_map]
theorem oK(h:y∈d.L):y.1∈d.G:=JJ.2 ⟨y,h,rfl⟩
theorem iX(hi:pV d.G)(hy:y∈d.L):bU d y.1.i=y.2:=by unfold bU;rw[nP hi hy]
theorem lV(h:∀y∈d.L,y.1.i≠id):bU d id=[]:=by
 unfold bU;cases hl:qY d id with
 | none=>rfl
 | some y=>obtain⟨h1,h2⟩:=nO hl;exact absurd h2 (h y h1)
theorem OkW.tree(h:OkW d)(id:Int):OkT (bU d id):=by
 unfold bU;cases hl:qY d id with
 | none=>exact OkT.nil
 | some y=>exact h.t y (nO hl).1
theorem OkW.zero(h:OkW d):bU d 0=[]:=lV λy hy e=>by have:=h.g.lo1 y.1 (oK hy);omega
theorem SimW.tree(h:SimW r d)(id:Int):HS r id=(bU d id,true):=by
 cases hl:qY d id with
 | none =>
  have hno:=JE hl;rw[lV hno];unfold HS nQ bN;rw[h.L,kC]
  .rfl
  .rw[zD6,hl];rfl
 | some y =>
  obtain⟨h1,rfl⟩:=nO hl;have hm:y.1∈r.L:=by rw[h.L];exact oK h1
  obtain⟨k,hk⟩:=List.mem_iff_getElem?.1 hm;refine zAF (by rw[h.L];exact h.g) (bU d) h.toOkW.zero (λx _=>h.toOkW.tree x.i) (λx hx=>?_) k hk;rw[h.L] at hx;obtain⟨z,hz,rfl⟩:=JJ.1 hx;rw[h.e z hz,iX h.g.inc hz]
theorem SimW.treeR(h:SimW r d)(id:Int):treeR r id=bU d id:=by unfold Dm.treeR;rw[h.tree]
theorem OkW.named(h:OkW d)(hn:n∈d.N):∃y,qY d n.l=some y/\y∈d.L/\y.1.i=n.l:=by
 obtain⟨_,y,h1,h2⟩:=h.nm n hn;exact⟨y,by rw[<- h2];exact nP h.g.inc h1,h1,h2⟩
theorem OkW.name0(h:OkW d)(s:List UInt8):(bQ d.N s==0) = !(fV d.N s).isSome:=by
 unfold bQ;cases hn:fV d.N s with
 | none=>rfl
 | some n =>
  obtain⟨h1,h2⟩:=cN hn;obtain⟨y,_,h3,h4⟩:=h.named h1;have:=h.g.lo1 y.1 (oK h3);simp only[Option.isSome_some,Bool.not_true,beq_eq_false_iff_ne,ne_eq];omega
theorem zOW(d:Dr)(id:Int)(t:List It):(mD d id t).G=d.G:=by
 unfold mD Dr.G;have:∀l:List (Ly × List It),(CQ id t l).map (·.1)=l.map (·.1):=by
  intro l
  induction l with
  | nil=>rfl
  | cons y l ih =>
   simp only[CQ];split
   .rfl
   .simp only[List.map_cons,ih]
 exact this d.L
theorem uQ: ∀{l:List (Ly × List It)},y∈CQ id t l->(y∈l)∨(y.1.i=id/\y.2=t/\∃z∈l,z.1=y.1)
 | [],h=>by cases h
 | z::l,h=>by
  simp only[CQ] at h;split at h
  .rename_i hz;rcases List.mem_cons.1 h with rfl|h
   .exact .inr ⟨by simpa using hz,rfl,z,List.mem_cons_self,rfl⟩
   .exact .inl (List.mem_cons_of_mem _ h)
  .rcases List.mem_cons.1 h with rfl|h
   .exact .inl List.mem_cons_self
   .rcases uQ h with h|⟨h1,h2,w,h3,h4⟩
    .exact .inl (List.mem_cons_of_mem _ h)
    .exact .inr ⟨h1,h2,w,List.mem_cons_of_mem _ h3,h4⟩
theorem ZX(d:Dr)(id:Int)(t:List It)(a:Int):qY (mD d id t) a=if a=id then (qY d a).map (λy=>(y.1,t)) else qY d a:=by
 unfold qY mD;have:∀l:List (Ly × List It),(CQ id t l).find? (λy=>y.1.i==a)=if a=id then (l.find? λy=>y.1.i==a).map (λy=>(y.1,t)) else l.find? λy=>y.1.i==a:=by
  intro l
  induction l with
  | nil=>simp[CQ]
  | cons y l ih =>
   simp only[CQ];split
   .rename_i hy;have hy:=eq_of_beq hy;rw[List.find?_cons,List.find?_cons];by_cases ha:a=id
    .subst ha;rw[if_pos rfl,show (y.1.i==a)=true by rw[hy];simp]
     rfl
    .rw[if_neg ha,show (y.1.i==a)=false by rw[hy];simpa using λe=>ha e.symm]
   .rename_i hy;rw[List.find?_cons,List.find?_cons,ih];by_cases ha:a=id
    .subst ha;rw[if_pos rfl,if_pos rfl,show (y.1.i==a)=false by simpa using hy]
    .rw[if_neg ha,if_neg ha]
 exact this d.L
theorem RY(h:(qY d id).isSome=true)(a:Int):bU (mD d id t) a=if a=id then t else bU d a:=by
 unfold bU;rw[ZX];by_cases ha:a=id
 .subst ha;rw[if_pos rfl,if_pos rfl];obtain⟨y,hy⟩:=Option.isSome_iff_exists.1 h;rw[hy];rfl
 .rw[if_neg ha,if_neg ha]
theorem RX(hi:pV d.G)(id:Int):mD d id (bU d id)=d:=by
 unfold mD;have key:∀(l:List (Ly × List It)) (t:List It),pV (l.map (·.1))->(∀y∈l,y.1.i=id->y.2=t)->CQ id t l=l:=by
  intro l t
  induction l with
  | nil=>intro _ _;rfl
  | cons y l ih =>
   intro hp h;have h2:=List.pairwise_cons.1 hp;simp only[CQ];split
   .rename_i hy;rw[<- h y List.mem_cons_self (eq_of_beq hy)]
   .rw[ih h2.2 λz hz=>h z (List.mem_cons_of_mem _ hz)]
 rw[key d.L (bU d id) hi λy hy e=>by rw[<- e,iX hi hy]]
theorem OkW.below(h:OkW d)(hy:y∈d.L):y.1.p=0∨∃z∈d.L,z.1.i=y.1.p/\z.1.f=true/\z.1.i<y.1.i:=by
 obtain⟨k,hk⟩:=List.mem_iff_getElem?.1 (oK hy);rcases h.g.par k _ hk with h0|⟨j,x,h1,h2,h3,h4⟩
 .exact .inl h0
 .obtain⟨z,hz,rfl⟩:=JJ.1 (List.mem_of_getElem? h2);exact .inr ⟨z,hz,h3,h4,YL h.g.inc h2 hk h1⟩
theorem zIF(h:pV d.G){x:Ly × List It}(hx:x∈d.L)(hy:y∈d.L)(e:x.1.i=y.1.i):x=y:=by
 have h1:=nP h hx;rw[e,nP h hy] at h1;exact(Option.some.inj h1).symm
theorem zMq(h:Sim r d)(hy:y∈d.L)(hf:y.1.f=false)(ht:OkT t):
  Sim ⟨r.N,r.L,oI r.E y.1.i (eG (bU d y.1.p) t),r.x⟩ (mD d y.1.i t):=by
 have hG:=zOW d y.1.i t;have hso:(qY d y.1.i).isSome=true:=by rw[nP h.g.inc hy];rfl
 have frame:∀z∈(mD d y.1.i t).L,∃z0∈d.L,z0.1=z.1:=λz hz=>by
  rcases uQ hz with h1|⟨_,_,w,h1,h2⟩
  .exact⟨z,h1,rfl⟩
  .exact⟨w,h1,h2⟩
 have back:∀z0∈d.L,∃z∈(mD d y.1.i t).L,z.1=z0.1:=λz0 hz0=>by
  have:=oK hz0;rw[<- hG] at this;exact JJ.1 this
 refine { g:=by rw[hG];exact h.g,t:=λz hz=>?_,srt:=h.srt,nm:=λn hn=>?_,one:=λn hn m hm e hfz=>?_,nx:=⟨λz hz=>?_,h.nx.2⟩,ln:=h.ln,N:=h.N,L:=by rw[hG];exact h.L,x:=h.x,e:=λz hz=>?_,kept:=λz hz=>?_,len:=?_ }
 .rcases uQ hz with h1|⟨_,h2,_⟩
  .exact h.t z h1
  .rw[h2];exact ht
 .obtain⟨h1,z0,h2,h3⟩:=h.nm n hn;obtain⟨z,h4,h5⟩:=back z0 h2;exact⟨h1,z,h4,by rw[h5];exact h3⟩
 .refine h.one n hn m hm e λz0 h2 h3=>?_;obtain⟨z,h4,h5⟩:=back z0 h2;rw[<- h5];exact hfz z h4 (by rw[h5];exact h3)
 .obtain⟨z0,h1,h2⟩:=frame z hz;rw[<- h2];exact h.nx.1 z0 h1
 .obtain ⟨z0,h1,h2⟩:=frame z hz;have hp:bU (mD d y.1.i t) z.1.p=bU d z.1.p:=by
   rw[RY hso,if_neg];intro e;rcases h.toOkW.below h1 with h3|⟨w,h3,h4,h5,_⟩
   .rw[h2,e] at h3;have:=h.g.lo1 y.1 (oK hy);omega
   .rw[h2,e] at h4;rw[zIF h.g.inc h3 hy h4,hf] at h5;cases h5
  rw[hp];by_cases hzi:z.1.i=y.1.i
  .show lH (oI r.E y.1.i _) z.1.i=_;have hz0y:z0=y:=zIF h.g.inc h1 hy (by rw[h2];exact hzi);subst hz0y;rw[hzi,tY,<- h2]
   congr 1
   rcases uQ hz with h3|⟨_,h4,_⟩
   .have hlz:=nP (d:=mD d z0.1.i t) (by rw[hG];exact h.g.inc) hz;rw[ZX,if_pos hzi,hzi,nP h.g.inc hy] at hlz;simp only[Option.map_some,Option.some.injEq] at hlz;rw[<- hlz]
   .exact h4.symm
  .show lH (oI r.E y.1.i _) z.1.i=_;rw[qJ _ _ hzi];rcases uQ hz with h3|⟨h4,_⟩
   .exact h.e z h3
   .exact absurd h4 hzi
 .obtain⟨z0,h1,h2⟩:=frame z hz;rw[hG,<- h2];exact h.kept z0 h1
 .have:(mD d y.1.i t).L.length=d.L.length:=by
   have:=congrArg List.length hG;simpa[Dr.G] using this
  rw[this];exact h.len
def DY(L:List Ly)(E:List (Int × List En)):List (Int × List En):=L.foldl (λk l=>oI k l.i (lH E l.i)) []
theorem LH(E:List (Int × List En)):∀(L:List Ly) (K:List (Int × List En)) (a:Int),lH (L.foldl (λk l=>oI k l.i (lH E l.i)) K) a=if L.any (λx=>x.i==a) then lH E a else lH K a
 | [],K,a=>rfl
 | x::L,K,a=>by
  rw[List.foldl_cons,LH E L,List.any_cons];by_cases hL:L.any (λx=>x.i==a)=true
  .rw[if_pos hL,if_pos (by rw[hL];simp)]
  .rw[if_neg hL];by_cases hx:x.i=a
   .subst hx;rw[tY,if_pos (by simp)]
   .rw[qJ _ _ (λe=>hx e.symm),if_neg];simp[hx];simpa using hL
theorem zAh{L:List Ly}{E:List (Int × List En)}(h:x∈L):lH (DY L E) x.i=lH E x.i:=by
 unfold DY;rw[LH,if_pos];exact List.any_eq_true.2 ⟨x,h,by simp⟩
def mF(N:List Nm):List Int:=N.map (·.l)
theorem yB(hi:pV d.G):zAW d=d.L.filter λy=>rQ d.G (mF d.N) y.1.i:=by
 have key:∀(l:List (Ly × List It)) (p:Int->Bool),(∀y∈l,qY d y.1.i=some y)->((l.map (·.1)).filter λx=>p x.i).filterMap (λy=>qY d y.i)=l.filter λy=>p y.1.i:=by
  intro l p
  induction l with
  | nil=>intro _;rfl
  | cons y l ih =>
   intro h;rw[List.map_cons,List.filter_cons,List.filter_cons];split
   .rw[List.filterMap_cons,h y List.mem_cons_self,ih λz hz=>h z (List.mem_cons_of_mem _ hz)]
   .exact ih λz hz=>h z (List.mem_cons_of_mem _ hz)
 exact key d.L (rQ d.G (mF d.N)) λy hy=>nP hi hy
theorem zEx(hi:pV d.G):(oY d).G=kL d.G (mF d.N):=by
 show (zAW d).map (·.1)=_
 rw[yB hi,tK];unfold oH Dr.G;rw[List.filter_map];rfl
theorem yA(hi:pV d.G):y∈(oY d).L↔y∈d.L/\rQ d.G (mF d.N) y.1.i=true:=by
 show y∈zAW d↔_;rw[yB hi,List.mem_filter]
theorem VN(hn:n∈N)(h:a∈pW l n.l):rQ l (mF N) a=true :=
 List.any_eq_true.2 ⟨n.l,List.mem_map.2 ⟨n,hn,rfl⟩,by rw[List.contains_iff_mem];exact h⟩
theorem zFa(h:rQ l (mF N) a=true):∃n∈N,a∈pW l n.l:=by
 obtain⟨id,h1,h2⟩:=List.any_eq_true.1 h;obtain⟨n,h3,rfl⟩:=List.mem_map.1 h1;exact⟨n,h3,by rw[List.contains_iff_mem] at h2;exact h2⟩
theorem NL(hg:OkG d.G)(h:a=0∨rQ d.G (mF d.N) a=true):bU (oY d) a=bU d a:=by
 have hk:pV (oY d).G:=by rw[zEx hg.inc,tK];exact(JT hg (rR hg _)).inc
 cases hl:qY d a with
 | none =>
  have hno:=JE hl;rw[lV hno,lV λy hy=>hno y ((yA hg.inc).1 hy).1]
 | some y =>
  obtain⟨h1,rfl⟩:=nO hl;rcases h with h|h
  .have:=hg.lo1 y.1 (oK h1);omega
  .rw[iX hg.inc h1,iX hk ((yA hg.inc).2 ⟨h1,h⟩)]
theorem ZN(h:SimW r d)(hl:(oY d).L.length<=40):Sim ⟨r.N,kL r.L (mF r.N),DY (kL r.L (mF r.N)) r.E,r.x⟩ (oY d):=by
 have hG:=zEx h.g.inc;have hcl:=rR h.g (mF d.N);have hpg:OkG (oY d).G:=by rw[hG,tK];exact JT h.g hcl
 have hm:∀y,y∈(oY d).L↔y∈d.L/\rQ d.G (mF d.N) y.1.i=true:=λy=>yA h.g.inc;have hnm:∀n∈d.N,rQ d.G (mF d.N) n.l=true:=λn hn=>by
  obtain⟨y,_,h1,h2⟩:=h.toOkW.named hn;exact VN hn (by rw[<- h2];exact mH (oK h1))
 refine { g:=hpg,t:=λy hy=>h.t y ((hm y).1 hy).1,srt:=h.srt,nm:=λn hn=>?_,one:=λn hn m hmm e hfz=>?_,nx:=⟨λy hy=>h.nx.1 y ((hm y).1 hy).1,h.nx.2⟩,ln:=h.ln,N:=h.N,L:=?_,x:=h.x,e:=λy hy=>?_,kept:=λy hy=>?_,len:=hl }
 .obtain⟨h1,y,h2,h3⟩:=h.nm n hn;exact⟨h1,y,(hm y).2 ⟨h2,by rw[h3];exact hnm n hn⟩,h3⟩
 .exact h.one n hn m hmm e λy h2 h3=>hfz y ((hm y).2 ⟨h2,by rw[h3];exact hnm n hn⟩) h3
 .show kL r.L (mF r.N)=_;rw[hG,h.L,h.N]
 .obtain ⟨h1,h2⟩:=(hm y).1 hy;show lH (DY _ r.E) y.1.i=_;have:y.1∈kL r.L (mF r.N):=by
   rw[h.L,h.N,<- hG];exact oK hy
  rw[zAh this,h.e y h1]
  congr 1
  refine(NL h.g ?_).symm;rcases h.toOkW.below h1 with h3|⟨z,h3,h4,_⟩
  .exact .inl h3
  .exact .inr (by rw[<- h4];exact hcl y.1 (oK h1) h2 z.1 (oK h3) (.inl h4))
 .obtain⟨h1,h2⟩:=(hm y).1 hy;obtain⟨n,h3,h4⟩:=zFa h2;refine⟨n,h3,?_⟩;rw[hG,tK,zI8 h.g hcl (hnm n h3)];exact h4
end
theorem zCY{a p:List UInt8}(ha:a≠[])(h:aM p=a):aJ a p=true:=eF ha (by rw[h];exact ha) (.inl h)
theorem zFd{t w:List It}{x:It}(ht:OkT t)(hx:x.p≠[])(h:zFc t w x=true):∃y∈t,aM y.p=x.p:=by
 unfold zFc at h;simp only[Bool.and_eq_true,Bool.not_eq_true',decide_eq_false_iff_not] at h;obtain⟨⟨_,_,h1⟩,_⟩:=h;have h2:0<(iI t x.p).length:=by omega
 rw[zA4] at h2;obtain⟨y,hy⟩:=List.exists_mem_of_length_pos h2;obtain⟨h3,h4⟩:=List.mem_filter.1 hy;exact⟨y,h3,eq_of_beq h4⟩
theorem tO{t:List It}(ht:OkT t):eG t t=[]:=by
 obtain⟨_,hm⟩:=nS ht ht;refine List.eq_nil_iff_forall_not_mem.2 λe he=>?_;rcases (hm e).1 he with h|⟨y,hy,_,h,_⟩
 .obtain ⟨x,hx,h⟩:=List.mem_flatMap.1 h;have hg:=dH ht.srt hx;unfold WK at h;split at h
  .rename_i hi;have hb:=JS ht hx hi;obtain⟨y,hy,hd⟩:=zFd ht (ht.ne x hx) hb;unfold zFc at hb;simp only[Bool.and_eq_true,Bool.not_eq_true'] at hb;have:RL t t x.p=true:=List.any_eq_true.2 ⟨y,hy,by rw[xX hy,zCY (ht.ne x hx) hd];rfl⟩
   rw[this] at hb;exact absurd hb.2 (by decide)
  .rw[hg] at h;simp only[Option.isSome_some,Option.getD_some,sE,Bool.not_true,Bool.or_false,Bool.false_eq_true,if_false] at h;cases h
 .rw[xX hy] at h;cases h
end Go.Dm
end
