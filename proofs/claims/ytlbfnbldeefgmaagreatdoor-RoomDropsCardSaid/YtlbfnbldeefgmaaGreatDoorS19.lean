/- Part 20 of the proof of roomDrops_card, set without needless blanks. No condition. -/
import Derived.Test.YtlbfnbldeefgmaaGreatDoorS18
set_option linter.all false
set_option maxRecDepth 100000
set_option maxHeartbeats 16000000
section
namespace Go.Dm
open Go
section
variable {l:List Ly}{p:Int->Bool}{x z:Ly}{k:Nat}{id a:Int}
def FW(l:List Ly)(p:Int->Bool):Prop:=∀x∈l,p x.i=true->∀y∈l,(y.i=x.p∨y.i=x.s)->p y.i=true
def nU(l:List Ly)(p:Int->Bool):List Ly:=l.filter λx=>p x.i
theorem eG: x∈nU l p↔x∈l/\p x.i=true:=by unfold nU;rw[List.mem_filter]
theorem zDD(h:pJ l){y:Ly}(hx:x∈l)(hy:y∈l)(e:x.i=y.i):x=y:=by
 have h1:=nD h hx;have h2:=nD h hy;rw[e,h2] at h1;exact(Option.some.inj h1).symm
theorem rP(hi:pJ l){q:Nat}(hx:l[k]?=some x)(hq:(nU l p)[q]?=some x)(hc:∀y∈l,y.i=id->p y.i=true)(h:eW l k id):eW (nU l p) q id:=by
 rcases h with h|⟨j,y,h1,h2,h3,h4⟩
 .exact .inl h
 .right;have hy:=List.mem_of_getElem? h2;have hm:y∈nU l p:=eG.2 ⟨hy,hc y hy h3⟩;obtain⟨j',hj'⟩:=List.mem_iff_getElem?.1 hm;refine⟨j',y,?_,hj',h3,h4⟩;have hlt:=XH hi h2 hx h1;have hip:pJ (nU l p):=List.Pairwise.sublist List.filter_sublist hi;rcases Nat.lt_trichotomy j' q with h|h|h
  .exact h
  .subst h;rw[hq] at hj';cases hj';omega
  .have:=XH hip hq hj' h;omega
theorem zAF(hg:OkG l)(hc:FW l p):∀(k:Nat) {x:Ly},l[k]?=some x->p x.i=true->bL (nU l p) x.i=bL l x.i:=by
 have hip:pJ (nU l p):=List.Pairwise.sublist List.filter_sublist hg.inc;have hlo:∀x∈nU l p,1<=x.i:=λx hx=>hg.lo1 x (eG.1 hx).1;have hpar:∀q x,(nU l p)[q]?=some x->eW (nU l p) q x.p:=λq x hq=>by
  obtain⟨h1,h2⟩:=eG.1 (List.mem_of_getElem? hq);obtain⟨k,hk⟩:=List.mem_iff_getElem?.1 h1;exact rP hg.inc hk hq (λy hy e=>hc x h1 h2 y hy (.inl e)) (hg.par k x hk)
 intro k
 induction k using Nat.strongRecOn with
 | ind k ih =>
  intro x hx hp;have hm:=List.mem_of_getElem? hx;rw[uQ hip hlo hpar (eG.2 ⟨hm,hp⟩),hg.step hm]
  congr 1
  rcases hg.par k x hx with h0|⟨j,y,h1,h2,h3,_⟩
  .rw[h0,pO hlo,pO hg.lo1]
  .rw[<- h3];exact ih j h1 h2 (hc x hm hp y (List.mem_of_getElem? h2) (.inl h3))
theorem HX(hg:OkG l)(hc:FW l p):OkG (nU l p):=by
 have at_:∀(q:Nat) (x:Ly),(nU l p)[q]?=some x->∃k,l[k]?=some x/\p x.i=true:=λq x hq=>by
  obtain⟨h1,h2⟩:=eG.1 (List.mem_of_getElem? hq);obtain⟨k,hk⟩:=List.mem_iff_getElem?.1 h1;exact⟨k,hk,h2⟩
 refine OkG.mk (List.Pairwise.sublist List.filter_sublist hg.inc) (λx hx=>hg.lo x (eG.1 hx).1) (λq x hq=>?_) (λq x hq=>?_) (λx hx=>hg.two x (eG.1 hx).1) (λx hx=>?_)
 .obtain⟨k,hk,hp⟩:=at_ q x hq;exact rP hg.inc hk hq (λy hy e=>hc x (List.mem_of_getElem? hk) hp y hy (.inl e)) (hg.par k x hk)
 .obtain⟨k,hk,hp⟩:=at_ q x hq;exact rP hg.inc hk hq (λy hy e=>hc x (List.mem_of_getElem? hk) hp y hy (.inr e)) (hg.sec k x hk)
 .obtain⟨h1,h2⟩:=eG.1 hx;obtain⟨k,hk⟩:=List.mem_iff_getElem?.1 h1;rw[zAF hg hc k hk h2];exact hg.chn x h1
theorem zIi(hg:OkG l)(hc:FW l p)(hid:p id=true):lW (nU l p) id=lW l id:=by
 have hpg:=HX hg hc;refine SU (GA hpg.inc id) (GA hg.inc id) λa=>⟨λha=>?_,λha=>?_⟩
 .refine pL (l:=nU l p) (C:=(·∈lW l id)) (λx hx e=>?_) (λx hx hcx y hy hp=>GB hg (eG.1 hx).1 (eG.1 hy).1 hcx hp) a ha
  rw[<- e];exact lY (eG.1 hx).1
 .refine pL (l:=l) (C:=(·∈lW (nU l p) id)) (λx hx e=>?_) (λx hx hcx y hy hp=>?_) a ha
  .rw[<- e];exact lY (eG.2 ⟨hx,by rw[e];exact hid⟩)
  .obtain⟨z,hz,e⟩:=zF8 hcx;obtain rfl:=zDD hg.inc (eG.1 hz).1 hx e;exact GB hpg hz (eG.2 ⟨hy,hc z hx (eG.1 hz).2 y hy hp⟩) hcx hp
theorem YU(hg:OkG l)(h:a∈lW l id):a=id∨∃y∈l,y.i=a/\y.f=true:=by
 refine pL (l:=l) (C:=λa=>a=id∨∃y∈l,y.i=a/\y.f=true) (λx _ e=>.inl e) (λx hx _ y hy hp=>.inr ⟨y,hy,rfl,?_⟩) a h;obtain⟨k,hk⟩:=List.mem_iff_getElem?.1 hx;have st:∀q,eW l k q->y.i=q->y.f=true:=λq hq e=>by
  rcases hq with hq|⟨j,z,_,h2,h3,h4⟩
  .have:=hg.lo1 y hy;omega
  .rw[zDD hg.inc hy (List.mem_of_getElem? h2) (by omega)];exact h4
 rcases hp with hp|hp
 .exact st _ (hg.par k x hk) hp
 .exact st _ (hg.sec k x hk) hp
def rE(l:List Ly)(ids:List Int)(a:Int):Bool:=ids.any λid=>(lW l id).contains a
theorem sY(l:List Ly)(ids:List Int):gX l ids=nU l (rE l ids):=rfl
theorem rF(hg:OkG l)(ids:List Int):FW l (rE l ids):=λx hx hp y hy h=>by
 unfold rE at hp ⊢;obtain⟨id,h1,h2⟩:=List.any_eq_true.1 hp;refine List.any_eq_true.2 ⟨id,h1,?_⟩;rw[List.contains_iff_mem] at h2 ⊢;exact GB hg hx hy h2 h
def CF(id:Int)(x:Ly):Ly:=⟨x.i,x.p,x.s,x.f || x.i==id⟩
def nW(l:List Ly)(id:Int):List Ly:=l.map (CF id)
theorem zHC(l:List Ly)(id a:Int):eU (nW l id) a=(eU l a).map (CF id):=by
 unfold eU nW
 induction l with
 | nil=>rfl
 | cons x l ih =>
  rw[List.map_cons,List.find?_cons,List.find?_cons];show (match (x.i==a) with|true=>_|false=>_)=_
  cases x.i==a
  .exact ih
  .rfl
theorem DU(l:List Ly)(id:Int):∀(n:Nat) (a:Int),eI (nW l id) n a=eI l n a
 | 0,_=>rfl
 | n+1,a=>by
  simp only[eI,zHC];cases eU l a with
  | none=>rfl
  | some x=>simp only[Option.map_some,CF];rw[DU l id n x.p]
theorem zO(l:List Ly)(id a:Int):bL (nW l id) a=bL l a:=by
 unfold bL;rw[DU,show (nW l id).length=l.length by simp[nW]]
theorem DW(h:eW l k a):eW (nW l id) k a:=by
 rcases h with h|⟨j,y,h1,h2,h3,h4⟩
 .exact .inl h
 .exact .inr ⟨j,CF id y,h1,by unfold nW;rw[List.getElem?_map,h2];rfl,h3,by show (y.f || _)=true;rw[h4];rfl⟩
theorem zJt(h:(nW l id)[k]?=some x):∃y,l[k]?=some y/\x=CF id y:=by
 unfold nW at h;rw[List.getElem?_map] at h;obtain⟨y,h1,h2⟩:=Option.map_eq_some_iff.1 h;exact⟨y,h1,h2.symm⟩
theorem SN(h:x∈nW l id):∃y∈l,x=CF id y:=by
 unfold nW at h;obtain⟨y,h1,h2⟩:=List.mem_map.1 h;exact⟨y,h1,h2.symm⟩
theorem zJu(hg:OkG l)(id:Int):OkG (nW l id):=by
 refine⟨?_,λx hx=>?_,λk x hx=>?_,λk x hx=>?_,λx hx=>?_,λx hx=>?_⟩
 .unfold pJ nW;rw[List.pairwise_map];exact hg.inc
 .obtain⟨y,h1,rfl⟩:=SN hx;exact hg.lo y h1
 .obtain⟨y,h1,rfl⟩:=zJt hx;exact DW (hg.par k y h1)
 .obtain⟨y,h1,rfl⟩:=zJt hx;exact DW (hg.sec k y h1)
 .obtain⟨y,h1,rfl⟩:=SN hx;exact hg.two y h1
 .obtain⟨y,h1,rfl⟩:=SN hx;rw[zO];exact hg.chn y h1
theorem iD(h:eW l k a):eW (l++[z]) k a:=by
 rcases h with h|⟨j,y,h1,h2,h3,h4⟩
 .exact .inl h
 .exact .inr ⟨j,y,h1,by rw[List.getElem?_append_left (List.getElem?_eq_some_iff.1 h2).1];exact h2,h3,h4⟩
theorem HE(h:pJ l)(hz:∀x∈l,x.i<z.i):pJ (l++[z]) :=
 List.pairwise_append.2 ⟨h,List.pairwise_singleton _ _,λa ha b hb=>by rw[List.mem_singleton] at hb;subst hb;exact hz a ha⟩
theorem DY(hg:OkG l)(hz:∀x∈l,x.i<z.i)(hz1:1<=z.i)(hzp:eW l l.length z.p)(hx:x∈l):bL (l++[z]) x.i=bL l x.i:=by
 obtain ⟨k,hk⟩:=List.mem_iff_getElem?.1 hx;have hlt:=(List.getElem?_eq_some_iff.1 hk).1;have hi:=HE hg.inc hz;have hlo:∀x∈l++[z],1<=x.i:=λx hx=>by
  rcases List.mem_append.1 hx with h|h
  .exact hg.lo1 x h
  .rw[List.mem_singleton] at h;subst h;exact hz1
 have hp:∀k x,(l++[z])[k]?=some x->eW (l++[z]) k x.p:=λk x hx=>by
  rcases Nat.lt_or_ge k l.length with h|h
  .rw[List.getElem?_append_left h] at hx;exact iD (hg.par k x hx)
  .have hk2:k=l.length:=by
    have:=(List.getElem?_eq_some_iff.1 hx).1;simp only[List.length_append,List.length_cons,List.length_nil] at this;omega
   subst hk2;rw[List.getElem?_append_right (Nat.le_refl _),Nat.sub_self] at hx;cases hx;exact iD hzp
 have h1:=pN hi hlo hp k (j:=l.length) (n:=l.length+1) (m:=(l++[z]).length+1) (by rw[List.getElem?_append_left hlt];exact hk) hlt (by omega) (by simp;omega);unfold bL;rw[<- h1,List.take_left'];rfl
theorem zDw(hg:OkG l)(hz:∀x∈l,x.i<z.i)(hz1:1<=z.i/\z.i<=2147483647)(hzp:eW l l.length z.p)(hzs:eW l l.length z.s)(h2:z.s≠0->z.p≠0/\z.p≠z.s)(hc:(bL l z.p).length<=11):OkG (l++[z]):=by
 have at_:∀{k:Nat} {x:Ly},(l++[z])[k]?=some x->l[k]?=some x∨(k=l.length/\x=z):=λ{k x} hx=>by
  rcases Nat.lt_or_ge k l.length with h|h
  .rw[List.getElem?_append_left h] at hx;exact .inl hx
  .have hk2:k=l.length:=by
    have:=(List.getElem?_eq_some_iff.1 hx).1;simp only[List.length_append,List.length_cons,List.length_nil] at this;omega
   subst hk2;rw[List.getElem?_append_right (Nat.le_refl _),Nat.sub_self] at hx;cases hx;exact .inr ⟨rfl,rfl⟩
 have hi:=HE hg.inc hz;have hlo:∀x∈l++[z],1<=x.i/\x.i<=2147483647:=λx hx=>by
  rcases List.mem_append.1 hx with h|h
  .exact hg.lo x h
  .rw[List.mem_singleton] at h;subst h;exact hz1
 have hp:∀k x,(l++[z])[k]?=some x->eW (l++[z]) k x.p:=λk x hx=>by
  rcases at_ hx with h|⟨rfl,rfl⟩
  .exact iD (hg.par k x h)
  .exact iD hzp
 refine⟨hi,hlo,hp,λk x hx=>?_,λx hx=>?_,λx hx=>?_⟩
 .rcases at_ hx with h|⟨rfl,rfl⟩
  .exact iD (hg.sec k x h)
  .exact iD hzs
 .rcases List.mem_append.1 hx with h|h
  .exact hg.two x h
  .rw[List.mem_singleton] at h;subst h;exact h2
 .rcases List.mem_append.1 hx with h|h
  .rw[DY hg hz hz1.1 hzp h];exact hg.chn x h
  .rw [List.mem_singleton] at h;subst h;rw[uQ hi (λx hx=>(hlo x hx).1) hp hx,List.length_append];have:(bL (l++[x]) x.p).length<=11:=by
    rcases hzp with h0|⟨j,y,_,h4,h5,_⟩
    .rw[h0,pO λx hx=>(hlo x hx).1];simp
    .rw[<- h5,DY hg hz hz1.1 (.inr ⟨j,y,(List.getElem?_eq_some_iff.1 h4).1,h4,h5,by assumption⟩) (List.mem_of_getElem? h4),h5];exact hc
   simp only[List.length_cons,List.length_nil];omega
end
section
variable {d:Dr}{x:Ly}{y:Ly × List It}{id a:Int}{r:Rm}{n:Nm}{t:List It}{l:List Ly}{N:List Nm}
structure OkW (d:Dr):Prop where
 g:OkG d.G
 t:∀y∈d.L,OkT y.2
 srt:uL d.N
 nm:∀n∈d.N,bD n.n=true/\∃y∈d.L,y.1.i=n.l
 one:∀n∈d.N,∀m∈d.N,n.l=m.l->(∀y∈d.L,y.1.i=n.l->y.1.f=false)->n=m
 nx:(∀y∈d.L,y.1.i<d.x)/\1<=d.x/\d.x<=2147483647
 ln:d.N.length<=20
structure SimW (r:Rm) (d:Dr):Prop extends OkW d where
 N:r.N=d.N
 L:r.L=d.G
 x:r.x=d.x
 e:∀y∈d.L,lP r.E y.1.i=eB (cF d y.1.p) y.2
structure Sim (r:Rm) (d:Dr):Prop extends SimW r d where
 kept:∀y∈d.L,∃n∈d.N,y.1.i∈lW d.G n.l
 len:d.L.length<=40
theorem CT: x∈d.G↔∃y∈d.L,y.1=x:=by unfold Dr.G;rw[List.mem_map]
theorem nX(h:y∈d.L):y.1∈d.G:=CT.2 ⟨y,h,rfl⟩
theorem jP(hi:pJ d.G)(hy:y∈d.L):cF d y.1.i=y.2:=by unfold cF;rw[oP hi hy]
theorem lK(h:∀y∈d.L,y.1.i≠id):cF d id=[]:=by
 unfold cF;cases hl:rI d id with
 | none=>rfl
 | some y=>obtain⟨h1,h2⟩:=nF hl;exact absurd h2 (h y h1)
theorem OkW.tree(h:OkW d)(id:Int):OkT (cF d id):=by
 unfold cF;cases hl:rI d id with
 | none=>exact OkT.nil
 | some y=>exact h.t y (nF hl).1
theorem OkW.zero(h:OkW d):cF d 0=[]:=lK λy hy e=>by have:=h.g.lo1 y.1 (nX hy);omega
theorem SimW.tree(h:SimW r d)(id:Int):GZ r id=(cF d id,true):=by
 cases hl:rI d id with
 | none =>
  have hno:=HM hl;rw[lK hno];unfold GZ nG bL;rw[h.L,jQ]
  .rfl
  .rw[zJs,hl];rfl
 | some y =>
  obtain⟨h1,rfl⟩:=nF hl;have hm:y.1∈r.L:=by rw[h.L];exact nX h1
  obtain⟨k,hk⟩:=List.mem_iff_getElem?.1 hm;refine ZZ (by rw[h.L];exact h.g) (cF d) h.toOkW.zero (λx _=>h.toOkW.tree x.i) (λx hx=>?_) k hk;rw[h.L] at hx;obtain⟨z,hz,rfl⟩:=CT.1 hx;rw[h.e z hz,jP h.g.inc hz]
theorem SimW.treeR(h:SimW r d)(id:Int):treeR r id=cF d id:=by unfold Dm.treeR;rw[h.tree]
theorem OkW.named(h:OkW d)(hn:n∈d.N):∃y,rI d n.l=some y/\y∈d.L/\y.1.i=n.l:=by
 obtain⟨_,y,h1,h2⟩:=h.nm n hn;exact⟨y,by rw[<- h2];exact oP h.g.inc h1,h1,h2⟩
theorem OkW.name0(h:OkW d)(s:List UInt8):(cQ d.N s==0) = !(lX d.N s).isSome:=by
 unfold cQ;cases hn:lX d.N s with
 | none=>rfl
 | some n =>
  obtain⟨h1,h2⟩:=dO hn;obtain⟨y,_,h3,h4⟩:=h.named h1;have:=h.g.lo1 y.1 (nX h3);simp only[Option.isSome_some,Bool.not_true,beq_eq_false_iff_ne,ne_eq];omega
theorem zNZ(d:Dr)(id:Int)(t:List It):(pI d id t).G=d.G:=by
 unfold pI Dr.G;have:∀l:List (Ly × List It),(CB id t l).map (·.1)=l.map (·.1):=by
  intro l
  induction l with
  | nil=>rfl
  | cons y l ih =>
   simp only[CB];split
   .rfl
   .simp only[List.map_cons,ih]
 exact this d.L
theorem uH: ∀{l:List (Ly × List It)},y∈CB id t l->(y∈l)∨(y.1.i=id/\y.2=t/\∃z∈l,z.1=y.1)
 | [],h=>by cases h
 | z::l,h=>by
  simp only[CB] at h;split at h
  .rename_i hz;rcases List.mem_cons.1 h with rfl|h
   .exact .inr ⟨by simpa using hz,rfl,z,List.mem_cons_self,rfl⟩
   .exact .inl (List.mem_cons_of_mem _ h)
  .rcases List.mem_cons.1 h with rfl|h
   .exact .inl List.mem_cons_self
   .rcases uH h with h|⟨h1,h2,w,h3,h4⟩
    .exact .inl (List.mem_cons_of_mem _ h)
    .exact .inr ⟨h1,h2,w,List.mem_cons_of_mem _ h3,h4⟩
theorem YR(d:Dr)(id:Int)(t:List It)(a:Int):rI (pI d id t) a=if a=id then (rI d a).map (λy=>(y.1,t)) else rI d a:=by
 unfold rI pI;have:∀l:List (Ly × List It),(CB id t l).find? (λy=>y.1.i==a)=if a=id then (l.find? λy=>y.1.i==a).map (λy=>(y.1,t)) else l.find? λy=>y.1.i==a:=by
  intro l
  induction l with
  | nil=>simp[CB]
  | cons y l ih =>
   simp only[CB];split
   .rename_i hy;have hy:=eq_of_beq hy;rw[List.find?_cons,List.find?_cons];by_cases ha:a=id
    .subst ha;rw[if_pos rfl,show (y.1.i==a)=true by rw[hy];simp]
     rfl
    .rw[if_neg ha,show (y.1.i==a)=false by rw[hy];simpa using λe=>ha e.symm]
   .rename_i hy;rw[List.find?_cons,List.find?_cons,ih];by_cases ha:a=id
    .subst ha;rw[if_pos rfl,if_pos rfl,show (y.1.i==a)=false by simpa using hy]
    .rw[if_neg ha,if_neg ha]
 exact this d.L
theorem zFP(h:(rI d id).isSome=true)(a:Int):cF (pI d id t) a=if a=id then t else cF d a:=by
 unfold cF;rw[YR];by_cases ha:a=id
 .subst ha;rw[if_pos rfl,if_pos rfl];obtain⟨y,hy⟩:=Option.isSome_iff_exists.1 h;rw[hy];rfl
 .rw[if_neg ha,if_neg ha]
theorem QQ(hi:pJ d.G)(id:Int):pI d id (cF d id)=d:=by
 unfold pI;have key:∀(l:List (Ly × List It)) (t:List It),pJ (l.map (·.1))->(∀y∈l,y.1.i=id->y.2=t)->CB id t l=l:=by
  intro l t
  induction l with
  | nil=>intro _ _;rfl
  | cons y l ih =>
   intro hp h;have h2:=List.pairwise_cons.1 hp;simp only[CB];split
   .rename_i hy;rw[<- h y List.mem_cons_self (eq_of_beq hy)]
   .rw[ih h2.2 λz hz=>h z (List.mem_cons_of_mem _ hz)]
 rw[key d.L (cF d id) hi λy hy e=>by rw[<- e,jP hi hy]]
theorem OkW.below(h:OkW d)(hy:y∈d.L):y.1.p=0∨∃z∈d.L,z.1.i=y.1.p/\z.1.f=true/\z.1.i<y.1.i:=by
 obtain⟨k,hk⟩:=List.mem_iff_getElem?.1 (nX hy);rcases h.g.par k _ hk with h0|⟨j,x,h1,h2,h3,h4⟩
 .exact .inl h0
 .obtain⟨z,hz,rfl⟩:=CT.1 (List.mem_of_getElem? h2);exact .inr ⟨z,hz,h3,h4,XH h.g.inc h2 hk h1⟩
theorem zHN(h:pJ d.G){x:Ly × List It}(hx:x∈d.L)(hy:y∈d.L)(e:x.1.i=y.1.i):x=y:=by
 have h1:=oP h hx;rw[e,oP h hy] at h1;exact(Option.some.inj h1).symm
theorem zLB(h:Sim r d)(hy:y∈d.L)(hf:y.1.f=false)(ht:OkT t):
  Sim ⟨r.N,r.L,nV r.E y.1.i (eB (cF d y.1.p) t),r.x⟩ (pI d y.1.i t):=by
 have hG:=zNZ d y.1.i t;have hso:(rI d y.1.i).isSome=true:=by rw[oP h.g.inc hy];rfl
 have frame:∀z∈(pI d y.1.i t).L,∃z0∈d.L,z0.1=z.1:=λz hz=>by
  rcases uH hz with h1|⟨_,_,w,h1,h2⟩
  .exact⟨z,h1,rfl⟩
  .exact⟨w,h1,h2⟩
 have back:∀z0∈d.L,∃z∈(pI d y.1.i t).L,z.1=z0.1:=λz0 hz0=>by
  have:=nX hz0;rw[<- hG] at this;exact CT.1 this
 refine { g:=by rw[hG];exact h.g,t:=λz hz=>?_,srt:=h.srt,nm:=λn hn=>?_,one:=λn hn m hm e hfz=>?_,nx:=⟨λz hz=>?_,h.nx.2⟩,ln:=h.ln,N:=h.N,L:=by rw[hG];exact h.L,x:=h.x,e:=λz hz=>?_,kept:=λz hz=>?_,len:=?_ }
 .rcases uH hz with h1|⟨_,h2,_⟩
  .exact h.t z h1
  .rw[h2];exact ht
 .obtain⟨h1,z0,h2,h3⟩:=h.nm n hn;obtain⟨z,h4,h5⟩:=back z0 h2;exact⟨h1,z,h4,by rw[h5];exact h3⟩
 .refine h.one n hn m hm e λz0 h2 h3=>?_;obtain⟨z,h4,h5⟩:=back z0 h2;rw[<- h5];exact hfz z h4 (by rw[h5];exact h3)
 .obtain⟨z0,h1,h2⟩:=frame z hz;rw[<- h2];exact h.nx.1 z0 h1
 .obtain ⟨z0,h1,h2⟩:=frame z hz;have hp:cF (pI d y.1.i t) z.1.p=cF d z.1.p:=by
   rw[zFP hso,if_neg];intro e;rcases h.toOkW.below h1 with h3|⟨w,h3,h4,h5,_⟩
   .rw[h2,e] at h3;have:=h.g.lo1 y.1 (nX hy);omega
   .rw[h2,e] at h4;rw[zHN h.g.inc h3 hy h4,hf] at h5;cases h5
  rw[hp];by_cases hzi:z.1.i=y.1.i
  .show lP (nV r.E y.1.i _) z.1.i=_;have hz0y:z0=y:=zHN h.g.inc h1 hy (by rw[h2];exact hzi);subst hz0y;rw[hzi,tP,<- h2]
   congr 1
   rcases uH hz with h3|⟨_,h4,_⟩
   .have hlz:=oP (d:=pI d z0.1.i t) (by rw[hG];exact h.g.inc) hz;rw[YR,if_pos hzi,hzi,oP h.g.inc hy] at hlz;simp only[Option.map_some,Option.some.injEq] at hlz;rw[<- hlz]
   .exact h4.symm
  .show lP (nV r.E y.1.i _) z.1.i=_;rw[pW _ _ hzi];rcases uH hz with h3|⟨h4,_⟩
   .exact h.e z h3
   .exact absurd h4 hzi
 .obtain⟨z0,h1,h2⟩:=frame z hz;rw[hG,<- h2];exact h.kept z0 h1
 .have:(pI d y.1.i t).L.length=d.L.length:=by
   have:=congrArg List.length hG;simpa[Dr.G] using this
  rw[this];exact h.len
def DG(L:List Ly)(E:List (Int × List En)):List (Int × List En):=L.foldl (λk l=>nV k l.i (lP E l.i)) []
theorem KI(E:List (Int × List En)):∀(L:List Ly) (K:List (Int × List En)) (a:Int),lP (L.foldl (λk l=>nV k l.i (lP E l.i)) K) a=if L.any (λx=>x.i==a) then lP E a else lP K a
 | [],K,a=>rfl
 | x::L,K,a=>by
  rw[List.foldl_cons,KI E L,List.any_cons];by_cases hL:L.any (λx=>x.i==a)=true
  .rw[if_pos hL,if_pos (by rw[hL];simp)]
  .rw[if_neg hL];by_cases hx:x.i=a
   .subst hx;rw[tP,if_pos (by simp)]
   .rw[pW _ _ (λe=>hx e.symm),if_neg];simp[hx];simpa using hL
theorem ZB{L:List Ly}{E:List (Int × List En)}(h:x∈L):lP (DG L E) x.i=lP E x.i:=by
 unfold DG;rw[KI,if_pos];exact List.any_eq_true.2 ⟨x,h,by simp⟩
def iK(N:List Nm):List Int:=N.map (·.l)
theorem xR(hi:pJ d.G):zAn d=d.L.filter λy=>rE d.G (iK d.N) y.1.i:=by
 have key:∀(l:List (Ly × List It)) (p:Int->Bool),(∀y∈l,rI d y.1.i=some y)->((l.map (·.1)).filter λx=>p x.i).filterMap (λy=>rI d y.i)=l.filter λy=>p y.1.i:=by
  intro l p
  induction l with
  | nil=>intro _;rfl
  | cons y l ih =>
   intro h;rw[List.map_cons,List.filter_cons,List.filter_cons];split
   .rw[List.filterMap_cons,h y List.mem_cons_self,ih λz hz=>h z (List.mem_cons_of_mem _ hz)]
   .exact ih λz hz=>h z (List.mem_cons_of_mem _ hz)
 exact key d.L (rE d.G (iK d.N)) λy hy=>oP hi hy
theorem zDN(hi:pJ d.G):(oN d).G=gX d.G (iK d.N):=by
 show (zAn d).map (·.1)=_
 rw[xR hi,sY];unfold nU Dr.G;rw[List.filter_map];rfl
theorem xQ(hi:pJ d.G):y∈(oN d).L↔y∈d.L/\rE d.G (iK d.N) y.1.i=true:=by
 show y∈zAn d↔_;rw[xR hi,List.mem_filter]
theorem TD(hn:n∈N)(h:a∈lW l n.l):rE l (iK N) a=true :=
 List.any_eq_true.2 ⟨n.l,List.mem_map.2 ⟨n,hn,rfl⟩,by rw[List.contains_iff_mem];exact h⟩
theorem zEn(h:rE l (iK N) a=true):∃n∈N,a∈lW l n.l:=by
 obtain⟨id,h1,h2⟩:=List.any_eq_true.1 h;obtain⟨n,h3,rfl⟩:=List.mem_map.1 h1;exact⟨n,h3,by rw[List.contains_iff_mem] at h2;exact h2⟩
theorem MN(hg:OkG d.G)(h:a=0∨rE d.G (iK d.N) a=true):cF (oN d) a=cF d a:=by
 have hk:pJ (oN d).G:=by rw[zDN hg.inc,sY];exact(HX hg (rF hg _)).inc
 cases hl:rI d a with
 | none =>
  have hno:=HM hl;rw[lK hno,lK λy hy=>hno y ((xQ hg.inc).1 hy).1]
 | some y =>
  obtain⟨h1,rfl⟩:=nF hl;rcases h with h|h
  .have:=hg.lo1 y.1 (nX h1);omega
  .rw[jP hg.inc h1,jP hk ((xQ hg.inc).2 ⟨h1,h⟩)]
theorem YG(h:SimW r d)(hl:(oN d).L.length<=40):Sim ⟨r.N,gX r.L (iK r.N),DG (gX r.L (iK r.N)) r.E,r.x⟩ (oN d):=by
 have hG:=zDN h.g.inc;have hcl:=rF h.g (iK d.N);have hpg:OkG (oN d).G:=by rw[hG,sY];exact HX h.g hcl
 have hm:∀y,y∈(oN d).L↔y∈d.L/\rE d.G (iK d.N) y.1.i=true:=λy=>xQ h.g.inc;have hnm:∀n∈d.N,rE d.G (iK d.N) n.l=true:=λn hn=>by
  obtain⟨y,_,h1,h2⟩:=h.toOkW.named hn;exact TD hn (by rw[<- h2];exact lY (nX h1))
 refine { g:=hpg,t:=λy hy=>h.t y ((hm y).1 hy).1,srt:=h.srt,nm:=λn hn=>?_,one:=λn hn m hmm e hfz=>?_,nx:=⟨λy hy=>h.nx.1 y ((hm y).1 hy).1,h.nx.2⟩,ln:=h.ln,N:=h.N,L:=?_,x:=h.x,e:=λy hy=>?_,kept:=λy hy=>?_,len:=hl }
 .obtain⟨h1,y,h2,h3⟩:=h.nm n hn;exact⟨h1,y,(hm y).2 ⟨h2,by rw[h3];exact hnm n hn⟩,h3⟩
 .exact h.one n hn m hmm e λy h2 h3=>hfz y ((hm y).2 ⟨h2,by rw[h3];exact hnm n hn⟩) h3
 .show gX r.L (iK r.N)=_;rw[hG,h.L,h.N]
 .obtain ⟨h1,h2⟩:=(hm y).1 hy;show lP (DG _ r.E) y.1.i=_;have:y.1∈gX r.L (iK r.N):=by
   rw[h.L,h.N,<- hG];exact nX hy
  rw[ZB this,h.e y h1]
  congr 1
  refine(MN h.g ?_).symm;rcases h.toOkW.below h1 with h3|⟨z,h3,h4,_⟩
  .exact .inl h3
  .exact .inr (by rw[<- h4];exact hcl y.1 (nX h1) h2 z.1 (nX h3) (.inl h4))
 .obtain⟨h1,h2⟩:=(hm y).1 hy;obtain⟨n,h3,h4⟩:=zEn h2;refine⟨n,h3,?_⟩;rw[hG,sY,zIi h.g hcl (hnm n h3)];exact h4
end
theorem zCc{a p:List UInt8}(ha:a≠[])(h:aM p=a):aJ a p=true:=eA ha (by rw[h];exact ha) (.inl h)
theorem zEq{t w:List It}{x:It}(ht:OkT t)(hx:x.p≠[])(h:zEp t w x=true):∃y∈t,aM y.p=x.p:=by
 unfold zEp at h;simp only[Bool.and_eq_true,Bool.not_eq_true',decide_eq_false_iff_not] at h;obtain⟨⟨_,_,h1⟩,_⟩:=h;have h2:0<(hD t x.p).length:=by omega
 rw[zAv] at h2;obtain⟨y,hy⟩:=List.exists_mem_of_length_pos h2;obtain⟨h3,h4⟩:=List.mem_filter.1 hy;exact⟨y,h3,eq_of_beq h4⟩
theorem tE{t:List It}(ht:OkT t):eB t t=[]:=by
 obtain⟨_,hm⟩:=nI ht ht;refine List.eq_nil_iff_forall_not_mem.2 λe he=>?_;rcases (hm e).1 he with h|⟨y,hy,_,h,_⟩
 .obtain ⟨x,hx,h⟩:=List.mem_flatMap.1 h;have hg:=dC ht.srt hx;unfold VB at h;split at h
  .rename_i hi;have hb:=HW ht hx hi;obtain⟨y,hy,hd⟩:=zEq ht (ht.ne x hx) hb;unfold zEp at hb;simp only[Bool.and_eq_true,Bool.not_eq_true'] at hb;have:QH t t x.p=true:=List.any_eq_true.2 ⟨y,hy,by rw[xM hy,zCc (ht.ne x hx) hd];rfl⟩
   rw[this] at hb;exact absurd hb.2 (by decide)
  .rw[hg] at h;simp only[Option.isSome_some,Option.getD_some,rU,Bool.not_true,Bool.or_false,Bool.false_eq_true,if_false] at h;cases h
 .rw[xM hy] at h;cases h
end Go.Dm
end
