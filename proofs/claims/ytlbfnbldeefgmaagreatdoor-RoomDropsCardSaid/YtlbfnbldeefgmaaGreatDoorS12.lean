/- Part 13 of the proof of roomDrops_card, set without needless blanks. No condition. -/
import Derived.Test.YtlbfnbldeefgmaaGreatDoorS10
set_option linter.all false
set_option maxRecDepth 100000
set_option maxHeartbeats 16000000
section
namespace Go.Dm
open Go
section
variable {k:Nat}{id:Int}{C:Int->Prop}
structure Ly where
 i:Int
 p:Int
 s:Int
 f:Bool
variable {l:List Ly}{x y:Ly}
def Ly.cs(x:Ly):List PV:=[.i .i64 x.i,.i .i64 x.p,.i .i64 x.s,.b x.f]
def Ly.cv(x:Ly):List CV:=[.p (.i .i64 x.i),.p (.i .i64 x.p),.p (.i .i64 x.s),.p (.b x.f)]
def ly0: Ly:=⟨0,0,0,false⟩
def cN(l:List Ly):List (List PV):=l.map Ly.cs
theorem iI(l:List Ly):(cN l).length=l.length:=by simp[cN]
theorem zGW: cN []=[]:=rfl
theorem gL(h:l[k]?=some x):(cN l).getD k []=[.i .i64 x.i,.i .i64 x.p,.i .i64 x.s,.b x.f]:=by
 simp only[cN,List.getD_eq_getElem?_getD,List.getElem?_map,h];rfl
theorem WX(l:List Ly):(∀x∈cN l,x.length=4)=True:=eq_true λx hx=>by
 obtain⟨y,_,rfl⟩:=List.mem_map.1 hx;rfl
theorem zCO(a:List Ly)(n:Nat):(cN a).take n=cN (a.take n):=by simp[cN]
theorem zCM(a:List Ly)(n:Nat):(cN a).drop n=cN (a.drop n):=by simp[cN]
theorem zGV(a b:List Ly):cN a++cN b=cN (a++b):=by simp[cN]
theorem zCN(t:List Ly)(i p s:Int)(f:Bool):cN t++[[.i .i64 i,.i .i64 p,.i .i64 s,.b f]]=cN (t++[⟨i,p,s,f⟩]):=by simp[cN,Ly.cs]
theorem WY(t:List Ly)(k:Nat)(i p s:Int)(f:Bool):(cN t).set k [.i .i64 i,.i .i64 p,.i .i64 s,.b f]=cN (t.set k ⟨i,p,s,f⟩):=by simp[cN,Ly.cs,List.map_set]
theorem zNc(x:Ly):Ly.mk x.i x.p x.s x.f=x:=rfl
def cG(l:List Int):List (List PV):=l.map λn=>[.i .i64 n]
theorem eQ(l:List Int):(cG l).length=l.length:=by simp[cG]
theorem zG4: cG []=[]:=rfl
theorem lO{l:List Int}{x:Int}(h:l[k]?=some x):(cG l).getD k []=[.i .i64 x]:=by
 simp only[cG,List.getD_eq_getElem?_getD,List.getElem?_map,h];rfl
theorem zG5(l:List Int):(∀x∈cG l,x.length=1)=True:=eq_true λx hx=>by
 obtain⟨y,_,rfl⟩:=List.mem_map.1 hx;rfl
theorem zCW(a:List Int)(n:Nat):(cG a).take n=cG (a.take n):=by simp[cG]
theorem zCU(a:List Int)(n:Nat):(cG a).drop n=cG (a.drop n):=by simp[cG]
theorem zG3(a b:List Int):cG a++cG b=cG (a++b):=by simp[cG]
theorem zCV(t:List Int)(i:Int):cG t++[[.i .i64 i]]=cG (t++[i]):=by simp[cG]
def eU(l:List Ly)(id:Int):Option Ly:=l.find? λx=>x.i==id
theorem oG(h:eU l id=some x):x∈l/\x.i=id:=⟨List.mem_of_find?_eq_some h,eq_of_beq (List.find?_some (p:=λz:Ly=>z.i==id) h)⟩
theorem zHt(h:eU l id=none):∀x∈l,x.i≠id:=λx hx e=>by
 have:=List.find?_eq_none.1 h x hx;simp[e] at this
theorem pQ(x:Ly)(l:List Ly)(id:Int):eU (x::l) id=if x.i==id then some x else eU l id:=by
 simp only[eU,List.find?_cons];cases x.i==id<;>rfl
def eI(l:List Ly):Nat->Int->List Int
 | 0,_=>[]
 | n+1,id=>match eU l id with
  | some x=>x.i::eI l n x.p
  | none=>[]
def bL(l:List Ly)(id:Int):List Int:=(eI l (l.length+1) id).reverse
theorem DE(l:List Ly):∀(n:Nat) (id:Int),(eI l n id).length<=n
 | 0,_=>Nat.le_refl _
 | n+1,id=>by
  simp only[eI];split
  .simp only[List.length_cons];have:=DE l n;exact Nat.succ_le_succ (this _)
  .exact Nat.zero_le _
theorem ZA(l:List Ly)(id:Int):(bL l id).length<=l.length+1:=by
 unfold bL;rw[List.length_reverse];exact DE _ _ _
def pJ(l:List Ly):Prop:=l.Pairwise λx y=>x.i<y.i
theorem nD(h:pJ l)(hx:x∈l):eU l x.i=some x:=by
 induction l with
 | nil=>cases hx
 | cons y l ih =>
  rw[pQ];have h2:=List.pairwise_cons.1 h;rcases List.mem_cons.1 hx with rfl|hx
  .rw[if_pos (by simp)]
  .rw[if_neg (by have:=h2.1 x hx;simp;omega)];exact ih h2.2 hx
def eW(l:List Ly)(k:Nat)(id:Int):Prop:=id=0∨∃j y,j<k/\l[j]?=some y/\y.i=id/\y.f=true
structure OkG (l:List Ly):Prop where
 inc:pJ l
 lo:∀x∈l,1<=x.i/\x.i<=2147483647
 par:∀k x,l[k]?=some x->eW l k x.p
 sec:∀k x,l[k]?=some x->eW l k x.s
 two:∀x∈l,x.s≠0->x.p≠0/\x.p≠x.s
 chn:∀x∈l,(bL l x.i).length<=12
theorem XH(h:pJ l){j:Nat}(hx:l[j]?=some x)(hy:l[k]?=some y)(hjk:j<k):x.i<y.i:=by
 obtain⟨h1,h2⟩:=List.getElem?_eq_some_iff.1 hx;obtain⟨h3,h4⟩:=List.getElem?_eq_some_iff.1 hy;have:=List.pairwise_iff_getElem.1 h j k h1 h3 hjk;rw[h2,h4] at this;exact this
def xD: List Ly->List Int->List Int
 | [],_=>[]
 | x::r,W=>if W.contains x.i then xD r (x.p::x.s::W)++[x.i] else xD r W
def lW(l:List Ly)(id:Int):List Int:=xD l.reverse [id]
def gX(l:List Ly)(ids:List Int):List Ly:=l.filter λx=>ids.any λid=>(lW l id).contains x.i
def GF(l:List Ly)(a b:Int):Int:=(((lW l a).filter λx=>(lW l b).contains x).getLast?).getD 0
theorem GD: ∀(r:List Ly) (W:List Int),(xD r W).length<=r.length
 | [],_=>Nat.le_refl _
 | x::r,W=>by
  simp only[xD];split
  .rw[List.length_append];have:=GD r (x.p::x.s::W);simp only[List.length_cons,List.length_nil];omega
  .have:=GD r W;simp only[List.length_cons];omega
theorem sD(l:List Ly)(id:Int):(lW l id).length<=l.length:=by
 have:=GD l.reverse [id]
 rwa[List.length_reverse] at this
theorem sE: ∀{r:List Ly} {W:List Int} {a:Int},a∈xD r W->∃x∈r,x.i=a
 | [],_,_,h=>by cases h
 | x::r,W,a,h=>by
  simp only[xD] at h;split at h
  .rcases List.mem_append.1 h with h|h
   .obtain⟨y,h1,h2⟩:=sE h;exact⟨y,List.mem_cons_of_mem _ h1,h2⟩
   .rw[List.mem_singleton] at h;exact⟨x,List.mem_cons_self,h.symm⟩
  .obtain⟨y,h1,h2⟩:=sE h;exact⟨y,List.mem_cons_of_mem _ h1,h2⟩
theorem GC: ∀{r:List Ly} {W:List Int},r.Pairwise (λx y=>y.i<x.i)->(xD r W).Pairwise (· < ·)
 | [],_,_=>List.Pairwise.nil
 | x::r,W,h=>by
  have h2:=List.pairwise_cons.1 h;simp only[xD];split
  .refine List.pairwise_append.2 ⟨GC h2.2,List.pairwise_singleton _ _,λa ha b hb=>?_⟩;rw[List.mem_singleton] at hb;subst hb;obtain⟨y,h3,rfl⟩:=sE ha;exact h2.1 y h3
  .exact GC h2.2
theorem GA(h:pJ l)(id:Int):(lW l id).Pairwise (· < ·):=by
 refine GC ?_;rw[List.pairwise_reverse];exact h
theorem sF: ∀{r:List Ly} {W:List Int} {x:Ly},x∈r->x.i∈W->x.i∈xD r W
 | [],_,_,h,_=>by cases h
 | y::r,W,x,h,hw=>by
  simp only[xD];rcases List.mem_cons.1 h with rfl|h
  .rw[if_pos (by simpa using hw)];exact List.mem_append_right _ (List.mem_singleton.2 rfl)
  .split
   .exact List.mem_append_left _ (sF h (List.mem_cons_of_mem _ (List.mem_cons_of_mem _ hw)))
   .exact sF h hw
theorem yG: ∀{r:List Ly} {W:List Int} {pre post:List Ly} {x y:Ly},r.Pairwise (λx y=>y.i<x.i)->r=pre++x::post->y∈post->x.i∈xD r W->(y.i=x.p∨y.i=x.s)->y.i∈xD r W
 | [],_,pre,_,_,_,_,e,_,_,_=>by simp at e
 | z::r,W,[],post,x,y,hp,e,hy,hx,h=>by
  simp only[List.nil_append,List.cons.injEq] at e;obtain⟨rfl,rfl⟩:=e;simp only[xD] at hx ⊢;split
  .refine List.mem_append_left _ (sF hy ?_);rcases h with h|h<;>simp[h]
  .rename_i hw;rw[if_neg hw] at hx;obtain⟨u,h1,h2⟩:=sE hx;have:=(List.pairwise_cons.1 hp).1 u h1;omega
 | z::r,W,q::pre,post,x,y,hp,e,hy,hx,h=>by
  simp only[List.cons_append,List.cons.injEq] at e;obtain⟨rfl,rfl⟩:=e;have hp2:=List.pairwise_cons.1 hp;have hxr:x∈pre++x::post:=List.mem_append_right _ List.mem_cons_self;simp only[xD] at hx ⊢;split
  .rename_i hw;rw[if_pos hw] at hx;rcases List.mem_append.1 hx with hx|hx
   .exact List.mem_append_left _ (yG hp2.2 rfl hy hx h)
   .rw[List.mem_singleton] at hx;have:=hp2.1 x hxr;omega
  .rename_i hw;rw[if_neg hw] at hx;exact yG hp2.2 rfl hy hx h
theorem uO: ∀{r:List Ly} {W:List Int},(∀x∈r,x.i∈W->C x.i)->(∀x∈r,C x.i->∀y∈r,(y.i=x.p∨y.i=x.s)->C y.i)->∀a∈xD r W,C a
 | [],_,_,_,a,h=>by cases h
 | x::r,W,h1,h2,a,h=>by
  simp only[xD] at h;split at h
  .rename_i hw;have hx:C x.i:=h1 x List.mem_cons_self (by simpa using hw);rcases List.mem_append.1 h with h|h
   .refine uO (λy hy hw2=>?_) (λy hy hc z hz=>h2 y (List.mem_cons_of_mem _ hy) hc z (List.mem_cons_of_mem _ hz)) a h;rcases List.mem_cons.1 hw2 with e|hw2
    .exact h2 x List.mem_cons_self hx y (List.mem_cons_of_mem _ hy) (.inl e)
    .rcases List.mem_cons.1 hw2 with e|hw2
     .exact h2 x List.mem_cons_self hx y (List.mem_cons_of_mem _ hy) (.inr e)
     .exact h1 y (List.mem_cons_of_mem _ hy) hw2
   .rw[List.mem_singleton] at h;subst h;exact hx
  .exact uO (λy hy=>h1 y (List.mem_cons_of_mem _ hy)) (λy hy hc z hz=>h2 y (List.mem_cons_of_mem _ hy) hc z (List.mem_cons_of_mem _ hz)) a h
theorem zF8{a:Int}(h:a∈lW l id):∃x∈l,x.i=a:=by
 obtain⟨x,h1,h2⟩:=sE h;exact⟨x,List.mem_reverse.1 h1,h2⟩
theorem lY(h:x∈l):x.i∈lW l x.i:=sF (List.mem_reverse.2 h) (List.mem_singleton.2 rfl)
theorem GB(hg:OkG l)(hx:x∈l)(hy:y∈l)(h:x.i∈lW l id)(hp:y.i=x.p∨y.i=x.s):y.i∈lW l id:=by
 have hinc:(l.reverse).Pairwise λx y=>y.i<x.i:=by rw[List.pairwise_reverse];exact hg.inc
 have hlt:y.i<x.i:=by
  obtain ⟨k,hk⟩:=List.mem_iff_getElem?.1 hx;have st:∀q,eW l k q->y.i=q->y.i<x.i:=λq hq e=>by
   rcases hq with hq|⟨j,z,h1,h2,h3,_⟩
   .have:=(hg.lo y hy).1;omega
   .have:=XH hg.inc h2 hk h1;omega
  rcases hp with hp|hp
  .exact st _ (hg.par k x hk) hp
  .exact st _ (hg.sec k x hk) hp
 obtain ⟨pre,post,e⟩:=List.append_of_mem (List.mem_reverse.2 hx);have hyr:y∈l.reverse:=List.mem_reverse.2 hy;rw[e] at hyr;have hyp:y∈post:=by
  rw[e] at hinc;rcases List.mem_append.1 hyr with h|h
  .have:=(List.pairwise_append.1 hinc).2.2 y h x List.mem_cons_self;omega
  .rcases List.mem_cons.1 h with h|h
   .subst h;omega
   .exact h
 unfold lW at h ⊢;exact yG hinc e hyp h hp
theorem pL(h1:∀x∈l,x.i=id->C x.i)(h2:∀x∈l,C x.i->∀y∈l,(y.i=x.p∨y.i=x.s)->C y.i):∀a∈lW l id,C a:=by
 refine uO (λx hx hw=>h1 x (List.mem_reverse.1 hx) (List.mem_singleton.1 hw)) λx hx hc y hy=>h2 x (List.mem_reverse.1 hx) hc y (List.mem_reverse.1 hy)
theorem SU: ∀{a b:List Int},a.Pairwise (· < ·)->b.Pairwise (· < ·)->(∀x,x∈a↔x∈b)->a=b
 | [],[],_,_,_=>rfl
 | [],y::b,_,_,h=>by have:=(h y).2 List.mem_cons_self;cases this
 | x::a,[],_,_,h=>by have:=(h x).1 List.mem_cons_self;cases this
 | x::a,y::b,ha,hb,h=>by
  have ha2:=List.pairwise_cons.1 ha;have hb2:=List.pairwise_cons.1 hb;have hxy:x=y:=by
   rcases List.mem_cons.1 ((h x).1 List.mem_cons_self) with h1|h1
   .exact h1
   .rcases List.mem_cons.1 ((h y).2 List.mem_cons_self) with h2|h2
    .exact h2.symm
    .have:=hb2.1 x h1;have:=ha2.1 y h2;omega
  subst hxy;rw[SU ha2.2 hb2.2 λz=>⟨λhz=>?_,λhz=>?_⟩]
  .rcases List.mem_cons.1 ((h z).1 (List.mem_cons_of_mem _ hz)) with h1|h1
   .have:=ha2.1 z hz;omega
   .exact h1
  .rcases List.mem_cons.1 ((h z).2 (List.mem_cons_of_mem _ hz)) with h1|h1
   .have:=hb2.1 z hz;omega
   .exact h1
attribute [go_sem] iI zGW WX zCO zCM zGV zCN WY zNc eQ zG4 zG5 zCW zCU zG3 zCV Ly.cv
end
section
variable {l:List Ly}{id:Int}{x:Ly}
def zN7(l:List Ly)(id:Int):Bool:=id==0 || (match eU l id with
 | some y=>y.f
 | none=>false)
def zN8(l:List Ly)(k:Nat)(x:Ly):Bool :=
 !(decide (x.i<1) || (decide (2147483647<x.i) || (decide ((0:Int)<(k:Int)) && decide (x.i<=((l[k-1]?).getD ly0).i)))) && ((zN7 (l.take k) x.p && zN7 (l.take k) x.s) &&
 (!((x.s != 0) && ((x.p==0) || (x.p==x.s))) && decide (((bL (l.take (k+1)) x.i).length:Int)<=12)))
def zIe(l:List Ly):Nat->Bool
 | 0=>true
 | k+1=>zIe l k && (match l[k]? with
  | some x=>zN8 l k x
  | none=>true)
def zJK(l:List Ly):Bool:=zIe l l.length && decide ((l.length:Int)<=40)
theorem XQ: ∀{n k:Nat} {x:Ly},zIe l n=true->k<n->l[k]?=some x->zN8 l k x=true
 | 0,_,_,_,h,_=>by omega
 | n+1,k,x,h,hk,hx=>by
  simp only[zIe,Bool.and_eq_true] at h;by_cases e:k=n
  .subst e;rw[hx] at h;exact h.2
  .exact XQ h.1 (by omega) hx
theorem zM0(h:∀k x y,l[k]?=some x->l[k+1]?=some y->x.i<y.i):pJ l:=by
 have key:∀(d k:Nat) (x y:Ly),l[k]?=some x->l[k+d+1]?=some y->x.i<y.i:=by
  intro d
  induction d with
  | zero=>intro k x y hx hy;exact h k x y hx hy
  | succ d ih =>
   intro k x y hx hy;have hlt:k+d+1<l.length:=by have:=(List.getElem?_eq_some_iff.1 hy).1;omega
   have hz:=List.getElem?_eq_getElem hlt;have:=ih k x _ hx hz;have:=h (k+d+1) _ y hz hy;omega
 refine List.pairwise_iff_getElem.2 λi j hi hj hij=>key (j-i-1) i _ _ (List.getElem?_eq_getElem hi) ?_;rw[show i+(j-i-1)+1=j by omega]
 exact List.getElem?_eq_getElem hj
theorem zDk(h:pJ l){j n:Nat}{y:Ly}(hj:l[j]?=some y)(hn:j<n):eU (l.take n) y.i=some y:=by
 refine nD (List.Pairwise.sublist (List.take_sublist n l) h) (List.mem_iff_getElem?.2 ⟨j,?_⟩);rw[List.getElem?_take,if_pos hn];exact hj
theorem oH(h:∀x∈l,1<=x.i):eU l 0=none:=by
 refine List.find?_eq_none.2 λx hx=>?_;have:=h x hx;simp;omega
theorem jQ(h:eU l id=none)(n:Nat):eI l n id=[]:=by
 cases n with
 | zero=>rfl
 | succ n=>simp only[eI,h]
theorem pN(hi:pJ l)(hlo:∀x∈l,1<=x.i)(hp:∀k x,l[k]?=some x->eW l k x.p):∀(k:Nat) {x:Ly} {j n m:Nat},l[k]?=some x->k<j->k+1<=n->k+1<=m->eI (l.take j) n x.i=eI l m x.i:=by
 intro k
 induction k using Nat.strongRecOn with
 | ind k ih =>
  intro x j n m hx hj hn hm;obtain⟨n',rfl⟩:∃n',n=n'+1:=⟨n-1,by omega⟩
  obtain⟨m',rfl⟩:∃m',m=m'+1:=⟨m-1,by omega⟩
  simp only[eI,zDk hi hx hj,nD hi (List.mem_of_getElem? hx)]
  congr 1
  rcases hp k x hx with h0|⟨q,y,h1,h2,h3,_⟩
  .rw[h0,jQ (oH λz hz=>hlo z (List.mem_of_mem_take hz)),jQ (oH hlo)]
  .rw[<- h3];exact ih q h1 h2 (by omega) (by omega) (by omega)
theorem uQ(hi:pJ l)(hlo:∀x∈l,1<=x.i)(hp:∀k x,l[k]?=some x->eW l k x.p)(hx:x∈l):bL l x.i=bL l x.p++[x.i]:=by
 obtain⟨k,hk⟩:=List.mem_iff_getElem?.1 hx;have hlt:=(List.getElem?_eq_some_iff.1 hk).1;unfold bL;rw[show eI l (l.length+1) x.i=x.i::eI l l.length x.p by simp only[eI,nD hi hx],List.reverse_cons]
 congr 2
 rcases hp k x hk with h0|⟨q,y,h1,h2,h3,_⟩
 .rw[h0,jQ (oH hlo),jQ (oH hlo)]
 .rw[<- h3,<- pN hi hlo hp q h2 (j:=l.length) (n:=l.length) (m:=l.length) (by omega) (by omega) (by omega),<- pN hi hlo hp q h2 (j:=l.length) (n:=l.length) (m:=l.length+1) (by omega) (by omega) (by omega)]
theorem pO(hlo:∀x∈l,1<=x.i):bL l 0=[]:=by
 unfold bL;rw[jQ (oH hlo)];rfl
theorem OkG.lo1(h:OkG l):∀x∈l,1<=x.i:=λx hx=>(h.lo x hx).1
theorem OkG.step(h:OkG l)(hx:x∈l):bL l x.i=bL l x.p++[x.i]:=uQ h.inc h.lo1 h.par hx
theorem QG(k:Nat)(h:zN7 (l.take k) id=true):eW l k id:=by
 unfold zN7 at h;rw[Bool.or_eq_true] at h;rcases h with h|h
 .exact .inl (by simpa using h)
 .split at h
  .rename_i y hy;obtain⟨h1,h2⟩:=oG hy;obtain⟨j,hj⟩:=List.mem_iff_getElem?.1 h1;rw[List.getElem?_take] at hj;split at hj
   .rename_i hlt;exact .inr ⟨j,y,hlt,hj,h2,h⟩
   .cases hj
  .cases h
theorem zE6(h:zJK l=true):OkG l/\l.length<=40:=by
 unfold zJK at h;simp only[Bool.and_eq_true,decide_eq_true_eq] at h;obtain⟨h1,h2⟩:=h;have hat:∀k x,l[k]?=some x->zN8 l k x=true:=λk x hx=>XQ h1 (List.getElem?_eq_some_iff.1 hx).1 hx;have hat2:∀k x,l[k]?=some x->(1<=x.i/\x.i<=2147483647)/\(0<k->((l[k-1]?).getD ly0).i<x.i)/\eW l k x.p/\eW l k x.s/\(x.s≠0->x.p≠0/\x.p≠x.s)/\(bL (l.take (k+1)) x.i).length<=12:=λk x hx=>by
  have:=hat k x hx;unfold zN8 at this;simp only[Bool.and_eq_true,Bool.not_eq_true',Bool.or_eq_false_iff,decide_eq_false_iff_not,Bool.and_eq_false_iff,decide_eq_true_eq] at this;obtain⟨⟨a1,a2,a3⟩,⟨a4,a5⟩,a6,a7⟩:=this;refine⟨by omega,λhk=>?_,QG k a4,QG k a5,λhs=>?_,by omega⟩
  .rcases a3 with a3|a3<;>omega
  .rcases a6 with a6|a6
   .simp[hs] at a6
   .simpa using a6
 have hinc:pJ l:=zM0 λk x y hx hy=>by
  have:=(hat2 (k+1) y hy).2.1 (by omega);rw[show k+1-1=k by omega,hx] at this
  exact this
 have hlo:∀x∈l,1<=x.i/\x.i<=2147483647:=λx hx=>by
  obtain⟨k,hk⟩:=List.mem_iff_getElem?.1 hx;exact(hat2 k x hk).1
 have hpar:∀k x,l[k]?=some x->eW l k x.p:=λk x hx=>(hat2 k x hx).2.2.1;refine⟨⟨hinc,hlo,hpar,λk x hx=>(hat2 k x hx).2.2.2.1,λx hx=>?_,λx hx=>?_⟩,by omega⟩
 .obtain⟨k,hk⟩:=List.mem_iff_getElem?.1 hx;exact(hat2 k x hk).2.2.2.2.1
 .obtain⟨k,hk⟩:=List.mem_iff_getElem?.1 hx;have h5:=(hat2 k x hk).2.2.2.2.2;have hlt:=(List.getElem?_eq_some_iff.1 hk).1;unfold bL at h5 ⊢;rw[List.length_reverse] at h5 ⊢;rw[<- pN hinc (λz hz=>(hlo z hz).1) hpar k hk (j:=k+1) (n:=(l.take (k+1)).length+1) (m:=l.length+1) (by omega) (by rw[List.length_take];omega) (by omega)];exact h5
end
end Go.Dm
end
section
namespace Go.Dm
open Go
structure En where
 p:List UInt8
 k:Int
 o:Bool
 n:Nd
def En.cs(x:En):List PV:=[.s x.p,.i .i64 x.k,.b x.o,.i .i64 x.n.k,.i .i64 x.n.m,.f x.n.t,.sl 1 (bJ x.n.d)]
def gV(l:List En):List (List PV):=l.map En.cs
theorem GR(l:List En):(gV l).length=l.length:=by simp[gV]
theorem zGQ:gV []=[]:=rfl
theorem zG{t:List En}{k:Nat}{x:En}(h:t[k]?=some x):(gV t).getD k []=[.s x.p,.i .i64 x.k,.b x.o,.i .i64 x.n.k,.i .i64 x.n.m,.f x.n.t,.sl 1 (bJ x.n.d)]:=by
 simp only[gV,List.getD_eq_getElem?_getD,List.getElem?_map,h];rfl
theorem zGR(t:List En):(∀x∈gV t,x.length=7)=True:=eq_true λx hx=>by
 obtain⟨y,_,rfl⟩:=List.mem_map.1 hx;rfl
theorem zCH(a:List En)(n:Nat):(gV a).take n=gV (a.take n):=by simp[gV]
theorem zCE(a:List En)(n:Nat):(gV a).drop n=gV (a.drop n):=by simp[gV]
theorem WW(a b:List En):gV a++gV b=gV (a++b):=by simp[gV]
theorem zCF(t:List En)(p:List UInt8)(k:Int)(o:Bool)(nk nm:Int)(nt:Nat)(d:List UInt8):gV t++[[.s p,.i .i64 k,.b o,.i .i64 nk,.i .i64 nm,.f nt,.sl 1 (bJ d)]]=gV (t++[⟨p,k,o,⟨nk,nm,nt,d⟩⟩]):=by simp[gV,En.cs]
theorem zMP(x:En):En.mk x.p x.k x.o x.n=x:=rfl
attribute [go_sem] GR zGQ zGR zCH zCE WW zCF zMP
def jD(x:En):Bool:=x.k==2 || x.n.k != 2
def oD(t:List It)(x:En):Bool:=x.o || (jD x || !aW t x.p)
def goE(t:List It)(x:En)(y:It):Bool:=y.p==x.p || (oD t x && aJ x.p y.p)
def nS(t:List It)(x:En):List It:=t.filter λy=>!goE t x y
def lT(t:List It)(x:En):List It:=if x.k==2 then nS t x else xC (nS t x) x.p x.n
def fK(t:List It)(l:List En):List It:=l.foldl lT t
def rN(t:List It)(l:List En):List It × Bool:=if kM (fK t l) then (fK t l,true) else ([],false)
theorem zX{t:List It}(h:Srt t)(x:En):Srt (nS t x):=h.filter _
theorem zEx{t:List It}(h:Srt t)(x:En):Srt (lT t x):=by
 unfold lT;split
 .exact zX h x
 .exact yA (zX h x)
theorem AR:∀{l:List En} {t:List It},Srt t->Srt (fK t l)
 | [],_,h=>h
 | x::l,t,h=>AR (l:=l) (zEx h x)
theorem MS(t:List It)(x:En):(nS t x).length<=t.length:=List.length_filter_le ..
theorem NL(t:List It)(x:En):(lT t x).length<=t.length+1:=by
 have:=MS t x;have:=xZ (nS t x) x.p x.n;unfold lT;split<;>omega
theorem zHW{t:List It}{x:En}:∀y∈nS t x,(y.p==x.p)=false:=λy hy=>by
 have:=(List.mem_filter.1 hy).2;simp only[goE,Bool.not_eq_true',Bool.or_eq_false_iff] at this;exact this.1
theorem zEw{t:List It}{x:En}{y:It}(h:y∈lT t x):y=⟨x.p,x.n⟩∨y∈t:=by
 unfold lT at h;split at h
 .exact .inr (List.mem_filter.1 h).1
 .rcases nL h with h|h
  .exact .inl h
  .exact .inr (List.mem_filter.1 h).1
end Go.Dm
namespace Go.Dm
open Go
def zJz(x:En):Bool:=!(x.p == []) && (cC x.p && (if x.k==2 then !x.o && uI x.n else (x.k==1 && aO x.n) && (!x.o || x.n.k==2)))
structure OkE (l:List En):Prop where
 may:∀x∈l,zJz x=true
 srt:l.Pairwise λx y=>bS x.p y.p=true
 open_:l.Pairwise λy x=>(jD y && aJ y.p x.p)=false
 tlen:∀x∈l,x.n.t<18446744073709551616
 len:l.length<=1000
theorem OkE.plen{l:List En}(h:OkE l):∀x∈l,x.p.length<=120:=λx hx=>by
 have:=h.may x hx;simp only[zJz,Bool.and_eq_true] at this;exact rC this.2.1
theorem OkE.dlen{l:List En}(h:OkE l):∀x∈l,x.n.d.length<=2000:=λx hx=>by
 have:=h.may x hx;simp only[zJz,Bool.and_eq_true] at this;have h2:=this.2.2;split at h2
 .simp only[Bool.and_eq_true,uI,beq_iff_eq] at h2;omega
 .simp only[Bool.and_eq_true] at h2;exact iO h2.1.2
end Go.Dm
namespace Go.Dm
open Go
theorem NM(t:List It)(l:List En):∀k,(fK t (l.take k)).length<=t.length+k
 | 0=>by simp[fK]
 | k+1=>by
  have ih:=NM t l k;rcases Nat.lt_or_ge k l.length with h|h
  .have e:fK t (l.take (k+1))=lT (fK t (l.take k)) l[k]:=by
    unfold fK;rw[List.take_add_one,List.getElem?_eq_getElem h,List.foldl_append];rfl
   rw[e];have:=NL (fK t (l.take k)) l[k];omega
  .rw[List.take_of_length_le (by omega)];rw[List.take_of_length_le (by omega)] at ih;omega
theorem AQ{y:It}:∀{l:List En} {t:List It},y∈fK t l->y∈t∨∃x∈l,y=⟨x.p,x.n⟩
 | [],_,h=>.inl h
 | x::l,t,h=>by
  rcases AQ (l:=l) (t:=lT t x) h with h|⟨z,hz,e⟩
  .rcases zEw h with h|h
   .exact .inr ⟨x,List.mem_cons_self,h⟩
   .exact .inl h
  .exact .inr ⟨z,List.mem_cons_of_mem _ hz,e⟩
end Go.Dm
end
section
namespace Go.Dm
open Go
def zH(ls:List (List En)):List (List PV):=ls.map λl=>[.sl 7 (gV l)]
theorem WZ(ls:List (List En)):(zH ls).length=ls.length:=by simp[zH]
theorem zG0:zH []=[]:=rfl
theorem zKF{t:List (List En)}{k:Nat}{x:List En}(h:t[k]?=some x):(zH t).getD k []=[.sl 7 (gV x)]:=by
 simp only[zH,List.getD_eq_getElem?_getD,List.getElem?_map,h];rfl
theorem zG1(t:List (List En)):(∀x∈zH t,x.length=1)=True:=eq_true λx hx=>by
 obtain⟨y,_,rfl⟩:=List.mem_map.1 hx;rfl
theorem zCT(a:List (List En))(n:Nat):(zH a).take n=zH (a.take n):=by simp[zH]
theorem zCR(a:List (List En))(n:Nat):(zH a).drop n=zH (a.drop n):=by simp[zH]
theorem zGZ(a b:List (List En)):zH a++zH b=zH (a++b):=by simp[zH]
theorem zCS(t:List (List En))(l:List En):zH t++[[.sl 7 (gV l)]]=zH (t++[l]):=by simp[zH]
attribute [go_sem] WZ zG0 zG1 zCT zCR zGZ zCS
def oI:List It->List (List En)->List It × Bool
 | t,[]=>(t,true)
 | t,l::r=>if (rN t l).2 then oI (rN t l).1 r else ([],false)
theorem zIh{t:List It}{l:List En}(ht:OkT t)(hl:OkE l)(h:(rN t l).2=true):OkT (rN t l).1:=by
 unfold rN at h ⊢;split at h
 .rename_i hr;rw[if_pos hr];refine PE (λy hy=>?_) hr;rcases AQ hy with hy|⟨x,hx,rfl⟩
  .exact ht.tlen y hy
  .exact hl.tlen x hx
 .cases h
section
variable {os:List (List UInt8)}{w:List It}
def isB(l:List (List UInt8))(p:List UInt8):Bool:=l.any λq=>q==p
def zDx(t:List It)(p:List UInt8):Bool:=!(p == []) && aW t p
def QH(t w:List It)(p:List UInt8):Bool:=t.any λy=>(aN w y.p).isSome && aJ p y.p
def zEp(t w:List It)(x:It):Bool:=(x.n.k==2 && (zDx t x.p && !decide (((hD t x.p).length:Int)<2))) && !QH t w x.p
def kF(t w:List It):List (List UInt8):=(w.filter (zEp t w)).map λx=>x.p
def VB(t:List It)(os:List (List UInt8))(x:It):List En :=
 if isB os x.p then [⟨x.p,1,true,x.n⟩] else if (!(aN t x.p).isSome || !kS ((aN t x.p).getD nd0) x.n) then [⟨x.p,1,false,x.n⟩] else []
def jB(t:List It)(os:List (List UInt8))(w:List It):List En:=w.flatMap (VB t os)
def zF2(w:List It)(os:List (List UInt8)):Nat->List UInt8->Bool
 | 0,_=>false
 | n+1,q=>if q == [] then false else if (!(aN w q).isSome || (((aN w q).getD nd0).k != 2 || isB os q)) then true else zF2 w os n (aM q)
def JU(w:List It)(os:List (List UInt8))(p:List UInt8):Bool:=zF2 w os p.length (aM p)
def zN4(l:List En)(p:List UInt8):Nat:=(l.takeWhile λx=>bS x.p p).length
def zF3(l:List En)(e:En):List En:=l.take (zN4 l e.p)++e::l.drop (zN4 l e.p)
def lS(p:List UInt8):En:=⟨p,2,false,nd0⟩
def MF(w:List It)(os:List (List UInt8))(out:List En)(y:It):List En :=
 if ((aN w y.p).isSome || JU w os y.p) then out else zF3 out (lS y.p)
def eB(t w:List It):List En:=t.foldl (MF w (kF t w)) (jB t (kF t w) w)
theorem zCd(p:List UInt8):(aM p).length<=p.length:=by
 by_cases h:aM p=[]
 .rw[h];exact Nat.zero_le _
 .exact Nat.le_of_lt (sP h)
theorem zKH(l:List En)(p:List UInt8):zN4 l p<=l.length:=(List.takeWhile_sublist _).length_le
theorem zHo(l:List En)(e:En):(zF3 l e).length=l.length+1:=by
 have:=zKH l e.p;simp only[zF3,List.length_append,List.length_cons,List.length_take,List.length_drop];omega
theorem zIo(t:List It)(os:List (List UInt8))(x:It):(VB t os x).length<=1:=by
 unfold VB;split
 .exact Nat.le_refl _
 .split
  .exact Nat.le_refl _
  .exact Nat.zero_le _
theorem tQ(t:List It)(os:List (List UInt8)):∀w:List It,(jB t os w).length<=w.length
 | []=>Nat.le_refl _
 | x::w=>by
  have h1:=zIo t os x;have h2:=tQ t os w;unfold jB at h2 ⊢;rw[List.flatMap_cons,List.length_append,List.length_cons];omega
theorem zAM{t:List It}{k:Nat}{x:It}(h:w[k]?=some x):jB t os (w.take (k+1))=jB t os (w.take k)++VB t os x:=by
 unfold jB;rw[List.take_add_one,h,List.flatMap_append];simp
theorem zDt(w:List It)(os:List (List UInt8))(out:List En)(y:It):(MF w os out y).length<=out.length+1:=by
 unfold MF;split
 .omega
 .rw[zHo];omega
theorem yR{n:Nat}{q:List UInt8}(h:q≠[]):zF2 w os (n+1) q=if (!(aN w q).isSome || (((aN w q).getD nd0).k != 2 || isB os q)) then true else zF2 w os n (aM q):=by
 rw[zF2,if_neg (by simpa using h)]
theorem WK: ∀n:Nat,zF2 w os n []=false
 | 0=>rfl
 | n+1=>by rw[zF2];simp
end
end Go.Dm
end
