/- Part 10 of the proof of roomMerges_card, set without needless blanks. No condition. -/
import Derived.Test.YtflcjdohmojepaaGreatDoorM03
set_option linter.all false
set_option maxRecDepth 100000
set_option maxHeartbeats 16000000
section
namespace Go.Dm
open Go
section
variable {k:Nat}{id:Int}{C:Int->Prop}
structure Ly where
 i:Int
 p:Int
 s:Int
 f:Bool
variable {l:List Ly}{x y:Ly}
def Ly.cs(x:Ly):List PV:=[.i .i64 x.i,.i .i64 x.p,.i .i64 x.s,.b x.f]
def Ly.cv(x:Ly):List CV:=[.p (.i .i64 x.i),.p (.i .i64 x.p),.p (.i .i64 x.s),.p (.b x.f)]
def ly0: Ly:=⟨0,0,0,false⟩
def dA(l:List Ly):List (List PV):=l.map Ly.cs
theorem gH(l:List Ly):(dA l).length=l.length:=by simp[dA]
theorem zIM: dA []=[]:=rfl
theorem nS(h:l[k]?=some x):(dA l).getD k []=[.i .i64 x.i,.i .i64 x.p,.i .i64 x.s,.b x.f]:=by
 simp only[dA,List.getD_eq_getElem?_getD,List.getElem?_map,h];rfl
theorem zAl(l:List Ly):(∀x∈dA l,x.length=4)=True:=eq_true λx hx=>by
 obtain⟨y,_,rfl⟩:=List.mem_map.1 hx;rfl
theorem zEC(a:List Ly)(n:Nat):(dA a).take n=dA (a.take n):=by simp[dA]
theorem zEA(a:List Ly)(n:Nat):(dA a).drop n=dA (a.drop n):=by simp[dA]
theorem zIL(a b:List Ly):dA a++dA b=dA (a++b):=by simp[dA]
theorem zEB(t:List Ly)(i p s:Int)(f:Bool):dA t++[[.i .i64 i,.i .i64 p,.i .i64 s,.b f]]=dA (t++[⟨i,p,s,f⟩]):=by simp[dA,Ly.cs]
theorem zAm(t:List Ly)(k:Nat)(i p s:Int)(f:Bool):(dA t).set k [.i .i64 i,.i .i64 p,.i .i64 s,.b f]=dA (t.set k ⟨i,p,s,f⟩):=by simp[dA,Ly.cs,List.map_set]
theorem zO7(x:Ly):Ly.mk x.i x.p x.s x.f=x:=rfl
def dB(l:List Int):List (List PV):=l.map λn=>[.i .i64 n]
theorem eZ(l:List Int):(dB l).length=l.length:=by simp[dB]
theorem zIU: dB []=[]:=rfl
theorem sK{l:List Int}{x:Int}(h:l[k]?=some x):(dB l).getD k []=[.i .i64 x]:=by grind [dB]
theorem zIV(l:List Int):(∀x∈dB l,x.length=1)=True:=eq_true λx hx=>by
 obtain⟨y,_,rfl⟩:=List.mem_map.1 hx;rfl
theorem zEK(a:List Int)(n:Nat):(dB a).take n=dB (a.take n):=by simp[dB]
theorem zEI(a:List Int)(n:Nat):(dB a).drop n=dB (a.drop n):=by simp[dB]
theorem zIT(a b:List Int):dB a++dB b=dB (a++b):=by simp[dB]
theorem zEJ(t:List Int)(i:Int):dB t++[[.i .i64 i]]=dB (t++[i]):=by simp[dB]
def fF(l:List Ly)(id:Int):Option Ly:=l.find? λx=>x.i==id
theorem pJ(h:fF l id=some x):x∈l/\x.i=id:=⟨List.mem_of_find?_eq_some h,eq_of_beq (List.find?_some (p:=λz:Ly=>z.i==id) h)⟩
theorem zJd(h:fF l id=none):∀x∈l,x.i≠id:=λx hx e=>by
 have:=List.find?_eq_none.1 h x hx;simp_all
theorem qZ(x:Ly)(l:List Ly)(id:Int):fF (x::l) id=if x.i==id then some x else fF l id:=by grind [fF]
def eU(l:List Ly):Nat->Int->List Int
 | 0,_=>[]
 | n+1,id=>match fF l id with
  | some x=>x.i::eU l n x.p
  | none=>[]
def bV(l:List Ly)(id:Int):List Int:=(eU l (l.length+1) id).reverse
theorem FH(l:List Ly):∀(n:Nat) (id:Int),(eU l n id).length<=n
 | 0,_=>Nat.le_refl _
 | n+1,id=>by
  simp only[eU];split
  .simp only[List.length_cons];have:=FH l n;exact Nat.succ_le_succ (this _)
  .simp_all
theorem zBm(l:List Ly)(id:Int):(bV l id).length<=l.length+1:=by grind [bV,FH]
def qO(l:List Ly):Prop:=l.Pairwise λx y=>x.i<y.i
theorem nV(h:qO l)(hx:x∈l):fF l x.i=some x:=by
 induction l with
 | nil=>cases hx
 | cons y l ih =>
  rw[qZ];have h2:=List.pairwise_cons.1 h;rcases List.mem_cons.1 hx with rfl|hx
  .simp_all
  .rw[if_neg (by have:=h2.1 x hx;simp;omega)];exact ih h2.2 hx
def fG(l:List Ly)(k:Nat)(id:Int):Prop:=id=0∨∃j y,j<k/\l[j]?=some y/\y.i=id/\y.f=true
structure OkG (l:List Ly):Prop where
 inc:qO l
 lo:∀x∈l,1<=x.i/\x.i<=2147483647
 par:∀k x,l[k]?=some x->fG l k x.p
 sec:∀k x,l[k]?=some x->fG l k x.s
 two:∀x∈l,x.s≠0->x.p≠0/\x.p≠x.s
 chn:∀x∈l,(bV l x.i).length<=12
theorem zAu(h:qO l){j:Nat}(hx:l[j]?=some x)(hy:l[k]?=some y)(hjk:j<k):x.i<y.i:=by
 obtain⟨h1,h2⟩:=List.getElem?_eq_some_iff.1 hx;obtain⟨h3,h4⟩:=List.getElem?_eq_some_iff.1 hy;have:=List.pairwise_iff_getElem.1 h j k h1 h3 hjk;simp_all
def NK: List Ly->List Int->List Int
 | [],_=>[]
 | x::r,W=>if W.contains x.i then NK r (x.p::x.s::W)++[x.i] else NK r W
def rS(l:List Ly)(id:Int):List Int:=NK l.reverse [id]
def kK(l:List Ly)(ids:List Int):List Ly:=l.filter λx=>ids.any λid=>(rS l id).contains x.i
def JQ(l:List Ly)(a b:Int):Int:=(((rS l a).filter λx=>(rS l b).contains x).getLast?).getD 0
theorem JP: ∀(r:List Ly) (W:List Int),(NK r W).length<=r.length
 | [],_=>Nat.le_refl _
 | x::r,W=>by
  simp only[NK];split
  .rw[List.length_append];have:=JP r (x.p::x.s::W);simp only[List.length_cons,List.length_nil];omega
  .have:=JP r W;simp only[List.length_cons];omega
theorem yT(l:List Ly)(id:Int):(rS l id).length<=l.length:=by
 have:=JP l.reverse [id]
 rwa[List.length_reverse] at this
theorem tU: ∀{r:List Ly} {W:List Int} {a:Int},a∈NK r W->∃x∈r,x.i=a
 | [],_,_,h=>by cases h
 | x::r,W,a,h=>by
  simp only[NK] at h;split at h
  .rcases List.mem_append.1 h with h|h
   .obtain⟨y,h1,h2⟩:=tU h;grind
   .simp_all
  .obtain⟨y,h1,h2⟩:=tU h;grind
theorem JO: ∀{r:List Ly} {W:List Int},r.Pairwise (λx y=>y.i<x.i)->(NK r W).Pairwise (· < ·)
 | [],_,_=>List.Pairwise.nil
 | x::r,W,h=>by
  have h2:=List.pairwise_cons.1 h;simp only[NK];split
  .refine List.pairwise_append.2 ⟨JO h2.2,List.pairwise_singleton _ _,λa ha b hb=>?_⟩;rw[List.mem_singleton] at hb;subst hb;obtain⟨y,h3,rfl⟩:=tU ha;exact h2.1 y h3
  .exact JO h2.2
theorem JM(h:qO l)(id:Int):(rS l id).Pairwise (· < ·):=by
 refine JO ?_;rw[List.pairwise_reverse];exact h
theorem tV: ∀{r:List Ly} {W:List Int} {x:Ly},x∈r->x.i∈W->x.i∈NK r W
 | [],_,_,h,_=>by cases h
 | y::r,W,x,h,hw=>by
  simp only[NK];rcases List.mem_cons.1 h with rfl|h
  .rw[if_pos (by simpa using hw)];exact List.mem_append_right _ (List.mem_singleton.2 rfl)
  .split
   .exact List.mem_append_left _ (tV h (List.mem_cons_of_mem _ (List.mem_cons_of_mem _ hw)))
   .exact tV h hw
theorem zY: ∀{r:List Ly} {W:List Int} {pre post:List Ly} {x y:Ly},r.Pairwise (λx y=>y.i<x.i)->r=pre++x::post->y∈post->x.i∈NK r W->(y.i=x.p∨y.i=x.s)->y.i∈NK r W
 | [],_,pre,_,_,_,_,e,_,_,_=>by simp at e
 | z::r,W,[],post,x,y,hp,e,hy,hx,h=>by
  simp only[List.nil_append,List.cons.injEq] at e;obtain⟨rfl,rfl⟩:=e;simp only[NK] at hx ⊢;split
  .refine List.mem_append_left _ (tV hy ?_);rcases h with h|h<;>simp[h]
  .rename_i hw;rw[if_neg hw] at hx;obtain⟨u,h1,h2⟩:=tU hx;have:=(List.pairwise_cons.1 hp).1 u h1;omega
 | z::r,W,q::pre,post,x,y,hp,e,hy,hx,h=>by
  simp only[List.cons_append,List.cons.injEq] at e;obtain⟨rfl,rfl⟩:=e;have hp2:=List.pairwise_cons.1 hp;have hxr:x∈pre++x::post:=List.mem_append_right _ List.mem_cons_self;simp only[NK] at hx ⊢;split
  .rename_i hw;rw[if_pos hw] at hx;rcases List.mem_append.1 hx with hx|hx
   .exact List.mem_append_left _ (zY hp2.2 rfl hy hx h)
   .rw[List.mem_singleton] at hx;have:=hp2.1 x hxr;omega
  .rename_i hw;rw[if_neg hw] at hx;exact zY hp2.2 rfl hy hx h
theorem vU: ∀{r:List Ly} {W:List Int},(∀x∈r,x.i∈W->C x.i)->(∀x∈r,C x.i->∀y∈r,(y.i=x.p∨y.i=x.s)->C y.i)->∀a∈NK r W,C a
 | [],_,_,_,a,h=>by cases h
 | x::r,W,h1,h2,a,h=>by
  simp only[NK] at h;split at h
  .rename_i hw;have hx:C x.i:=h1 x List.mem_cons_self (by simpa using hw);rcases List.mem_append.1 h with h|h
   .refine vU (λy hy hw2=>?_) (λy hy hc z hz=>h2 y (List.mem_cons_of_mem _ hy) hc z (List.mem_cons_of_mem _ hz)) a h;rcases List.mem_cons.1 hw2 with e|hw2
    .exact h2 x List.mem_cons_self hx y (List.mem_cons_of_mem _ hy) (.inl e)
    .rcases List.mem_cons.1 hw2 with e|hw2
     .exact h2 x List.mem_cons_self hx y (List.mem_cons_of_mem _ hy) (.inr e)
     .exact h1 y (List.mem_cons_of_mem _ hy) hw2
   .rw[List.mem_singleton] at h;subst h;exact hx
  .exact vU (λy hy=>h1 y (List.mem_cons_of_mem _ hy)) (λy hy hc z hz=>h2 y (List.mem_cons_of_mem _ hy) hc z (List.mem_cons_of_mem _ hz)) a h
theorem zH0{a:Int}(h:a∈rS l id):∃x∈l,x.i=a:=by
 obtain⟨x,h1,h2⟩:=tU h;grind
theorem tT(h:x∈l):x.i∈rS l x.i:=tV (List.mem_reverse.2 h) (List.mem_singleton.2 rfl)
theorem JN(hg:OkG l)(hx:x∈l)(hy:y∈l)(h:x.i∈rS l id)(hp:y.i=x.p∨y.i=x.s):y.i∈rS l id:=by
 have hinc:(l.reverse).Pairwise λx y=>y.i<x.i:=by rw[List.pairwise_reverse];exact hg.inc
 have hlt:y.i<x.i:=by
  obtain ⟨k,hk⟩:=List.mem_iff_getElem?.1 hx;have st:∀q,fG l k q->y.i=q->y.i<x.i:=λq hq e=>by
   rcases hq with hq|⟨j,z,h1,h2,h3,_⟩
   .have:=(hg.lo y hy).1;omega
   .have:=zAu hg.inc h2 hk h1;omega
  rcases hp with hp|hp
  .exact st _ (hg.par k x hk) hp
  .exact st _ (hg.sec k x hk) hp
 obtain⟨pre,post,e⟩:=List.append_of_mem (List.mem_reverse.2 hx);have hyr:y∈l.reverse:=List.mem_reverse.2 hy;grind [List.mem_cons_self,rS,zY]
theorem qP(h1:∀x∈l,x.i=id->C x.i)(h2:∀x∈l,C x.i->∀y∈l,(y.i=x.p∨y.i=x.s)->C y.i):∀a∈rS l id,C a:=by
 refine vU (λx hx hw=>h1 x (List.mem_reverse.1 hx) (List.mem_singleton.1 hw)) λx hx hc y hy=>h2 x (List.mem_reverse.1 hx) hc y (List.mem_reverse.1 hy)
theorem XH: ∀{a b:List Int},a.Pairwise (· < ·)->b.Pairwise (· < ·)->(∀x,x∈a↔x∈b)->a=b
 | [],[],_,_,_=>rfl
 | [],y::b,_,_,h=>by have:=(h y).2 List.mem_cons_self;cases this
 | x::a,[],_,_,h=>by have:=(h x).1 List.mem_cons_self;cases this
 | x::a,y::b,ha,hb,h=>by
  have ha2:=List.pairwise_cons.1 ha;have hb2:=List.pairwise_cons.1 hb;have hxy:x=y:=by
   rcases List.mem_cons.1 ((h x).1 List.mem_cons_self) with h1|h1
   .exact h1
   .rcases List.mem_cons.1 ((h y).2 List.mem_cons_self) with h2|h2
    .exact h2.symm
    .have:=hb2.1 x h1;have:=ha2.1 y h2;omega
  subst hxy;rw[XH ha2.2 hb2.2 λz=>⟨λhz=>?_,λhz=>?_⟩]
  .rcases List.mem_cons.1 ((h z).1 (List.mem_cons_of_mem _ hz)) with h1|h1
   .have:=ha2.1 z hz;omega
   .exact h1
  .rcases List.mem_cons.1 ((h z).2 (List.mem_cons_of_mem _ hz)) with h1|h1
   .have:=hb2.1 z hz;omega
   .exact h1
attribute [go_sem] gH zIM zAl zEC zEA zIL zEB zAm zO7 eZ zIU zIV zEK zEI zIT zEJ Ly.cv
end
section
variable {l:List Ly}{id:Int}{x:Ly}
def zP8(l:List Ly)(id:Int):Bool:=id==0 || (match fF l id with
 | some y=>y.f
 | none=>false)
def zQa(l:List Ly)(k:Nat)(x:Ly):Bool :=
 !(decide (x.i<1) || (decide (2147483647<x.i) || (decide ((0:Int)<(k:Int)) && decide (x.i<=((l[k-1]?).getD ly0).i)))) && ((zP8 (l.take k) x.p && zP8 (l.take k) x.s) &&
 (!((x.s != 0) && ((x.p==0) || (x.p==x.s))) && decide (((bV (l.take (k+1)) x.i).length:Int)<=12)))
def zJX(l:List Ly):Nat->Bool
 | 0=>true
 | k+1=>zJX l k && (match l[k]? with
  | some x=>zQa l k x
  | none=>true)
def zLz(l:List Ly):Bool:=zJX l l.length && decide ((l.length:Int)<=40)
theorem zAL: ∀{n k:Nat} {x:Ly},zJX l n=true->k<n->l[k]?=some x->zQa l k x=true
 | 0,_,_,_,h,_=>by omega
 | n+1,k,x,h,hk,hx=>by
  simp only[zJX,Bool.and_eq_true] at h;by_cases e:k=n
  .simp_all
  .exact zAL h.1 (by omega) hx
theorem zOW(h:∀k x y,l[k]?=some x->l[k+1]?=some y->x.i<y.i):qO l:=by
 have key:∀(d k:Nat) (x y:Ly),l[k]?=some x->l[k+d+1]?=some y->x.i<y.i:=by
  intro d
  induction d with
  | zero=>omega
  | succ d ih =>
   grind
 refine List.pairwise_iff_getElem.2 λi j hi hj hij=>key (j-i-1) i _ _ (List.getElem?_eq_getElem hi) ?_;rw[show i+(j-i-1)+1=j by omega]
 simp_all
theorem zE8(h:qO l){j n:Nat}{y:Ly}(hj:l[j]?=some y)(hn:j<n):fF (l.take n) y.i=some y:=by
 refine nV (List.Pairwise.sublist (List.take_sublist n l) h) (List.mem_iff_getElem?.2 ⟨j,?_⟩);simp_all
theorem pK(h:∀x∈l,1<=x.i):fF l 0=none:=by
 refine List.find?_eq_none.2 λx hx=>?_;grind
theorem jW(h:fF l id=none)(n:Nat):eU l n id=[]:=by
 cases n with
 | zero=>rfl
 | succ n=>grind [eU]
theorem qT(hi:qO l)(hlo:∀x∈l,1<=x.i)(hp:∀k x,l[k]?=some x->fG l k x.p):∀(k:Nat) {x:Ly} {j n m:Nat},l[k]?=some x->k<j->k+1<=n->k+1<=m->eU (l.take j) n x.i=eU l m x.i:=by
 intro k
 induction k using Nat.strongRecOn with
 | ind k ih =>
  intro x j n m hx hj hn hm;obtain⟨n',rfl⟩:∃n',n=n'+1:=⟨n-1,by omega⟩
  obtain⟨m',rfl⟩:∃m',m=m'+1:=⟨m-1,by omega⟩
  simp only[eU,zE8 hi hx hj,nV hi (List.mem_of_getElem? hx)]
  congr 1
  rcases hp k x hx with h0|⟨q,y,h1,h2,h3,_⟩
  .rw[h0,jW (pK λz hz=>hlo z (List.mem_of_mem_take hz)),jW (pK hlo)]
  .rw[<- h3];exact ih q h1 h2 (by omega) (by omega) (by omega)
theorem vW(hi:qO l)(hlo:∀x∈l,1<=x.i)(hp:∀k x,l[k]?=some x->fG l k x.p)(hx:x∈l):bV l x.i=bV l x.p++[x.i]:=by
 obtain⟨k,hk⟩:=List.mem_iff_getElem?.1 hx;have hlt:=(List.getElem?_eq_some_iff.1 hk).1;unfold bV;rw[show eU l (l.length+1) x.i=x.i::eU l l.length x.p by simp only[eU,nV hi hx],List.reverse_cons]
 congr 2
 rcases hp k x hk with h0|⟨q,y,h1,h2,h3,_⟩
 .rw[h0,jW (pK hlo),jW (pK hlo)]
 .rw[<- h3,<- qT hi hlo hp q h2 (j:=l.length) (n:=l.length) (m:=l.length) (by omega) (by omega) (by omega),<- qT hi hlo hp q h2 (j:=l.length) (n:=l.length) (m:=l.length+1) (by omega) (by omega) (by omega)]
theorem qU(hlo:∀x∈l,1<=x.i):bV l 0=[]:=by grind [bV,jW,pK]
theorem OkG.lo1(h:OkG l):∀x∈l,1<=x.i:=λx hx=>(h.lo x hx).1
theorem OkG.step(h:OkG l)(hx:x∈l):bV l x.i=bV l x.p++[x.i]:=vW h.inc h.lo1 h.par hx
theorem zG8(k:Nat)(h:zP8 (l.take k) id=true):fG l k id:=by
 unfold zP8 at h;rw[Bool.or_eq_true] at h;rcases h with h|h
 .exact .inl (by simpa using h)
 .split at h
  .rename_i y hy;obtain⟨h1,h2⟩:=pJ hy;obtain⟨j,hj⟩:=List.mem_iff_getElem?.1 h1;rw[List.getElem?_take] at hj;split at hj
   .rename_i hlt;exact .inr ⟨j,y,hlt,hj,h2,h⟩
   .cases hj
  .cases h
theorem zGS(h:zLz l=true):OkG l/\l.length<=40:=by
 unfold zLz at h;simp only[Bool.and_eq_true,decide_eq_true_eq] at h;obtain⟨h1,h2⟩:=h;have hat:∀k x,l[k]?=some x->zQa l k x=true:=λk x hx=>zAL h1 (List.getElem?_eq_some_iff.1 hx).1 hx;have hat2:∀k x,l[k]?=some x->(1<=x.i/\x.i<=2147483647)/\(0<k->((l[k-1]?).getD ly0).i<x.i)/\fG l k x.p/\fG l k x.s/\(x.s≠0->x.p≠0/\x.p≠x.s)/\(bV (l.take (k+1)) x.i).length<=12:=λk x hx=>by
  have:=hat k x hx;unfold zQa at this;grind [zG8]
 have hinc:qO l:=zOW λk x y hx hy=>by
  grind
 have hlo:∀x∈l,1<=x.i/\x.i<=2147483647:=λx hx=>by
  grind [List.mem_iff_getElem?.1]
 have hpar:∀k x,l[k]?=some x->fG l k x.p:=λk x hx=>(hat2 k x hx).2.2.1;refine⟨⟨hinc,hlo,hpar,λk x hx=>(hat2 k x hx).2.2.2.1,λx hx=>?_,λx hx=>?_⟩,by omega⟩
 .obtain⟨k,hk⟩:=List.mem_iff_getElem?.1 hx;exact(hat2 k x hk).2.2.2.2.1
 .obtain⟨k,hk⟩:=List.mem_iff_getElem?.1 hx;have h5:=(hat2 k x hk).2.2.2.2.2;have hlt:=(List.getElem?_eq_some_iff.1 hk).1;unfold bV at h5 ⊢;rw[<- qT hinc (λz hz=>(hlo z hz).1) hpar k hk (j:=k+1) (n:=(l.take (k+1)).length+1) (m:=l.length+1) (by omega) (by rw[List.length_take];omega) (by omega)];exact h5
end
end Go.Dm
end
