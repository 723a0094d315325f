/- Part 13 of the proof of roomStays_card, set without needless blanks. No condition. -/
import Derived.Test.YtlbfnbldeefgmaaGreatDoorT10
set_option linter.all false
set_option maxRecDepth 100000
set_option maxHeartbeats 16000000
section
namespace Go.Dm
open Go
section
variable {k:Nat}{id:Int}{C:Int->Prop}
structure Ly where
 i:Int
 p:Int
 s:Int
 f:Bool
variable {l:List Ly}{x y:Ly}
def Ly.cs(x:Ly):List PV:=[.i .i64 x.i,.i .i64 x.p,.i .i64 x.s,.b x.f]
def Ly.cv(x:Ly):List CV:=[.p (.i .i64 x.i),.p (.i .i64 x.p),.p (.i .i64 x.s),.p (.b x.f)]
def ly0: Ly:=⟨0,0,0,false⟩
def cM(l:List Ly):List (List PV):=l.map Ly.cs
theorem eY(l:List Ly):(cM l).length=l.length:=by simp[cM]
theorem zHQ: cM []=[]:=rfl
theorem lZ(h:l[k]?=some x):(cM l).getD k []=[.i .i64 x.i,.i .i64 x.p,.i .i64 x.s,.b x.f]:=by
 simp only[cM,List.getD_eq_getElem?_getD,List.getElem?_map,h];rfl
theorem YA(l:List Ly):(∀x∈cM l,x.length=4)=True:=eq_true λx hx=>by
 obtain⟨y,_,rfl⟩:=List.mem_map.1 hx;rfl
theorem zDA(a:List Ly)(n:Nat):(cM a).take n=cM (a.take n):=by simp[cM]
theorem zDy(a:List Ly)(n:Nat):(cM a).drop n=cM (a.drop n):=by simp[cM]
theorem zHP(a b:List Ly):cM a++cM b=cM (a++b):=by simp[cM]
theorem zDz(t:List Ly)(i p s:Int)(f:Bool):cM t++[[.i .i64 i,.i .i64 p,.i .i64 s,.b f]]=cM (t++[⟨i,p,s,f⟩]):=by simp[cM,Ly.cs]
theorem YB(t:List Ly)(k:Nat)(i p s:Int)(f:Bool):(cM t).set k [.i .i64 i,.i .i64 p,.i .i64 s,.b f]=cM (t.set k ⟨i,p,s,f⟩):=by simp[cM,Ly.cs,List.map_set]
theorem zN7(x:Ly):Ly.mk x.i x.p x.s x.f=x:=rfl
def dG(l:List Int):List (List PV):=l.map λn=>[.i .i64 n]
theorem eZ(l:List Int):(dG l).length=l.length:=by simp[dG]
theorem zHY: dG []=[]:=rfl
theorem rI{l:List Int}{x:Int}(h:l[k]?=some x):(dG l).getD k []=[.i .i64 x]:=by
 simp only[dG,List.getD_eq_getElem?_getD,List.getElem?_map,h];rfl
theorem zHZ(l:List Int):(∀x∈dG l,x.length=1)=True:=eq_true λx hx=>by
 obtain⟨y,_,rfl⟩:=List.mem_map.1 hx;rfl
theorem zDI(a:List Int)(n:Nat):(dG a).take n=dG (a.take n):=by simp[dG]
theorem zDG(a:List Int)(n:Nat):(dG a).drop n=dG (a.drop n):=by simp[dG]
theorem zHX(a b:List Int):dG a++dG b=dG (a++b):=by simp[dG]
theorem zDH(t:List Int)(i:Int):dG t++[[.i .i64 i]]=dG (t++[i]):=by simp[dG]
def dR(l:List Ly)(id:Int):Option Ly:=l.find? λx=>x.i==id
theorem oR(h:dR l id=some x):x∈l/\x.i=id:=⟨List.mem_of_find?_eq_some h,eq_of_beq (List.find?_some (p:=λz:Ly=>z.i==id) h)⟩
theorem zIl(h:dR l id=none):∀x∈l,x.i≠id:=λx hx e=>by
 have:=List.find?_eq_none.1 h x hx;simp[e] at this
theorem qB(x:Ly)(l:List Ly)(id:Int):dR (x::l) id=if x.i==id then some x else dR l id:=by
 simp only[dR,List.find?_cons];cases x.i==id<;>rfl
def eR(l:List Ly):Nat->Int->List Int
 | 0,_=>[]
 | n+1,id=>match dR l id with
  | some x=>x.i::eR l n x.p
  | none=>[]
def bN(l:List Ly)(id:Int):List Int:=(eR l (l.length+1) id).reverse
theorem DW(l:List Ly):∀(n:Nat) (id:Int),(eR l n id).length<=n
 | 0,_=>Nat.le_refl _
 | n+1,id=>by
  simp only[eR];split
  .simp only[List.length_cons];have:=DW l n;exact Nat.succ_le_succ (this _)
  .exact Nat.zero_le _
theorem zAg(l:List Ly)(id:Int):(bN l id).length<=l.length+1:=by
 unfold bN;rw[List.length_reverse];exact DW _ _ _
def pV(l:List Ly):Prop:=l.Pairwise λx y=>x.i<y.i
theorem nM(h:pV l)(hx:x∈l):dR l x.i=some x:=by
 induction l with
 | nil=>cases hx
 | cons y l ih =>
  rw[qB];have h2:=List.pairwise_cons.1 h;rcases List.mem_cons.1 hx with rfl|hx
  .rw[if_pos (by simp)]
  .rw[if_neg (by have:=h2.1 x hx;simp;omega)];exact ih h2.2 hx
def fD(l:List Ly)(k:Nat)(id:Int):Prop:=id=0∨∃j y,j<k/\l[j]?=some y/\y.i=id/\y.f=true
structure OkG (l:List Ly):Prop where
 inc:pV l
 lo:∀x∈l,1<=x.i/\x.i<=2147483647
 par:∀k x,l[k]?=some x->fD l k x.p
 sec:∀k x,l[k]?=some x->fD l k x.s
 two:∀x∈l,x.s≠0->x.p≠0/\x.p≠x.s
 chn:∀x∈l,(bN l x.i).length<=12
theorem YL(h:pV l){j:Nat}(hx:l[j]?=some x)(hy:l[k]?=some y)(hjk:j<k):x.i<y.i:=by
 obtain⟨h1,h2⟩:=List.getElem?_eq_some_iff.1 hx;obtain⟨h3,h4⟩:=List.getElem?_eq_some_iff.1 hy;have:=List.pairwise_iff_getElem.1 h j k h1 h3 hjk;rw[h2,h4] at this;exact this
def GW: List Ly->List Int->List Int
 | [],_=>[]
 | x::r,W=>if W.contains x.i then GW r (x.p::x.s::W)++[x.i] else GW r W
def pW(l:List Ly)(id:Int):List Int:=GW l.reverse [id]
def kL(l:List Ly)(ids:List Int):List Ly:=l.filter λx=>ids.any λid=>(pW l id).contains x.i
def xD(l:List Ly)(a b:Int):Int:=(((pW l a).filter λx=>(pW l b).contains x).getLast?).getD 0
theorem GY: ∀(r:List Ly) (W:List Int),(GW r W).length<=r.length
 | [],_=>Nat.le_refl _
 | x::r,W=>by
  simp only[GW];split
  .rw[List.length_append];have:=GY r (x.p::x.s::W);simp only[List.length_cons,List.length_nil];omega
  .have:=GY r W;simp only[List.length_cons];omega
theorem xM(l:List Ly)(id:Int):(pW l id).length<=l.length:=by
 have:=GY l.reverse [id]
 rwa[List.length_reverse] at this
theorem sO: ∀{r:List Ly} {W:List Int} {a:Int},a∈GW r W->∃x∈r,x.i=a
 | [],_,_,h=>by cases h
 | x::r,W,a,h=>by
  simp only[GW] at h;split at h
  .rcases List.mem_append.1 h with h|h
   .obtain⟨y,h1,h2⟩:=sO h;exact⟨y,List.mem_cons_of_mem _ h1,h2⟩
   .rw[List.mem_singleton] at h;exact⟨x,List.mem_cons_self,h.symm⟩
  .obtain⟨y,h1,h2⟩:=sO h;exact⟨y,List.mem_cons_of_mem _ h1,h2⟩
theorem GX: ∀{r:List Ly} {W:List Int},r.Pairwise (λx y=>y.i<x.i)->(GW r W).Pairwise (· < ·)
 | [],_,_=>List.Pairwise.nil
 | x::r,W,h=>by
  have h2:=List.pairwise_cons.1 h;simp only[GW];split
  .refine List.pairwise_append.2 ⟨GX h2.2,List.pairwise_singleton _ _,λa ha b hb=>?_⟩;rw[List.mem_singleton] at hb;subst hb;obtain⟨y,h3,rfl⟩:=sO ha;exact h2.1 y h3
  .exact GX h2.2
theorem GU(h:pV l)(id:Int):(pW l id).Pairwise (· < ·):=by
 refine GX ?_;rw[List.pairwise_reverse];exact h
theorem sP: ∀{r:List Ly} {W:List Int} {x:Ly},x∈r->x.i∈W->x.i∈GW r W
 | [],_,_,h,_=>by cases h
 | y::r,W,x,h,hw=>by
  simp only[GW];rcases List.mem_cons.1 h with rfl|h
  .rw[if_pos (by simpa using hw)];exact List.mem_append_right _ (List.mem_singleton.2 rfl)
  .split
   .exact List.mem_append_left _ (sP h (List.mem_cons_of_mem _ (List.mem_cons_of_mem _ hw)))
   .exact sP h hw
theorem yR: ∀{r:List Ly} {W:List Int} {pre post:List Ly} {x y:Ly},r.Pairwise (λx y=>y.i<x.i)->r=pre++x::post->y∈post->x.i∈GW r W->(y.i=x.p∨y.i=x.s)->y.i∈GW r W
 | [],_,pre,_,_,_,_,e,_,_,_=>by simp at e
 | z::r,W,[],post,x,y,hp,e,hy,hx,h=>by
  simp only[List.nil_append,List.cons.injEq] at e;obtain⟨rfl,rfl⟩:=e;simp only[GW] at hx ⊢;split
  .refine List.mem_append_left _ (sP hy ?_);rcases h with h|h<;>simp[h]
  .rename_i hw;rw[if_neg hw] at hx;obtain⟨u,h1,h2⟩:=sO hx;have:=(List.pairwise_cons.1 hp).1 u h1;omega
 | z::r,W,q::pre,post,x,y,hp,e,hy,hx,h=>by
  simp only[List.cons_append,List.cons.injEq] at e;obtain⟨rfl,rfl⟩:=e;have hp2:=List.pairwise_cons.1 hp;have hxr:x∈pre++x::post:=List.mem_append_right _ List.mem_cons_self;simp only[GW] at hx ⊢;split
  .rename_i hw;rw[if_pos hw] at hx;rcases List.mem_append.1 hx with hx|hx
   .exact List.mem_append_left _ (yR hp2.2 rfl hy hx h)
   .rw[List.mem_singleton] at hx;have:=hp2.1 x hxr;omega
  .rename_i hw;rw[if_neg hw] at hx;exact yR hp2.2 rfl hy hx h
theorem uW: ∀{r:List Ly} {W:List Int},(∀x∈r,x.i∈W->C x.i)->(∀x∈r,C x.i->∀y∈r,(y.i=x.p∨y.i=x.s)->C y.i)->∀a∈GW r W,C a
 | [],_,_,_,a,h=>by cases h
 | x::r,W,h1,h2,a,h=>by
  simp only[GW] at h;split at h
  .rename_i hw;have hx:C x.i:=h1 x List.mem_cons_self (by simpa using hw);rcases List.mem_append.1 h with h|h
   .refine uW (λy hy hw2=>?_) (λy hy hc z hz=>h2 y (List.mem_cons_of_mem _ hy) hc z (List.mem_cons_of_mem _ hz)) a h;rcases List.mem_cons.1 hw2 with e|hw2
    .exact h2 x List.mem_cons_self hx y (List.mem_cons_of_mem _ hy) (.inl e)
    .rcases List.mem_cons.1 hw2 with e|hw2
     .exact h2 x List.mem_cons_self hx y (List.mem_cons_of_mem _ hy) (.inr e)
     .exact h1 y (List.mem_cons_of_mem _ hy) hw2
   .rw[List.mem_singleton] at h;subst h;exact hx
  .exact uW (λy hy=>h1 y (List.mem_cons_of_mem _ hy)) (λy hy hc z hz=>h2 y (List.mem_cons_of_mem _ hy) hc z (List.mem_cons_of_mem _ hz)) a h
theorem zGY{a:Int}(h:a∈pW l id):∃x∈l,x.i=a:=by
 obtain⟨x,h1,h2⟩:=sO h;exact⟨x,List.mem_reverse.1 h1,h2⟩
theorem mH(h:x∈l):x.i∈pW l x.i:=sP (List.mem_reverse.2 h) (List.mem_singleton.2 rfl)
theorem GV(hg:OkG l)(hx:x∈l)(hy:y∈l)(h:x.i∈pW l id)(hp:y.i=x.p∨y.i=x.s):y.i∈pW l id:=by
 have hinc:(l.reverse).Pairwise λx y=>y.i<x.i:=by rw[List.pairwise_reverse];exact hg.inc
 have hlt:y.i<x.i:=by
  obtain ⟨k,hk⟩:=List.mem_iff_getElem?.1 hx;have st:∀q,fD l k q->y.i=q->y.i<x.i:=λq hq e=>by
   rcases hq with hq|⟨j,z,h1,h2,h3,_⟩
   .have:=(hg.lo y hy).1;omega
   .have:=YL hg.inc h2 hk h1;omega
  rcases hp with hp|hp
  .exact st _ (hg.par k x hk) hp
  .exact st _ (hg.sec k x hk) hp
 obtain ⟨pre,post,e⟩:=List.append_of_mem (List.mem_reverse.2 hx);have hyr:y∈l.reverse:=List.mem_reverse.2 hy;rw[e] at hyr;have hyp:y∈post:=by
  rw[e] at hinc;rcases List.mem_append.1 hyr with h|h
  .have:=(List.pairwise_append.1 hinc).2.2 y h x List.mem_cons_self;omega
  .rcases List.mem_cons.1 h with h|h
   .subst h;omega
   .exact h
 unfold pW at h ⊢;exact yR hinc e hyp h hp
theorem pX(h1:∀x∈l,x.i=id->C x.i)(h2:∀x∈l,C x.i->∀y∈l,(y.i=x.p∨y.i=x.s)->C y.i):∀a∈pW l id,C a:=by
 refine uW (λx hx hw=>h1 x (List.mem_reverse.1 hx) (List.mem_singleton.1 hw)) λx hx hc y hy=>h2 x (List.mem_reverse.1 hx) hc y (List.mem_reverse.1 hy)
theorem VK: ∀{a b:List Int},a.Pairwise (· < ·)->b.Pairwise (· < ·)->(∀x,x∈a↔x∈b)->a=b
 | [],[],_,_,_=>rfl
 | [],y::b,_,_,h=>by have:=(h y).2 List.mem_cons_self;cases this
 | x::a,[],_,_,h=>by have:=(h x).1 List.mem_cons_self;cases this
 | x::a,y::b,ha,hb,h=>by
  have ha2:=List.pairwise_cons.1 ha;have hb2:=List.pairwise_cons.1 hb;have hxy:x=y:=by
   rcases List.mem_cons.1 ((h x).1 List.mem_cons_self) with h1|h1
   .exact h1
   .rcases List.mem_cons.1 ((h y).2 List.mem_cons_self) with h2|h2
    .exact h2.symm
    .have:=hb2.1 x h1;have:=ha2.1 y h2;omega
  subst hxy;rw[VK ha2.2 hb2.2 λz=>⟨λhz=>?_,λhz=>?_⟩]
  .rcases List.mem_cons.1 ((h z).1 (List.mem_cons_of_mem _ hz)) with h1|h1
   .have:=ha2.1 z hz;omega
   .exact h1
  .rcases List.mem_cons.1 ((h z).2 (List.mem_cons_of_mem _ hz)) with h1|h1
   .have:=hb2.1 z hz;omega
   .exact h1
attribute [go_sem] eY zHQ YA zDA zDy zHP zDz YB zN7 eZ zHY zHZ zDI zDG zHX zDH Ly.cv
end
section
variable {l:List Ly}{id:Int}{x:Ly}
def zO4(l:List Ly)(id:Int):Bool:=id==0 || (match dR l id with
 | some y=>y.f
 | none=>false)
def zO5(l:List Ly)(k:Nat)(x:Ly):Bool :=
 !(decide (x.i<1) || (decide (2147483647<x.i) || (decide ((0:Int)<(k:Int)) && decide (x.i<=((l[k-1]?).getD ly0).i)))) && ((zO4 (l.take k) x.p && zO4 (l.take k) x.s) &&
 (!((x.s != 0) && ((x.p==0) || (x.p==x.s))) && decide (((bN (l.take (k+1)) x.i).length:Int)<=12)))
def zI4(l:List Ly):Nat->Bool
 | 0=>true
 | k+1=>zI4 l k && (match l[k]? with
  | some x=>zO5 l k x
  | none=>true)
def zKB(l:List Ly):Bool:=zI4 l l.length && decide ((l.length:Int)<=40)
theorem YW: ∀{n k:Nat} {x:Ly},zI4 l n=true->k<n->l[k]?=some x->zO5 l k x=true
 | 0,_,_,_,h,_=>by omega
 | n+1,k,x,h,hk,hx=>by
  simp only[zI4,Bool.and_eq_true] at h;by_cases e:k=n
  .subst e;rw[hx] at h;exact h.2
  .exact YW h.1 (by omega) hx
theorem zNV(h:∀k x y,l[k]?=some x->l[k+1]?=some y->x.i<y.i):pV l:=by
 have key:∀(d k:Nat) (x y:Ly),l[k]?=some x->l[k+d+1]?=some y->x.i<y.i:=by
  intro d
  induction d with
  | zero=>intro k x y hx hy;exact h k x y hx hy
  | succ d ih =>
   intro k x y hx hy;have hlt:k+d+1<l.length:=by have:=(List.getElem?_eq_some_iff.1 hy).1;omega
   have hz:=List.getElem?_eq_getElem hlt;have:=ih k x _ hx hz;have:=h (k+d+1) _ y hz hy;omega
 refine List.pairwise_iff_getElem.2 λi j hi hj hij=>key (j-i-1) i _ _ (List.getElem?_eq_getElem hi) ?_;rw[show i+(j-i-1)+1=j by omega]
 exact List.getElem?_eq_getElem hj
theorem zD7(h:pV l){j n:Nat}{y:Ly}(hj:l[j]?=some y)(hn:j<n):dR (l.take n) y.i=some y:=by
 refine nM (List.Pairwise.sublist (List.take_sublist n l) h) (List.mem_iff_getElem?.2 ⟨j,?_⟩);rw[List.getElem?_take,if_pos hn];exact hj
theorem oS(h:∀x∈l,1<=x.i):dR l 0=none:=by
 refine List.find?_eq_none.2 λx hx=>?_;have:=h x hx;simp;omega
theorem kC(h:dR l id=none)(n:Nat):eR l n id=[]:=by
 cases n with
 | zero=>rfl
 | succ n=>simp only[eR,h]
theorem pZ(hi:pV l)(hlo:∀x∈l,1<=x.i)(hp:∀k x,l[k]?=some x->fD l k x.p):∀(k:Nat) {x:Ly} {j n m:Nat},l[k]?=some x->k<j->k+1<=n->k+1<=m->eR (l.take j) n x.i=eR l m x.i:=by
 intro k
 induction k using Nat.strongRecOn with
 | ind k ih =>
  intro x j n m hx hj hn hm;obtain⟨n',rfl⟩:∃n',n=n'+1:=⟨n-1,by omega⟩
  obtain⟨m',rfl⟩:∃m',m=m'+1:=⟨m-1,by omega⟩
  simp only[eR,zD7 hi hx hj,nM hi (List.mem_of_getElem? hx)]
  congr 1
  rcases hp k x hx with h0|⟨q,y,h1,h2,h3,_⟩
  .rw[h0,kC (oS λz hz=>hlo z (List.mem_of_mem_take hz)),kC (oS hlo)]
  .rw[<- h3];exact ih q h1 h2 (by omega) (by omega) (by omega)
theorem uY(hi:pV l)(hlo:∀x∈l,1<=x.i)(hp:∀k x,l[k]?=some x->fD l k x.p)(hx:x∈l):bN l x.i=bN l x.p++[x.i]:=by
 obtain⟨k,hk⟩:=List.mem_iff_getElem?.1 hx;have hlt:=(List.getElem?_eq_some_iff.1 hk).1;unfold bN;rw[show eR l (l.length+1) x.i=x.i::eR l l.length x.p by simp only[eR,nM hi hx],List.reverse_cons]
 congr 2
 rcases hp k x hk with h0|⟨q,y,h1,h2,h3,_⟩
 .rw[h0,kC (oS hlo),kC (oS hlo)]
 .rw[<- h3,<- pZ hi hlo hp q h2 (j:=l.length) (n:=l.length) (m:=l.length) (by omega) (by omega) (by omega),<- pZ hi hlo hp q h2 (j:=l.length) (n:=l.length) (m:=l.length+1) (by omega) (by omega) (by omega)]
theorem qA(hlo:∀x∈l,1<=x.i):bN l 0=[]:=by
 unfold bN;rw[kC (oS hlo)];rfl
theorem OkG.lo1(h:OkG l):∀x∈l,1<=x.i:=λx hx=>(h.lo x hx).1
theorem OkG.step(h:OkG l)(hx:x∈l):bN l x.i=bN l x.p++[x.i]:=uY h.inc h.lo1 h.par hx
theorem RJ(k:Nat)(h:zO4 (l.take k) id=true):fD l k id:=by
 unfold zO4 at h;rw[Bool.or_eq_true] at h;rcases h with h|h
 .exact .inl (by simpa using h)
 .split at h
  .rename_i y hy;obtain⟨h1,h2⟩:=oR hy;obtain⟨j,hj⟩:=List.mem_iff_getElem?.1 h1;rw[List.getElem?_take] at hj;split at hj
   .rename_i hlt;exact .inr ⟨j,y,hlt,hj,h2,h⟩
   .cases hj
  .cases h
theorem zFT(h:zKB l=true):OkG l/\l.length<=40:=by
 unfold zKB at h;simp only[Bool.and_eq_true,decide_eq_true_eq] at h;obtain⟨h1,h2⟩:=h;have hat:∀k x,l[k]?=some x->zO5 l k x=true:=λk x hx=>YW h1 (List.getElem?_eq_some_iff.1 hx).1 hx;have hat2:∀k x,l[k]?=some x->(1<=x.i/\x.i<=2147483647)/\(0<k->((l[k-1]?).getD ly0).i<x.i)/\fD l k x.p/\fD l k x.s/\(x.s≠0->x.p≠0/\x.p≠x.s)/\(bN (l.take (k+1)) x.i).length<=12:=λk x hx=>by
  have:=hat k x hx;unfold zO5 at this;simp only[Bool.and_eq_true,Bool.not_eq_true',Bool.or_eq_false_iff,decide_eq_false_iff_not,Bool.and_eq_false_iff,decide_eq_true_eq] at this;obtain⟨⟨a1,a2,a3⟩,⟨a4,a5⟩,a6,a7⟩:=this;refine⟨by omega,λhk=>?_,RJ k a4,RJ k a5,λhs=>?_,by omega⟩
  .rcases a3 with a3|a3<;>omega
  .rcases a6 with a6|a6
   .simp[hs] at a6
   .simpa using a6
 have hinc:pV l:=zNV λk x y hx hy=>by
  have:=(hat2 (k+1) y hy).2.1 (by omega);rw[show k+1-1=k by omega,hx] at this
  exact this
 have hlo:∀x∈l,1<=x.i/\x.i<=2147483647:=λx hx=>by
  obtain⟨k,hk⟩:=List.mem_iff_getElem?.1 hx;exact(hat2 k x hk).1
 have hpar:∀k x,l[k]?=some x->fD l k x.p:=λk x hx=>(hat2 k x hx).2.2.1;refine⟨⟨hinc,hlo,hpar,λk x hx=>(hat2 k x hx).2.2.2.1,λx hx=>?_,λx hx=>?_⟩,by omega⟩
 .obtain⟨k,hk⟩:=List.mem_iff_getElem?.1 hx;exact(hat2 k x hk).2.2.2.2.1
 .obtain⟨k,hk⟩:=List.mem_iff_getElem?.1 hx;have h5:=(hat2 k x hk).2.2.2.2.2;have hlt:=(List.getElem?_eq_some_iff.1 hk).1;unfold bN at h5 ⊢;rw[List.length_reverse] at h5 ⊢;rw[<- pZ hinc (λz hz=>(hlo z hz).1) hpar k hk (j:=k+1) (n:=(l.take (k+1)).length+1) (m:=l.length+1) (by omega) (by rw[List.length_take];omega) (by omega)];exact h5
end
end Go.Dm
end
section
namespace Go.Dm
open Go
structure En where
 p:List UInt8
 k:Int
 o:Bool
 n:Nd
def En.cs(x:En):List PV:=[.s x.p,.i .i64 x.k,.b x.o,.i .i64 x.n.k,.i .i64 x.n.m,.f x.n.t,.sl 1 (bJ x.n.d)]
def gD(l:List En):List (List PV):=l.map En.cs
theorem HL(l:List En):(gD l).length=l.length:=by simp[gD]
theorem zHK:gD []=[]:=rfl
theorem rH{t:List En}{k:Nat}{x:En}(h:t[k]?=some x):(gD t).getD k []=[.s x.p,.i .i64 x.k,.b x.o,.i .i64 x.n.k,.i .i64 x.n.m,.f x.n.t,.sl 1 (bJ x.n.d)]:=by
 simp only[gD,List.getD_eq_getElem?_getD,List.getElem?_map,h];rfl
theorem zHL(t:List En):(∀x∈gD t,x.length=7)=True:=eq_true λx hx=>by
 obtain⟨y,_,rfl⟩:=List.mem_map.1 hx;rfl
theorem zDt(a:List En)(n:Nat):(gD a).take n=gD (a.take n):=by simp[gD]
theorem zDq(a:List En)(n:Nat):(gD a).drop n=gD (a.drop n):=by simp[gD]
theorem XZ(a b:List En):gD a++gD b=gD (a++b):=by simp[gD]
theorem zDr(t:List En)(p:List UInt8)(k:Int)(o:Bool)(nk nm:Int)(nt:Nat)(d:List UInt8):gD t++[[.s p,.i .i64 k,.b o,.i .i64 nk,.i .i64 nm,.f nt,.sl 1 (bJ d)]]=gD (t++[⟨p,k,o,⟨nk,nm,nt,d⟩⟩]):=by simp[gD,En.cs]
theorem zNJ(x:En):En.mk x.p x.k x.o x.n=x:=rfl
attribute [go_sem] HL zHK zHL zDt zDq XZ zDr zNJ
def jN(x:En):Bool:=x.k==2 || x.n.k != 2
def oO(t:List It)(x:En):Bool:=x.o || (jN x || !aX t x.p)
def goE(t:List It)(x:En)(y:It):Bool:=y.p==x.p || (oO t x && aJ x.p y.p)
def oF(t:List It)(x:En):List It:=t.filter λy=>!goE t x y
def mB(t:List It)(x:En):List It:=if x.k==2 then oF t x else xL (oF t x) x.p x.n
def fU(t:List It)(l:List En):List It:=l.foldl mB t
def rY(t:List It)(l:List En):List It × Bool:=if kY (fU t l) then (fU t l,true) else ([],false)
theorem AK{t:List It}(h:Srt t)(x:En):Srt (oF t x):=h.filter _
theorem zFk{t:List It}(h:Srt t)(x:En):Srt (mB t x):=by
 unfold mB;split
 .exact AK h x
 .exact yK (AK h x)
theorem BE:∀{l:List En} {t:List It},Srt t->Srt (fU t l)
 | [],_,h=>h
 | x::l,t,h=>BE (l:=l) (zFk h x)
theorem NQ(t:List It)(x:En):(oF t x).length<=t.length:=List.length_filter_le ..
theorem PF(t:List It)(x:En):(mB t x).length<=t.length+1:=by
 have:=NQ t x;have:=yJ (oF t x) x.p x.n;unfold mB;split<;>omega
theorem zIN{t:List It}{x:En}:∀y∈oF t x,(y.p==x.p)=false:=λy hy=>by
 have:=(List.mem_filter.1 hy).2;simp only[goE,Bool.not_eq_true',Bool.or_eq_false_iff] at this;exact this.1
theorem zFj{t:List It}{x:En}{y:It}(h:y∈mB t x):y=⟨x.p,x.n⟩∨y∈t:=by
 unfold mB at h;split at h
 .exact .inr (List.mem_filter.1 h).1
 .rcases nX h with h|h
  .exact .inl h
  .exact .inr (List.mem_filter.1 h).1
end Go.Dm
namespace Go.Dm
open Go
def zKq(x:En):Bool:=!(x.p == []) && (cI x.p && (if x.k==2 then !x.o && uR x.n else (x.k==1 && aP x.n) && (!x.o || x.n.k==2)))
structure OkE (l:List En):Prop where
 may:∀x∈l,zKq x=true
 srt:l.Pairwise λx y=>bT x.p y.p=true
 open_:l.Pairwise λy x=>(jN y && aJ y.p x.p)=false
 tlen:∀x∈l,x.n.t<18446744073709551616
 len:l.length<=1000
theorem OkE.plen{l:List En}(h:OkE l):∀x∈l,x.p.length<=120:=λx hx=>by
 have:=h.may x hx;simp only[zKq,Bool.and_eq_true] at this;exact rO this.2.1
theorem OkE.dlen{l:List En}(h:OkE l):∀x∈l,x.n.d.length<=2000:=λx hx=>by
 have:=h.may x hx;simp only[zKq,Bool.and_eq_true] at this;have h2:=this.2.2;split at h2
 .simp only[Bool.and_eq_true,uR,beq_iff_eq] at h2;omega
 .simp only[Bool.and_eq_true] at h2;exact iW h2.1.2
end Go.Dm
namespace Go.Dm
open Go
theorem PG(t:List It)(l:List En):∀k,(fU t (l.take k)).length<=t.length+k
 | 0=>by simp[fU]
 | k+1=>by
  have ih:=PG t l k;rcases Nat.lt_or_ge k l.length with h|h
  .have e:fU t (l.take (k+1))=mB (fU t (l.take k)) l[k]:=by
    unfold fU;rw[List.take_add_one,List.getElem?_eq_getElem h,List.foldl_append];rfl
   rw[e];have:=PF (fU t (l.take k)) l[k];omega
  .rw[List.take_of_length_le (by omega)];rw[List.take_of_length_le (by omega)] at ih;omega
theorem BD{y:It}:∀{l:List En} {t:List It},y∈fU t l->y∈t∨∃x∈l,y=⟨x.p,x.n⟩
 | [],_,h=>.inl h
 | x::l,t,h=>by
  rcases BD (l:=l) (t:=mB t x) h with h|⟨z,hz,e⟩
  .rcases zFj h with h|h
   .exact .inr ⟨x,List.mem_cons_self,h⟩
   .exact .inl h
  .exact .inr ⟨z,List.mem_cons_of_mem _ hz,e⟩
end Go.Dm
end
section
namespace Go.Dm
open Go
def zR(ls:List (List En)):List (List PV):=ls.map λl=>[.sl 7 (gD l)]
theorem YC(ls:List (List En)):(zR ls).length=ls.length:=by simp[zR]
theorem zHU:zR []=[]:=rfl
theorem zLv{t:List (List En)}{k:Nat}{x:List En}(h:t[k]?=some x):(zR t).getD k []=[.sl 7 (gD x)]:=by
 simp only[zR,List.getD_eq_getElem?_getD,List.getElem?_map,h];rfl
theorem zHV(t:List (List En)):(∀x∈zR t,x.length=1)=True:=eq_true λx hx=>by
 obtain⟨y,_,rfl⟩:=List.mem_map.1 hx;rfl
theorem zDF(a:List (List En))(n:Nat):(zR a).take n=zR (a.take n):=by simp[zR]
theorem zDD(a:List (List En))(n:Nat):(zR a).drop n=zR (a.drop n):=by simp[zR]
theorem zHT(a b:List (List En)):zR a++zR b=zR (a++b):=by simp[zR]
theorem zDE(t:List (List En))(l:List En):zR t++[[.sl 7 (gD l)]]=zR (t++[l]):=by simp[zR]
attribute [go_sem] YC zHU zHV zDF zDD zHT zDE
def oT:List It->List (List En)->List It × Bool
 | t,[]=>(t,true)
 | t,l::r=>if (rY t l).2 then oT (rY t l).1 r else ([],false)
theorem zI7{t:List It}{l:List En}(ht:OkT t)(hl:OkE l)(h:(rY t l).2=true):OkT (rY t l).1:=by
 unfold rY at h ⊢;split at h
 .rename_i hr;rw[if_pos hr];refine QD (λy hy=>?_) hr;rcases BD hy with hy|⟨x,hx,rfl⟩
  .exact ht.tlen y hy
  .exact hl.tlen x hx
 .cases h
section
variable {os:List (List UInt8)}{w:List It}
def isB(l:List (List UInt8))(p:List UInt8):Bool:=l.any λq=>q==p
def zEi(t:List It)(p:List UInt8):Bool:=!(p == []) && aX t p
def RL(t w:List It)(p:List UInt8):Bool:=t.any λy=>(aN w y.p).isSome && aJ p y.p
def zFc(t w:List It)(x:It):Bool:=(x.n.k==2 && (zEi t x.p && !decide (((iI t x.p).length:Int)<2))) && !RL t w x.p
def kO(t w:List It):List (List UInt8):=(w.filter (zFc t w)).map λx=>x.p
def WK(t:List It)(os:List (List UInt8))(x:It):List En :=
 if isB os x.p then [⟨x.p,1,true,x.n⟩] else if (!(aN t x.p).isSome || !lC ((aN t x.p).getD nd0) x.n) then [⟨x.p,1,false,x.n⟩] else []
def jL(t:List It)(os:List (List UInt8))(w:List It):List En:=w.flatMap (WK t os)
def zGS(w:List It)(os:List (List UInt8)):Nat->List UInt8->Bool
 | 0,_=>false
 | n+1,q=>if q == [] then false else if (!(aN w q).isSome || (((aN w q).getD nd0).k != 2 || isB os q)) then true else zGS w os n (aM q)
def KS(w:List It)(os:List (List UInt8))(p:List UInt8):Bool:=zGS w os p.length (aM p)
def zO1(l:List En)(p:List UInt8):Nat:=(l.takeWhile λx=>bT x.p p).length
def zGT(l:List En)(e:En):List En:=l.take (zO1 l e.p)++e::l.drop (zO1 l e.p)
def mA(p:List UInt8):En:=⟨p,2,false,nd0⟩
def NF(w:List It)(os:List (List UInt8))(out:List En)(y:It):List En :=
 if ((aN w y.p).isSome || KS w os y.p) then out else zGT out (mA y.p)
def eG(t w:List It):List En:=t.foldl (NF w (kO t w)) (jL t (kO t w) w)
theorem zCZ(p:List UInt8):(aM p).length<=p.length:=by
 by_cases h:aM p=[]
 .rw[h];exact Nat.zero_le _
 .exact Nat.le_of_lt (sZ h)
theorem zLx(l:List En)(p:List UInt8):zO1 l p<=l.length:=(List.takeWhile_sublist _).length_le
theorem zIg(l:List En)(e:En):(zGT l e).length=l.length+1:=by
 have:=zLx l e.p;simp only[zGT,List.length_append,List.length_cons,List.length_take,List.length_drop];omega
theorem zJe(t:List It)(os:List (List UInt8))(x:It):(WK t os x).length<=1:=by
 unfold WK;split
 .exact Nat.le_refl _
 .split
  .exact Nat.le_refl _
  .exact Nat.zero_le _
theorem tZ(t:List It)(os:List (List UInt8)):∀w:List It,(jL t os w).length<=w.length
 | []=>Nat.le_refl _
 | x::w=>by
  have h1:=zJe t os x;have h2:=tZ t os w;unfold jL at h2 ⊢;rw[List.flatMap_cons,List.length_append,List.length_cons];omega
theorem zBo{t:List It}{k:Nat}{x:It}(h:w[k]?=some x):jL t os (w.take (k+1))=jL t os (w.take k)++WK t os x:=by
 unfold jL;rw[List.take_add_one,h,List.flatMap_append];simp
theorem zEe(w:List It)(os:List (List UInt8))(out:List En)(y:It):(NF w os out y).length<=out.length+1:=by
 unfold NF;split
 .omega
 .rw[zIg];omega
theorem zD{n:Nat}{q:List UInt8}(h:q≠[]):zGS w os (n+1) q=if (!(aN w q).isSome || (((aN w q).getD nd0).k != 2 || isB os q)) then true else zGS w os n (aM q):=by
 rw[zGS,if_neg (by simpa using h)]
theorem XQ: ∀n:Nat,zGS w os n []=false
 | 0=>rfl
 | n+1=>by rw[zGS];simp
end
end Go.Dm
end
