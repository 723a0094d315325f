/- Part 18 of the proof of roomMerges_card, set without needless blanks. No condition. -/
import Derived.Test.YtflcjdohmojepaaGreatDoorM16
set_option linter.all false
set_option maxRecDepth 100000
set_option maxHeartbeats 16000000
section
namespace Go.Dm
open Go
section
variable {a:Int}{l:List Int}{i:Nat}
def XG: List Int->Int->Int
 | [],_=>-1
 | x::l,a=>if a==x then 0 else if XG l a == -1 then -1 else XG l a+1
theorem zFq: ∀(l:List Int) (a:Int),-1<=XG l a
 | [],_=>Int.le_refl _
 | x::l,a=>by
  simp only[XG];have:=zFq l a;split
  .omega
  .split
   .omega
   .omega
theorem QR: ∀{l:List Int},(∀(k:Nat) (x:Int),l[k]?=some x->(a==x)=false)->XG l a = -1
 | [],_=>rfl
 | x::l,h=>by
  simp only[XG];rw[h 0 x rfl,QR (l:=l) λk y hy=>h (k+1) y (by simpa using hy)];rfl
theorem zFp: ∀{l:List Int} {i:Nat} {x:Int},(∀(k:Nat) (y:Int),k<i->l[k]?=some y->(a==y)=false)->l[i]?=some x->(a==x)=true->XG l a=i
 | [],_,_,_,h,_=>by simp at h
 | y::l,0,x,_,h,hx=>by
  simp only[List.getElem?_cons_zero,Option.some.injEq] at h;subst h;simp only[XG];rw[hx];rfl
 | y::l,i+1,x,hn,h,hx=>by
  simp only[List.getElem?_cons_succ] at h;have h1:=zFp (l:=l) (i:=i) (λk z hk hz=>hn (k+1) z (by omega) (by simpa using hz)) h hx;simp only[XG];rw[hn 0 y (by omega) rfl,h1];simp only[Bool.false_eq_true,if_false];rw[if_neg (by first|(simp;done)|(simp;omega))];omega
theorem zJr(l:List Int)(a:Int):0<=XG l a↔a∈l:=by
 induction l with
 | nil=>simp[XG]
 | cons x l ih =>
  have h0:=zFq l a;simp only[XG,List.mem_cons];by_cases hx:a=x
  .simp[hx]
  .rw [if_neg (by simpa using hx)];split
   .rename_i h;have:=eq_of_beq h;constructor
    .intro h;omega
    .rintro (h|h)
     .exact absurd h hx
     .have:=ih.2 h;omega
   .rename_i h;have:XG l a≠-1:=by simpa using h
    constructor
    .intro _;exact .inr (ih.1 (by omega))
    .intro _;omega
theorem zJq(l:List Int)(a:Int):decide (0<=XG l a)=l.contains a:=by
 rw[Bool.eq_iff_iff,decide_eq_true_eq,zJr,List.contains_iff_mem]
def swI(l:List Int)(i:Nat):List Int:=(List.range l.length).map λk=>if k<i∨l.length<=k+i then l.getD (l.length-1-k) 0 else l.getD k 0
theorem xC(l:List Int)(i:Nat):(swI l i).length=l.length:=by simp[swI]
theorem HZ(l:List Int)(i k:Nat)(h:k<l.length):(swI l i)[k]?=some (if k<i∨l.length<=k+i then l.getD (l.length-1-k) 0 else l.getD k 0):=by
 unfold swI;rw[List.getElem?_map,List.getElem?_range h];rfl
theorem zKC(l:List Int):swI l 0=l:=by
 apply List.ext_getElem?;intro k;by_cases h:k<l.length
 .rw[HZ l 0 k h,if_neg (by omega),List.getD_eq_getElem?_getD,List.getElem?_eq_getElem h];rfl
 .rw[List.getElem?_eq_none (by rw[xC];omega),List.getElem?_eq_none (by omega)]
theorem zNC(h:l.length<=2*i+1):swI l i=l.reverse:=by
 apply List.ext_getElem?;intro k;by_cases hk:k<l.length
 .rw [HZ l i k hk,List.getElem?_reverse hk];by_cases hc:k<i∨l.length<=k+i
  .rw[if_pos hc,List.getD_eq_getElem?_getD,List.getElem?_eq_getElem (by omega)];rfl
  .rw[if_neg hc,List.getD_eq_getElem?_getD];have:l.length-1-k=k:=by omega
   rw[this,List.getElem?_eq_getElem hk];rfl
 .rw[List.getElem?_eq_none (by rw[xC];omega),List.getElem?_eq_none (by rw[List.length_reverse];omega)]
theorem zPy(h:2*i+1<l.length):(swI l i)[i]?=some (l.getD i 0):=by
 rw[HZ l i i (by omega),if_neg (by omega)]
theorem zLD(h:2*i+1<l.length):(swI l i)[l.length-1-i]?=some (l.getD (l.length-1-i) 0):=by
 rw[HZ l i _ (by omega),if_neg (by omega)]
theorem zKB(h:2*i+1<l.length):((swI l i).set i (l.getD (l.length-1-i) 0)).set (l.length-1-i) (l.getD i 0)=swI l (i+1):=by
 apply List.ext_getElem?;intro k;by_cases hk:k<l.length
 .rw [HZ l (i+1) k hk,List.getElem?_set,List.getElem?_set,HZ l i k hk];simp only[List.length_set,xC];by_cases h1:l.length-1-i=k
  .rw[if_pos h1,if_pos (by omega),if_pos (by omega)]
   congr 2;omega
  .rw [if_neg h1];by_cases h2:i=k
   .rw[if_pos h2,if_pos (by omega),if_pos (by omega)]
    congr 2;omega
   .rw[if_neg h2]
    congr 1
    by_cases hc:k<i∨l.length<=k+i
    .rw[if_pos hc,if_pos (by omega)]
    .rw[if_neg hc,if_neg (by omega)]
 .rw[List.getElem?_eq_none (by simp[xC];omega),List.getElem?_eq_none (by rw[xC];omega)]
theorem zIW(l:List Int)(k:Nat)(x:Int):(dB l).set k [.i .i64 x]=dB (l.set k x):=by simp[dB,List.map_set]
attribute [go_sem] zIW
end
section
variable {n0:Nat}{s s':DS}
def ND(n0:Nat)(s s':DS):Prop:=∀(X0 X:Ctx) (a:Act),X0.h.length=n0->X.h=s.h->HInv X->Step X0 X->TInv X s a->∃X',X'.w=X.w/\X'.h=s'.h/\HInv X'/\Step X0 X'/\TInv X' s' a
theorem ND.trans{t u:DS}(h:ND n0 s t)(k:ND n0 t u):ND n0 s u:=λX0 X a hn hh hi hs ht=>by
 obtain⟨Y,h1,h2,h3,h4,h5⟩:=h X0 X a hn hh hi hs ht;obtain⟨Z,k1,k2,k3,k4,k5⟩:=k X0 Y a hn h2 h3 h4 h5;exact⟨Z,k1.trans h1,k2,k3,k4,k5⟩
theorem dC(h:FE n0 s s'):ND n0 s s':=λ_ _ _ hn hh hi hs ht=>h.use hn hh hi hs ht
theorem iK(h:zDj n0 s s'):ND n0 s s':=λ_ _ _ hn hh hi hs ht=>h.use hn hh hi hs ht
theorem zFL(i id off len:Nat){x:PV}(hl:look s.t i=.c (.own id off len))(hp:SK s.h (.own id off len)=some x):ND n0 s ⟨s.n,(i,.c (.p x))::s.t,sN s.h [id]⟩:=by
 intro X0 X a hn hh hi hs ht;obtain⟨X',h1,h2,h3,h4,h5,h6⟩:=jD [id] hi;refine⟨X',h1,by rw[h2,hh],h5,hs.trans hi h4,ht.size,λj=>?_,ht.defs⟩
 simp only[look];split
 .rename_i hij;subst hij;have:=ht.rel j;rw[hl] at this;simp only[bD] at this;simp only[bD,cA];exact rL hi h4 h1 this (by rw[hh];exact hp) h6
 .exact(ht.rel j).step h4
theorem uM(i k:Nat)(hl:look s.t i=.c (.p .nil)):ND n0 s ⟨s.n,(i,.c (.own s.h.length 0 0))::s.t,s.h++[.arr k [] false]⟩:=by
 intro X0 X a hn hh hi hs ht;obtain⟨h1,h2⟩:=virt hi k;refine⟨X.virt k,rfl,by simp[Ctx.virt,hh],h2,hs.trans hi h1,ht.size,λj=>?_,ht.defs⟩
 simp only[look];split
 .rename_i hij;subst hij;have:=ht.rel j;rw[hl] at this;rw[<- hh];exact tI (iQ (X:=X) (k:=k) this)
 .exact(ht.rel j).step h1
theorem BU(i id off len:Nat){k:Nat}{es:List (List PV)}(hl:look s.t i=.c (.own id off len))(hd:s.h[id]?=some (.arr k es false)):
  ND n0 s ⟨s.n,(i,.c (.own s.h.length 0 len))::s.t,s.h.set id .dead++[.arr k ((es.drop off).take len) false]⟩:=by
 intro X0 X a hn hh hi hs ht;rw[<- hh] at hd;have hsl:=ht.rel i;rw[hl] at hsl;simp only[bD,cA] at hsl;obtain⟨q1,q2,q3⟩:=hsl;obtain⟨q4,q5⟩:=q3 _ _ _ hd;have hb:=hi.blk id _ hd;cases hG:X.G id with
 | none =>
  rw[hG] at q5;simp only[eC] at hb;rcases hb with⟨_,rfl⟩|⟨g,_,_,_,hg,_⟩
  .simp only[List.length_nil] at q4;have hlen:len=0:=by omega
   subst hlen;obtain⟨v1,v2⟩:=virt hi k;have hk:=Step.kill v2 id;refine⟨(X.virt k).kill id,rfl,?_,v2.kill id,hs.trans hi (v1.trans v2 hk),ht.size,λj=>?_,ht.defs⟩
   .show (X.h++[_]).set id .dead=_
    rw[List.set_append_left _ _ q1,hh];simp
   .simp only[look];split
    .rename_i hij;subst hij;rw[<- hh];refine bD.step hk (tI (x:=.own X.h.length 0 0) ?_);exact iQ (X:=X) (k:=k) (v:=a.tmps.getD j undef) (by simp only[cA,cZ];exact q5)
    .exact((ht.rel j).step v1).step hk
  .rw[hG] at hg;cases hg
 | some g =>
  rw[hG] at q5;obtain⟨cap,o,arr,el,fz,r1,r2,r3,r4,r5,r6⟩:=q5;obtain⟨k1,k2⟩:=YJ (off:=off) (len:=len) hi hd hG q4;refine⟨X.rebase id (g.1,g.2+off*k) k ((es.drop off).take len),rfl,by simp only[Ctx.rebase,hh],k2,hs.trans hi k1,ht.size,λj=>?_,ht.defs⟩
  simp only[look];split
  .rename_i hij;subst hij;rw[<- hh];refine tI (x:=.own X.h.length 0 len) ⟨by simp[Ctx.rebase],q2,λk' es' ro' he=>?_⟩
   simp only[Ctx.rebase] at he ⊢;rw[List.getElem?_append_right (by simp)] at he;simp only[List.length_set,Nat.sub_self,List.getElem?_cons_zero,Option.some.injEq,DB.arr.injEq] at he;obtain⟨rfl,rfl,rfl⟩:=he;refine⟨by simp;omega,?_⟩
   rw[if_pos trivial];refine⟨cap,o,arr,el,fz,r1,r2,r3.imp (λh=>h) λh=>by rw[h];simp,r4,r5,?_⟩
   have:(off+cap)*k=off*k+cap*k:=Nat.add_mul _ _ _;simp only[Nat.zero_add];omega
  .exact(ht.rel j).step k1
section
variable {P:Program}{T:Tab}{X0:Ctx}{s:DS}{Q:Exit->DS->Prop}
variable {c:Code}{n0:Nat}{s:DS}
theorem zKG{s':DS}(hw:ND X0.h.length s s')(h:SWP P X0 c s' Q):SWP P X0 c s Q:=by
 intro gd X a hh hi hs ht;obtain⟨X',h1,h2,h3,h4,h5⟩:=hw X0 X a rfl hh hi hs ht;rw[<- h1];exact h gd X' a h2 h3 h4 h5
def HB{α:Type}(n0:Nat)(I:α->DS)(J:α->Prop)(μ:α->Nat)(x:α)(Q:Exit->DS->Prop):Exit->DS->Prop:=λe s'=>match e with
 | .normal=>∃y,J y/\μ y < μ x/\ND n0 s' (I y)
 | e=>Q e s'
theorem zFQ{α:Type}(I:α->DS)(J:α->Prop)(μ:α->Nat)(x0:α)(hJ:J x0)(hw:ND X0.h.length s (I x0))
 (h:∀x,J x->SWP P X0 c (I x) (HB X0.h.length I J μ x Q)):SWP P X0 (.loop c) s Q:=by
 intro gd X a hh hi hs ht;obtain⟨X',h1,h2,h3,h4,h5⟩:=hw X0 X a rfl hh hi hs ht;rw[<- h1];refine wp_loop_ghost (λn a w=>∃x X,μ x=n/\J x/\X.w=w/\X.h=(I x).h/\HInv X/\Step X0 X/\TInv X (I x) a) (μ x0) ⟨x0,X',rfl,hJ,rfl,h2,h3,h4,h5⟩ ?_;rintro n a' w' ⟨x,Y,rfl,k1,rfl,k2,k3,k4,k5⟩;refine wp_mono (h x k1 gd Y a' k2 k3 k4 k5) λe a w hp=>?_;obtain⟨s',Z,p1,rfl,p3,p4,p5,p6⟩:=hp;cases e<;>simp only[Exit.then,HB] at p1 ⊢
 case normal =>
  obtain⟨y,q1,q2,q3⟩:=p1;obtain⟨Z',r1,r2,r3,r4,r5⟩:=q3 X0 Z a rfl p3 p4 p5 p6;exact⟨μ y,q2,y,Z',rfl,q1,r1,r2,r3,r4,r5⟩
 all_goals exact⟨s',Z,p1,rfl,p3,p4,p5,p6⟩
theorem eX(hT:bM P T)(hm:P.follows .mixedOrders=true){α:Type}(I:α->DS)(J:α->Prop)(μ:α->Nat)(x0:α)(hJ:J x0)(hw:ND X0.h.length s (I x0))
 (h:∀x,J x->vc P T X0 c (I x) (HB X0.h.length I J μ x Q)):SWP P X0 (.loop c) s Q :=
 zFQ I J μ x0 hJ hw λx hx=>dP hT hm c (h x hx)
theorem zQT{α:Type}{I:α->DS}{J:α->Prop}{μ:α->Nat}{x:α}{id:Nat}:HB n0 I J μ x Q (.exit id) s=Q (.exit id) s:=nr rfl
theorem zQU{α:Type}{I:α->DS}{J:α->Prop}{μ:α->Nat}{x:α}:HB n0 I J μ x Q .ret s=Q .ret s:=nr rfl
theorem wK{α:Type}{I:α->DS}{J:α->Prop}{μ:α->Nat}{x:α}(y:α)(h1:J y)(h2:μ y < μ x)(h3:ND n0 s (I y)):HB n0 I J μ x Q .normal s:=⟨y,h1,h2,h3⟩
end
attribute [go_sem] zQT zQU
end
theorem aA.rowR{P:Program}{f:FuncId}{args:List DV}{k:Nat}{es:List (List PV)}(hc:aA P f args [] λd h'=>(d=.c (.p .nil)/\es=[])∨∃j,d=.c (.own j 0 es.length)/\h'[j]?=some (.arr k es false)):
  aA P f args [] λd h'=>d=.c (.own 0 0 es.length)/\h'=[.arr k es false]:=by
 intro X vals hh hi gd hr;have key:∀v w',Ret X (λd h'=>(d=.c (.p .nil)/\es=[])∨∃j,d=.c (.own j 0 es.length)/\h'[j]?=some (.arr k es false)) v w'->Ret X (λd h'=>d=.c (.own 0 0 es.length)/\h'=[.arr k es false]) v w':=by
  rintro v w' ⟨d,Z,k1,k2,k3,k4,k5⟩;rcases k5 with⟨rfl,rfl⟩|⟨j,rfl,hj⟩
  .have hc1:HInv (Z.cut 0):=k2.cut (by simp);have hc2:Step X (Z.cut 0):=k3.cut (by rw[hh];exact Nat.zero_le _);obtain⟨v1,v2⟩:=virt hc1 k;have hz:(Z.cut 0).h=[]:=by simp[Ctx.cut]
   refine⟨.c (.own 0 0 0),(Z.cut 0).virt k,k1,v2,hc2.trans hc1 v1,?_,rfl,by simp[Ctx.virt,hz]⟩
   have hn:cA (Z.cut 0) (.p .nil) v:=k4;have:=iQ (X:=Z.cut 0) (k:=k) hn;rw[hz] at this;exact this
  .have h4:EF [j] 0 Z.h 0 [.arr k es false]:=⟨⟨by simp[rn,DB.rn,hj],rfl⟩,True.intro⟩
   obtain⟨g1,g2,g3⟩:=LR (X0:=X) (h:=[.arr k es false]) (tb:=[j]) (by rw[hh];rfl) k2 k3 (Nat.zero_le _) rfl rfl h4 rfl;refine⟨.c (.own 0 0 es.length),Dm.perm Z [j] [.arr k es false],k1,g1,g2,?_,rfl,rfl⟩;exact bD.pull g3 (c:=.c (.own 0 0 es.length)) rfl (by simpa[DV.rn,CV.rn,rn] using k4)
 rcases hc X vals hh hi gd hr with⟨h1,h2⟩|⟨v,w',h1,h2⟩
 .exact .inl ⟨h1,h2.mono λe w' ⟨v,he,hv⟩=>⟨v,he,key v w' hv⟩⟩
 .exact .inr ⟨v,w',h1,key v w' h2⟩
end Go.Dm
end
section
namespace Go.Proofs.YtflcjdohmojepaaGreatDoor
open Go Go.Dm Go.Proofs Go.Proofs.Tryz
theorem zJv{l:List Int}{a:Int}(hl:l.length<=1000000):aA prog 156 [.c (.p (.sl 1 (dB l))),.c (.p (.i .i64 a))] []
  λr h=>r=.c (.p (.i .i64 (XG l a)))/\h=[]:=by
 refine eT func156 λX0 hX=>?_;simp only[f156,go_sem]
 repeat' (first|exact⟨⟩|refine sp ?_)
 refine aP aF aN (α:=Nat) (λk=>⟨19,[(0,.c (.p (.sl 1 (dB l)))),(1,.c (.p (.i .i64 a))),(7,.c (.p (.i .i64 l.length))),(8,.c (.p (.i .i64 k)))],[]⟩)
  (λk=>k<=l.length/\∀(j:Nat) (y:Int),j<k->l[j]?=some y->(a==y)=false) (λk=>l.length-k) 0 ⟨Nat.zero_le _,λj y h=>by omega⟩ (.inl (aB (by rw[hX];rfl) rfl rfl (by simp[aQ,aX,aI,aL,aJ,]))) ?_
 rintro k ⟨hk,hs⟩;by_cases hlt:k<l.length
 .have hx:l[k]?=some l[k]:=List.getElem?_eq_getElem hlt;have hg:=sK hx;have h1:decide ((k:Int)<(l.length:Int))=true:=decide_eq_true (by omega);have w1:IntKind.i64.wrap ((k:Int)+1)=k+1:=wrap_i64 (by omega) (by omega);generalize l[k]=x at hx hg;cases hb:(a==x)
  .have hJ:PLift (k+1<=l.length/\∀(j:Nat) (y:Int),j<k+1->l[j]?=some y->(a==y)=false):=⟨by omega,λj y hj hy=>by
    rcases Nat.lt_or_ge j k with h|h
    .exact hs j y h hy
    .have:j=k:=by omega
     subst this;rw[hx] at hy;cases hy;exact hb⟩
   clear hs hx
   repeat' (first|exact⟨⟩|refine sp ?_|((with_reducible refine And.intro ?_ ?_);omega))
   exact dE (k+1) hJ.down (by omega) (aB rfl rfl rfl (by simp[aQ,aX,aI,aL,aJ,]))
  .have hJ:=PLift.up (zFp hs hx hb);clear hs hx
   repeat' (first|exact⟨⟩|refine sp ?_|((with_reducible refine And.intro ?_ ?_);omega))
   all_goals rw[hJ.down]
 .have h1:decide ((k:Int)<(l.length:Int))=false:=decide_eq_false (by omega);have hJ:=PLift.up (QR (l:=l) (a:=a) λj y hj=>hs j y (by have:=(List.getElem?_eq_some_iff.1 hj).1;omega) hj);clear hs
  repeat' (first|exact⟨⟩|refine sp ?_)
  all_goals rw[hJ.down]
theorem WJ{l:List Int}{a:Int}(hl:l.length<=1000000):aA prog 108 [.c (.p (.sl 1 (dB l))),.c (.p (.i .i64 a))] []
  λr h=>r=.c (.p (.b (l.contains a)))/\h=[]:=by
 rw[<- zJq];refine eT func108 λX0 hX=>?_;simp only[f108,go_sem]
 repeat' (first|exact⟨⟩|refine sp ?_|refine uF (zJv hl) ?_)
theorem zAb{l:List Ly}(hl:l.length<=1000000):aA prog 56 [.c (.p (.sl 4 (dA l)))] [] λr h=>r=.c (.own 0 0 (dA l).length)/\h=[.arr 4 (dA l) false]:=by
 refine aA.rowR ?_;have h0:=gH l;cases l with
 | nil =>
  refine VP aF aN func56 rfl rfl λX0 hX=>?_;simp only[f56,go_sem]
  repeat' (first|exact⟨⟩|refine sp ?_)
  all_goals first|exact .inl ⟨rfl,rfl⟩|exact .inr ⟨_,rfl,rfl⟩|exact⟨.inl trivial,rfl,.inr ⟨1,rfl,rfl⟩⟩
 | cons x l =>
  have e:dA (x::l)=x.cs::dA l:=rfl;have h2:=zAl (x::l);have h1:(dA (x::l)).length<=1000000:=by rw[h0];exact hl
  clear h0;rw[e] at h1 h2 ⊢;have h3:x.cs.length=4:=rfl;refine VP aF aN func56 rfl rfl λX0 hX=>?_;simp only[f56,go_sem]
  repeat' (first|exact⟨⟩|refine sp ?_|((with_reducible refine And.intro ?_ ?_);decide))
  all_goals first|omega|exact .inr ⟨_,rfl,rfl⟩|(simp_all;done)|(simp_all;omega)
theorem zDH{l:List Nm}(hl:l.length<=1000000):aA prog 55 [.c (.p (.sl 2 (bS l)))] [] λr h=>r=.c (.own 0 0 (bS l).length)/\h=[.arr 2 (bS l) false]:=by
 refine aA.rowR ?_;have h0:=gC l;cases l with
 | nil =>
  refine VP aF aN func55 rfl rfl λX0 hX=>?_;simp only[f55,go_sem]
  repeat' (first|exact⟨⟩|refine sp ?_)
  all_goals first|exact .inl ⟨rfl,rfl⟩|exact .inr ⟨_,rfl,rfl⟩|exact⟨.inl trivial,rfl,.inr ⟨1,rfl,rfl⟩⟩
 | cons x l =>
  have e:bS (x::l)=[.s x.n,.i .i64 x.l]::bS l:=rfl;have h2:=PX (x::l);have h1:(bS (x::l)).length<=1000000:=by rw[h0];exact hl
  clear h0;rw[e] at h1 h2 ⊢;refine VP aF aN func55 rfl rfl λX0 hX=>?_;simp only[f55,go_sem]
  repeat' (first|exact⟨⟩|refine sp ?_|((with_reducible refine And.intro ?_ ?_);decide))
  all_goals first|omega|exact .inr ⟨_,rfl,rfl⟩|(simp_all;done)|(simp_all;omega)
theorem HJ{l:List Int}(hl:l.length<=1000000):aA prog 143 [.c (.own 0 0 l.length)] [.arr 1 (dB l) false] λr h=>r=.tup []/\h=[.arr 1 (dB l.reverse) false]:=by
 have w0:IntKind.i64.wrap ((l.length:Int)-1)=l.length-1:=wrap_i64 (by omega) (by omega);refine eT func143 λX0 hX=>?_;simp only[Tryz.f143,go_sem]
 repeat' (first|exact⟨⟩|refine sp ?_)
 refine aP aF aN (α:=Nat) (λk=>⟨28,[(0,.c (.own 0 0 l.length)),(2,.c (.p (.i .i64 k))),(3,.c (.p (.i .i64 ((l.length:Int)-1-k))))],[.arr 1 (dB (swI l k)) false]⟩)
  (λk=>2*k<=l.length+1) (λk=>l.length+1-2*k) 0 (by omega) (.inl (aB (by rw[hX];rfl) (by rw[zKC];rfl) rfl (by simp[aQ,aX,aI,aL,aJ]))) ?_
 intro k hk;have hsl:=xC l k;by_cases hlt:2*k+1<l.length
 .have h1:decide ((k:Int)<(l.length:Int)-1-k)=true:=decide_eq_true (by omega);obtain⟨j,hj⟩:∃j:Nat,(l.length:Int)-1-k=j/\j=l.length-1-k:=⟨l.length-1-k,by omega,rfl⟩
  have g1:=sK (zPy (l:=l) (i:=k) hlt);have g2:=sK (zLD (l:=l) (i:=k) hlt);have hst:=zKB hlt;rw[<- hj.2] at g2 hst;have w1:IntKind.i64.wrap ((k:Int)+1)=k+1:=wrap_i64 (by omega) (by omega);have w2:IntKind.i64.wrap ((j:Int)-1)=j-1:=wrap_i64 (by omega) (by omega);have b1:k<(dB (swI l k)).length:=by rw[eZ,hsl];omega
  have b2:j<(dB (swI l k)).length:=by rw[eZ,hsl];omega
  have b3:(k:Int)<(l.length:Int):=by omega
  have b4:(j:Int)<(l.length:Int):=by omega
  have b5:(0:Int)<=(k:Int):=by omega
  have b6:(0:Int)<=(j:Int):=by omega
  have b7:k<l.length:=by omega
  have b8:j<l.length:=by omega
  rw [hj.1] at h1 ⊢;have hJ:=PLift.up hj;clear hj;generalize l.getD k 0=u at g1 hst;have g3:(dB ((swI l k).set k (l.getD j 0))).getD j []=[.i .i64 (l.getD j 0)]:=by
   refine sK ?_;have hkj:k≠j:=by have:=hJ.down;omega
   rw[List.getElem?_set_ne hkj,hJ.down.2];exact zLD (l:=l) (i:=k) hlt
  have b9:j<((swI l k).set k (l.getD j 0)).length:=by rw[List.length_set,hsl];exact b8
  generalize l.getD j 0=v at g2 g3 b9 hst
  repeat' (first|exact⟨⟩|refine sp ?_|((refine aG (id:=3) aF aN [13,15] [0,1,4,5,6,7,8,9,10,11,12,13,2,3,14,15] (by decide +kernel) ?_);(repeat' (first|(refine aT ?_)|((refine cK ?_ ?_ rfl rfl rfl ?_ ?_);(rotate_left 2);(focus ((repeat' (first|exact⟨⟩|refine sp ?_));((refine And.intro ?_ ?_<;>exact rfl))));(simp only[bH]))|((refine cJ ?_ rfl rfl rfl ?_ ?_);(rotate_left 1);(focus ((repeat' (first|exact bA|refine aW ?_ ?_));(all_goals ((repeat' (first|exact⟨⟩|refine sp ?_));(try (exact rfl))))));(simp only[aC]))))))
  exact dE (k+1) (by omega) (by omega) (aB rfl rfl rfl (by have:=hJ.down;simp[aQ,aX,aI,aL,aJ];omega))
 .have h1:decide ((k:Int)<(l.length:Int)-1-k)=false:=decide_eq_false (by omega);have he:=PLift.up (zNC (l:=l) (i:=k) (by omega))
  repeat' (first|exact⟨⟩|refine sp ?_)
  all_goals rw[he.down]
end Go.Proofs.YtflcjdohmojepaaGreatDoor
end
section
namespace Go.Proofs.YtflcjdohmojepaaGreatDoor
open Go Go.Dm Go.Proofs.Tryz
theorem CD(a b:Nat):((a:Int)==(b:Int))=(a==b):=by
 rw[Bool.eq_iff_iff];simp only[beq_iff_eq];omega
theorem zFw(x:Nat):aA prog 254 [.c (.p (.f x))] [] λd h=>d=.c (.p (.b (isNaN x)))/\h=[]:=by
 refine eT func254 λX0 hX=>?_;simp only[f254,go_sem]
 repeat' (first|exact⟨⟩|refine sp ?_)
 all_goals ((simp_all[isNaN];done))
theorem AB(x:Nat):aA prog 134 [.c (.p (.f x))] [] λd h=>d=.c (.p (.i .u64 x))/\h=[]:=by
 intro X vals hh hi _ hr
 match vals,hr with
 | [v],⟨h1,_⟩ =>
  simp only[bD,cA,cZ] at h1;subst h1;refine .inr ⟨.int .u64 x,X.w,?_,_,X,rfl,hi,Step.refl hi,tI (x:=.p (.i .u64 x)) rfl,rfl,hh⟩;kernel_rfl
theorem jY(z:Int)(hz:0<=z):aA prog 85 [.c (.p (.i .u64 z))] [] λd h=>d=.c (.p (.f z.toNat))/\h=[]:=by
 intro X vals hh hi _ hr
 match vals,hr with
 | [v],⟨h1,_⟩ =>
  simp only[bD,cA,cZ] at h1;obtain⟨n,rfl⟩:=Int.eq_ofNat_of_zero_le hz;subst h1;refine .inr ⟨.float .f64 n,X.w,?_,_,X,rfl,hi,Step.refl hi,tI (x:=.p (.f n)) rfl,rfl,hh⟩;kernel_rfl
theorem zG3(x:Nat):aA prog 285 [.c (.p (.f x))] [] λd h=>d=.c (.p (.b (zF5 x)))/\h=[]:=by
 refine eT func285 λX0 hX=>?_;simp only[f285,go_sem]
 repeat' (first|refine sp ?_|refine uF (AB _) ?_)
 all_goals ((simp_all[zF5];done))
theorem zNq(x:Nat):aA prog 229 [.c (.p (.f x))] [] λd h=>d=.tup [.c (.p (.i .i64 (lU x).1)),.c (.p (.i .i64 (lU x).2))]/\h=[]:=by
 refine eT func229 λX0 hX=>?_;simp only[f229,go_sem]
 repeat' (first|refine sp ?_|refine uF (zFw _) ?_|refine uF (zG3 _) ?_|with_reducible refine aH (λ_=>?_) (λ_=>?_)|with_reducible refine aY (λ_=>?_) (λ_=>?_))
 all_goals ((simp_all[lU];done))
theorem zDe(x:Nat):aA prog 133 [.c (.p (.f x))] [] λd h=>d=.c (.p (.i .u64 (bJ x)))/\h=[]:=by
 refine eT func133 λX0 hX=>?_;simp only[f133,go_sem]
 repeat' (first|refine sp ?_|refine uF (AB _) ?_|with_reducible refine aH (λ_=>?_) (λ_=>?_))
 all_goals ((simp_all[bJ,isNaN,JB];done))
theorem VY(x:Nat):aA prog 81 [.c (.p (.f x))] [] λd h=>d=.c (.p (.f (bJ x)))/\h=[]:=by
 refine eT func81 λX0 hX=>?_;simp only[f81,go_sem]
 repeat' (first|exact⟨⟩|refine sp ?_|refine uF (zDe _) ?_|refine uF (jY _ (by omega)) ?_)
 all_goals (first|(with_reducible rfl)|(simp_all[];done)|(simp_all[];omega)|(simp_all[];(repeat' split)<;>omega))
theorem sC(x:Nat):aA prog 32 [.c (.p (.f x))] [] λd h=>d=.c (.p (.f (bJ x)))/\h=[]:=by
 refine eT func32 λX0 hX=>?_;simp only[f32,go_sem]
 repeat' (first|exact⟨⟩|refine sp ?_|refine uF (VY _) ?_)
 all_goals (first|(with_reducible rfl)|(simp_all[];done)|(simp_all[];omega)|(simp_all[];(repeat' split)<;>omega))
theorem wM(x y:Nat):aA prog 97 [.c (.p (.f x)),.c (.p (.f y))] [] λd h=>d=.c (.p (.b (bJ x==bJ y)))/\h=[]:=by
 refine eT func97 λX0 hX=>?_;simp only[f97,go_sem]
 repeat' (first|refine sp ?_|refine uF (zDe _) ?_)
 all_goals ((simp_all[CD];done))
theorem zPq(x:Nat):aA prog 209 [.c (.p (.f x))] [] λd h=>d=.c (.p (.i .u64 (LW x)))/\h=[]:=by
 refine eT func209 λX0 hX=>?_;simp only[f209,go_sem]
 repeat' (first|simp only[*,go_sem,Nat.reduceLT,Nat.reduceEqDiff,↓reduceIte,Int.reduceLE,Int.reduceNeg,Int.reduceToNat,]|((with_reducible refine mH (zDe _) ?_ ?_ ?_);exact rfl;exact rfl)|with_reducible refine aH (λ_=>?_) (λ_=>?_))
 all_goals ((simp_all[LW];done))
theorem LY(x y:Nat):aA prog 148 [.c (.p (.f x)),.c (.p (.f y))] [] λd h=>d=.c (.p (.i .i64 (zL2 x y)))/\h=[]:=by
 refine eT func148 λX0 hX=>?_;simp only[f148,go_sem]
 repeat' (first|simp only[*,go_sem,Nat.reduceLT,Nat.reduceEqDiff,↓reduceIte,Int.reduceNeg,]|((with_reducible refine mH (zPq _) ?_ ?_ ?_);exact rfl;exact rfl)|with_reducible refine aH (λ_=>?_) (λ_=>?_))
 all_goals (first|(simp_all[zL2];done)|(simp_all[zL2];omega))
theorem zBZ(x:Int):aA prog 262 [.c (.p (.i .i64 x))] [] λd h=>d=.c (.p (.b false))/\h=[]:=by
 refine eT Tryz.func262 λX0 hX=>?_;simp only[f262,go_sem]
 repeat' (first|exact⟨⟩|refine sp ?_)
 all_goals (first|(with_reducible rfl)|(simp_all[];done)|(simp_all[];omega)|(simp_all[];(repeat' split)<;>omega))
theorem zBY(x:Nat):aA prog 286 [.c (.p (.f x))] [] λd h=>d=.c (.p (.b (isNaN x)))/\h=[]:=by
 refine eT func286 λX0 hX=>?_;simp only[f286,go_sem]
 repeat' (first|exact⟨⟩|refine sp ?_)
 all_goals ((simp_all[isNaN];done))
theorem zAc(a b:Int):aA prog 218 [.c (.p (.i .i64 a)),.c (.p (.i .i64 b))] [] λd h=>d=.c (.p (.i .i64 (zDb a b)))/\h=[]:=by
 refine eT func218 λX0 hX=>?_;simp only[Tryz.f218,go_sem]
 repeat' (first|refine sp ?_|refine uF (zBZ _) ?_|with_reducible refine aH (λ_=>?_) (λ_=>?_))
 all_goals (first|(simp_all[zDb];done)|(simp_all[zDb];omega))
theorem zIb(a b:Nat):aA prog 230 [.c (.p (.f a)),.c (.p (.f b))] [] λd h=>d=.c (.p (.i .i64 (zOp a b)))/\h=[]:=by
 refine eT func230 λX0 hX=>?_;simp only[f230,go_sem]
 repeat' (first|refine sp ?_|refine uF (zBY _) ?_|with_reducible refine aH (λ_=>?_) (λ_=>?_))
 all_goals ((simp_all[zOp];done))
theorem zBs:aA prog 82 [.c (.p (.f 0)),.c (.p (.f 13830554455654793216))] [] λd h=>d=.c (.p (.f 9223372036854775808))/\h=[]:=by
 have e:Dm.bits .or .u64 (Dm.bits .andNot .u64 0 9223372036854775808) (Dm.bits .and .u64 13830554455654793216 9223372036854775808)=9223372036854775808:=by kernel_rfl
 refine eT func82 λX0 hX=>?_;simp only[f82,go_sem]
 repeat' (first|exact⟨⟩|refine sp ?_|refine uF (AB _) ?_|refine uF (jY _ (by omega)) ?_)
 all_goals (first|(with_reducible rfl)|(simp_all[];done)|(simp_all[];omega)|(simp_all[];(repeat' split)<;>omega))
theorem zQA(n:Int):aA prog 83 [.c (.p (.i .i64 n))] [] λd h=>d=.c (.p (.f (if 0<=n then 9218868437227405312 else 18442240474082181120)))/\h=[]:=by
 refine eT func83 λX0 hX=>?_;simp only[f83,go_sem]
 repeat' (first|refine sp ?_|refine uF (jY _ (by omega)) ?_|with_reducible refine aH (λ_=>?_) (λ_=>?_))
 all_goals ((simp_all[];done))
theorem zQj:aA prog 84 [] [] λd h=>d=.c (.p (.f JB))/\h=[]:=by
 refine eT func84 λX0 hX=>?_;simp only[f84,go_sem]
 repeat' (first|refine sp ?_|refine uF (jY _ (by omega)) ?_)
 all_goals ((simp_all[JB];done))
theorem cX(x:Nat):aA prog 203 [.c (.p (.f x))] [] λd h=>d=.c (.p (.f (bJ x)))/\h=[]:=by
 refine eT func203 λX0 hX=>?_;simp only[f203,go_sem]
 repeat' (first|refine sp ?_|refine uF (zFw _) ?_|refine uF (jY _ (by omega)) ?_|with_reducible refine aH (λ_=>?_) (λ_=>?_))
 all_goals ((simp_all[bJ,JB];done))
theorem zRf(a b:Int):aA prog 216 [.c (.p (.sl 1 [[.i .i64 a],[.i .i64 b]]))] [] λd h=>d=.c (.p (.i .i64 (if a==0 then b else a)))/\h=[]:=by
 refine eT func216 λX0 hX=>?_;simp only[f216,go_sem]
 repeat' (first|exact⟨⟩|refine sp ?_)
 refine dM aF aN 3 ?_
 repeat' (first|refine sp ?_|with_reducible refine aH (λ_=>?_) (λ_=>?_))
 all_goals ((simp_all[];done))
theorem xP(a b:Nat):aA prog 165 [.c (.p (.f a)),.c (.p (.f b))] [] λd h=>d=.c (.p (.i .i64 (mW a b)))/\h=[]:=by
 refine eT func165 λX0 hX=>?_;simp only[f165,go_sem]
 repeat' (first|refine sp ?_|refine uF (zNq _) ?_|refine uF (zAc _ _) ?_|refine uF (zIb _ _) ?_|refine uF (zRf _ _) ?_|with_reducible refine aH (λ_=>?_) (λ_=>?_)|((with_reducible apply aA.frz);exact rfl;exact rfl)|((with_reducible refine And.intro ?_ ?_);decide))
 all_goals (first|(simp_all[mW];done)|(simp_all[mW];omega))
theorem RW(a b:Nat):aA prog 117 [.c (.p (.f a)),.c (.p (.f b))] [] λd h=>d=.c (.p (.b (mW a b==0)))/\h=[]:=by
 refine eT func117 λX0 hX=>?_;simp only[f117,go_sem]
 repeat' (first|exact⟨⟩|refine sp ?_|refine uF (xP _ _) ?_)
 all_goals (first|(with_reducible rfl)|(simp_all[];done)|(simp_all[];omega)|(simp_all[];(repeat' split)<;>omega))
theorem zCd(a b:Nat):aA prog 259 [.c (.p (.f a)),.c (.p (.f b))] [] λd h=>d=.c (.p (.f (rZ a b)))/\h=[]:=by
 refine eT func259 λX0 hX=>?_;simp only[f259,go_sem]
 repeat' (first|refine sp ?_|refine uF (xP _ _) ?_|refine uF (cX _) ?_|with_reducible refine aH (λ_=>?_) (λ_=>?_))
 all_goals (first|(simp_all[rZ];done)|(simp_all[rZ];omega))
theorem YL(a b:Nat):aA prog 104 [.c (.p (.f a)),.c (.p (.f b))] [] λd h=>d=.c (.p (.f (GI a b)))/\h=[]:=by
 refine eT func104 λX0 hX=>?_;simp only[f104,go_sem]
 repeat' (first|simp only[*,go_sem,Nat.reduceLT,Nat.reduceEqDiff,↓reduceIte,]|((with_reducible refine mH (LY _ _) ?_ ?_ ?_);exact rfl;exact rfl)|((with_reducible refine mH (VY _) ?_ ?_ ?_);exact rfl;exact rfl)|with_reducible refine aH (λ_=>?_) (λ_=>?_))
 all_goals (first|(simp_all[GI];done)|(simp_all[GI];omega))
theorem iS{a b:List UInt8}:aA prog 118 [.c (.p (.sl 1 (bU a))),.c (.p (.sl 1 (bU b)))] [] λd h=>d=.c (.p (.b (a==b)))/\h=[]:=by
 refine eT func118 λX0 hX=>?_;simp only[f118,go_sem]
 repeat' (first|exact⟨⟩|refine sp ?_)
 all_goals (first|(with_reducible rfl)|(simp_all[];done)|(simp_all[];omega)|(simp_all[];(repeat' split)<;>omega))
theorem AG{a:List UInt8}(ha:a.length<=140737488355328):aA prog 119 [.c (.p (.sl 1 (bU a)))] [] λd h=>d=.c (.p (.sl 1 (bU a)))/\h=[]:=by
 refine aV ?_;refine eT func119 λX0 hX=>?_;simp only[f119,go_sem];cases a with
 | nil =>
  repeat' (first|exact⟨⟩|refine sp ?_)
  simp[List.range_succ]
 | cons x l =>
  repeat' (first|refine sp ?_|((with_reducible refine And.intro ?_ ?_);decide))
  simp only[List.length_cons] at ha;exact⟨by omega,by omega⟩
theorem rG{k m k' m':Int}{t t':Nat}{d d':List UInt8}:aA prog 68 [.agg (ndc k m t d),.agg (ndc k' m' t' d')] [] λr h=>r=.c (.p (.b (mT ⟨k,m,t,d⟩ ⟨k',m',t',d'⟩)))/\h=[]:=by
 refine eT func68 λX0 hX=>?_;simp only[f68,go_sem]
 repeat' (first|refine sp ?_|refine uF (RW _ _) ?_|refine uF (iS) ?_|with_reducible refine aY (λ_=>?_) (λ_=>?_))
 all_goals ((simp_all[mT];done))
theorem nC{k m k' m':Int}{t t':Nat}{d d':List UInt8}:aA prog 42 [.agg (ndc k m t d),.agg (ndc k' m' t' d')] [] λr h=>r=.c (.p (.b (cH ⟨k,m,t,d⟩ ⟨k',m',t',d'⟩)))/\h=[]:=by
 refine eT func42 λX0 hX=>?_;simp only[f42,go_sem]
 repeat' (first|refine sp ?_|refine uF (wM _ _) ?_|with_reducible refine aY (λ_=>?_) (λ_=>?_))
 all_goals ((simp_all[cH];done))
theorem rW{k m:Int}{t:Nat}{d:List UInt8}(hd:d.length<=140737488355328):aA prog 69 [.agg (ndc k m t d)] [] λr h=>r=.agg (ndc k m t d)/\h=[]:=by
 refine eT func69 λX0 hX=>?_;simp only[f69,go_sem]
 repeat' (first|exact⟨⟩|refine sp ?_|refine uN (AG hd) ?_)
 all_goals (first|(with_reducible rfl)|(simp_all[];done)|(simp_all[];omega)|(simp_all[];(repeat' split)<;>omega))
theorem zK5{k m k' m':Int}{t t':Nat}{d d':List UInt8}:aA prog 103 [.agg (ndc k m t d),.agg (ndc k' m' t' d')] [] λr h=>r=.c (.p (.b (iW ⟨k,m,t,d⟩ ⟨k',m',t',d'⟩)))/\h=[]:=by
 refine eT func103 λX0 hX=>?_;simp only[f103,go_sem]
 repeat' (first|simp only[*,go_sem,Nat.reduceLT,Nat.reduceEqDiff,↓reduceIte,]|with_reducible refine aY (λ_=>?_) (λ_=>?_))
 all_goals ((simp_all[iW];done))
theorem zPW{k m k' m':Int}{t t':Nat}{d d':List UInt8}:aA prog 258 [.agg (ndc k m t d),.agg (ndc k' m' t' d')] [] λr h=>r=.c (.p (.b (iW ⟨k,m,t,d⟩ ⟨k',m',t',d'⟩)))/\h=[]:=by
 refine eT func258 λX0 hX=>?_;simp only[f258,go_sem]
 repeat' (first|refine sp ?_|refine uF (iS) ?_|with_reducible refine aY (λ_=>?_) (λ_=>?_))
 all_goals ((simp_all[iW];done))
end Go.Proofs.YtflcjdohmojepaaGreatDoor
end
