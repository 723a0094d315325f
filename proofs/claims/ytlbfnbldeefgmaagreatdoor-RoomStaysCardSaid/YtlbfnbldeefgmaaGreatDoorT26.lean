/- Part 27 of the proof of roomStays_card, set without needless blanks. No condition. -/
import Derived.Test.YtlbfnbldeefgmaaGreatDoorT25
set_option linter.all false
set_option maxRecDepth 100000
set_option maxHeartbeats 16000000
section
namespace Go.Proofs.YtlbfnbldeefgmaaGreatDoor
open Go Go.Dm Go.Proofs.Tryz
theorem zB{t:List It}(ht:t.length<=1000000)(hd:∀x∈t,x.n.d.length<=140737488355328):
  aA prog 99 [.c (.p (.sl 5 (aQ t)))] [] λr h=>r=.c (.own 0 0 t.length)/\h=[.arr 5 (aQ t) false]:=by
 refine zPl aD aL func99 rfl rfl λX0 hX=>?_;simp only[f99,go_sem]
 repeat' (first|exact⟨⟩|refine sp ?_)
 refine iQ aD aL 3 5 rfl ?_;refine aY aD aL (α:=Nat) (λk=>⟨23,[(6,.c (.p (.sl 5 (aQ t)))),(7,.c (.p (.i .i64 t.length))),(8,.c (.p (.i .i64 k))),(3,.c (.own 0 0 k))],[.arr 5 (aQ (t.take k)) false]⟩)
  (λk=>k<=t.length) (λk=>t.length-k) 0 (Nat.zero_le _) (.inl (aF (by rw[hX];rfl) rfl rfl wkS)) ?_
 intro k hk;have hmn:min k t.length=k:=Nat.min_eq_left hk;have hln:(t.take k).length=k:=by rw[List.length_take,hmn]
 by_cases hlt:k<t.length
 .have hx:t[k]?=some t[k]:=List.getElem?_eq_getElem hlt;have hg:=cZ hx;have h1:decide ((k:Int)<(t.length:Int))=true:=decide_eq_true (by omega);have w1:IntKind.i64.wrap ((k:Int)+1)=k+1:=wrap_i64 (by omega) (by omega);have hnx:t.take (k+1)=t.take k++[⟨t[k].p,t[k].n⟩]:=by rw[List.take_add_one,hx];rfl
  have hdx:=hd _ (List.getElem_mem hlt);generalize t[k]=x at hx hg hnx hdx;generalize hrow:t.take k=row at hln hnx;clear hx hrow hd
  repeat' (first|exact⟨⟩|refine sp ?_|((refine aG (id:=5) aD aL [7,8] [1,2,3,4,5,6,7,0,8,9] (by decide +kernel) ?_);(repeat' (first|(refine aO ?_)|((refine cR ?_ ?_ rfl rfl rfl ?_ ?_);(rotate_left 2);(focus ((repeat' (first|exact⟨⟩|refine sp ?_|((with_reducible refine And.intro ?_ ?_);((first|omega|decide)))));((refine And.intro ?_ ?_<;>exact rfl))));(simp only[aC]))|((refine cQ ?_ rfl rfl rfl ?_ ?_);(rotate_left 1);(focus ((repeat' (first|exact bB|refine aR ?_ ?_));(all_goals ((repeat' (first|exact⟨⟩|refine sp ?_|refine uN (qW hdx) ?_));(try (exact rfl))))));(simp only[aC])))))|refine ai ?_)
  exact kV (k+1) 0 3 (by omega) (by omega) rfl rfl (aF rfl (by rw[hnx];rfl) rfl wkS)
 .have h1:decide ((k:Int)<(t.length:Int))=false:=decide_eq_false (by omega);have hk2:k=t.length:=by omega
  subst hk2;rw[List.take_length];clear hln hmn
  repeat' (first|exact⟨⟩|refine sp ?_)
  exact⟨rfl,Nat.zero_le _,rfl,_,_,rfl,rfl,rfl⟩
def goF(p:List UInt8)(it:Bool)(x:It):Bool:=aJ p x.p || (it && x.p==p)
theorem zKd{q p:List UInt8}{it:Bool}{k m:Int}{tt:Nat}{d:List UInt8}{es:List (List PV)}(hp:p.length<=1000000000):
  aA prog 299 [.agg [.p (.s q),.p (.i .i64 k),.p (.i .i64 m),.p (.f tt),.p (.sl 1 (bJ d))],.c (.ptr 0 0),.c (.ptr 1 0)] [.box [.p (.s p)],.box [.p (.b it)],.arr 5 es false]
   λr h=>r=.c (.p (.b (aJ p q || (it && q==p))))/\h=[.box [.p (.s p)],.box [.p (.b it)],.arr 5 es false]:=by
 refine eT func299 λX0 hX=>?_;simp only[f299,go_sem]
 repeat' (first|simp only[*,go_sem,Nat.reduceLT,Nat.reduceEqDiff,↓reduceIte,Nat.reduceAdd,bH,aT]|refine uF (cU hp) ?_|refine bM (λ_=>?_) (λ_=>?_))
 all_goals simp_all
theorem zKe{q p:List UInt8}{it:Bool}{k m:Int}{tt:Nat}{d:List UInt8}{es:List (List PV)}(hp:p.length<=1000000000):
  aA prog 299 [.agg [.p (.s q),.p (.i .i64 k),.p (.i .i64 m),.p (.f tt),.p (.sl 1 (bJ d))],.c (.ptr 0 0),.c (.ptr 1 0)] [.box [.p (.s p)],.box [.p (.b it)],.arr 5 es false,.box [.p (.s q),.p (.i .i64 k),.p (.i .i64 m),.p (.f tt),.p (.sl 1 (bJ d))]]
   λr h=>r=.c (.p (.b (aJ p q || (it && q==p))))/\h=[.box [.p (.s p)],.box [.p (.b it)],.arr 5 es false,.box [.p (.s q),.p (.i .i64 k),.p (.i .i64 m),.p (.f tt),.p (.sl 1 (bJ d))]]:=by
 refine eT func299 λX0 hX=>?_;simp only[f299,go_sem]
 repeat' (first|simp only[*,go_sem,Nat.reduceLT,Nat.reduceEqDiff,↓reduceIte,Nat.reduceAdd,bH,aT]|refine uF (cU hp) ?_|refine bM (λ_=>?_) (λ_=>?_))
 all_goals simp_all
theorem zLM{t:List It}{p:List UInt8}{it:Bool}(hp:p.length<=1000000000)(ht:t.length<=1000000):
  aA prog 355 [.c (.own 2 0 t.length),.c (.clo 299 [.ptr 0 0,.ptr 1 0])] [.box [.p (.s p)],.box [.p (.b it)],.arr 5 (aQ t) false]
   λr h=>(∃i:Nat,i<=t.length/\(∀j x,t[j]?=some x->j<i->goF p it x=false)/\((∃x,t[i]?=some x/\goF p it x=true/\r=.c (.p (.i .i64 i)))∨(i=t.length/\r=.c (.p (.i .i64 (-1))))))/\h=[.box [.p (.s p)],.box [.p (.b it)],.arr 5 (aQ t) false]:=by
 refine eT func355 λX0 hX=>?_;simp only[f355,go_sem]
 repeat' (first|exact⟨⟩|refine sp ?_)
 refine aY aD aL (α:=Nat) (λk=>⟨19,[(0,.c (.own 2 0 t.length)),(1,.c (.clo 299 [.ptr 0 0,.ptr 1 0])),(7,.c (.p (.i .i64 t.length))),(8,.c (.p (.i .i64 k)))],[.box [.p (.s p)],.box [.p (.b it)],.arr 5 (aQ t) false]⟩)
  (λk=>k<=t.length/\∀j x,t[j]?=some x->j<k->goF p it x=false) (λk=>t.length-k) 0 ⟨Nat.zero_le _,λj x _ h=>by omega⟩ (.inl (aF (by rw[hX];rfl) rfl rfl wkS)) ?_
 rintro k ⟨hk,hs⟩;by_cases hlt:k<t.length
 .have hx:t[k]?=some t[k]:=List.getElem?_eq_getElem hlt;have hg:=cZ hx;have h1:decide ((k:Int)<(t.length:Int))=true:=decide_eq_true (by omega);have hli:(k:Int)<(t.length:Int):=by omega
  have w1:IntKind.i64.wrap ((k:Int)+1)=k+1:=wrap_i64 (by omega) (by omega);generalize t[k]=x at hx hg;cases hb:goF p it x
  .have hs':k+1<=t.length/\∀j y,t[j]?=some y->j<k+1->goF p it y=false:=⟨by omega,λj y hy hj=>by
    rcases Nat.lt_or_ge j k with h|h
    .exact hs j y hy h
    .have:j=k:=by omega
     subst this;rw[hx] at hy;cases hy;exact hb⟩
   have hb2:(aJ p x.p || (it && x.p==p))=false:=hb;clear hs hx hb
   repeat' (first|exact⟨⟩|refine sp ?_|refine ai ?_)
   refine aA.mono (zKd hp) ?_;rintro _ _ ⟨rfl,rfl⟩;rw[hb2]
   repeat' (first|exact⟨⟩|refine sp ?_)
   exact gZ (k+1) hs' (by omega) (aF rfl rfl rfl wkS)
  .have hb2:(aJ p x.p || (it && x.p==p))=true:=hb
   repeat' (first|exact⟨⟩|refine sp ?_|refine ai ?_)
   refine aA.mono (zKd hp) ?_;rintro _ _ ⟨rfl,rfl⟩;rw[hb2];clear hb2
   repeat' (simp only[*,go_sem,Nat.reduceLT,Nat.reduceEqDiff,↓reduceIte,Int.reduceNeg,bH,aT])
   exact⟨k,hk,hs,.inl ⟨x,hx,hb,rfl⟩⟩
 .have h1:decide ((k:Int)<(t.length:Int))=false:=decide_eq_false (by omega);have hk2:k=t.length:=by omega
  subst hk2
  repeat' (simp only[*,go_sem,Nat.reduceLT,Nat.reduceEqDiff,↓reduceIte,Nat.reduceAdd,Int.reduceNeg,bH,aT])
  refine⟨t.length,Nat.le_refl _,hs,.inr ?_⟩
  first|exact⟨rfl,rfl⟩|rfl
theorem tE(t:List It)(i:Nat)(x:It):(aQ t).set i [.s x.p,.i .i64 x.n.k,.i .i64 x.n.m,.f x.n.t,.sl 1 (bJ x.n.d)]=aQ (t.set i x):=by
 unfold aQ;rw[List.map_set];rfl
theorem XS{t:List It}{p:List UInt8}{it:Bool}{K:DV->aB->Prop}(hp:p.length<=1000000000)(ht:t.length<=1000000)
  (hk:∀es:List (List PV),es.take (t.filter λx=>!goF p it x).length=aQ (t.filter λx=>!goF p it x)->K (.c (.own 2 0 (t.filter λx=>!goF p it x).length)) [.box [.p (.s p)],.box [.p (.b it)],.arr 5 es false]):
  aA prog 298 [.c (.own 2 0 t.length),.c (.clo 299 [.ptr 0 0,.ptr 1 0])] [.box [.p (.s p)],.box [.p (.b it)],.arr 5 (aQ t) false] K:=by
 refine SB aD aL func298 rfl rfl λX0 hX=>?_;simp only[f298,go_sem]
 repeat' (first|exact⟨⟩|refine sp ?_)
 refine aA.mono (zLM hp ht) ?_;rintro _ _ ⟨⟨i0,hi0,hbef,hcase⟩,rfl⟩;rcases hcase with⟨x0,hx0,hg0,rfl⟩|⟨rfl,rfl⟩
 .have hil:i0<t.length:=(List.getElem?_eq_some_iff.1 hx0).1;have q:((i0:Int) == -1)=false:=by rw[beq_eq_false_iff_ne];omega
  have w0:IntKind.i64.wrap ((i0:Int)+1)=(i0+1:Nat):=wrap_i64 (by omega) (by omega)
  repeat' (first|exact⟨⟩|refine sp ?_)
  have hself:(t.take i0).filter (λx=>!goF p it x)=t.take i0:=List.filter_eq_self.2 λx hx=>by
   obtain⟨j,hj,rfl⟩:=List.mem_iff_getElem.1 hx;rw[List.getElem_take];have hj2:j<i0:=by simp at hj;omega
   rw[hbef j _ (List.getElem?_eq_getElem (by omega)) hj2];rfl
  have h0:(t.take (i0+1)).filter (λx=>!goF p it x)=t.take i0:=by
   rw[fG hx0,hself,hg0];simp
  refine aY aD aL (α:=Nat × Nat × List It) (λx=>⟨42,[(0,.c (.own 2 0 t.length)),(1,.c (.clo 299 [.ptr 0 0,.ptr 1 0])),(5,.c (.p (.i .i64 x.2.1))),(6,.c (.p (.i .i64 x.1)))],[.box [.p (.s p)],.box [.p (.b it)],.arr 5 (aQ x.2.2) false]⟩)
   (λx=>x.1<=t.length/\x.2.1<x.1/\x.2.2.length=t.length/\x.2.2.take x.2.1=(t.take x.1).filter (λx=>!goF p it x)/\x.2.2.drop x.1=t.drop x.1) (λx=>t.length-x.1) (i0+1,i0,t)
   ⟨by omega,by simp,rfl,by rw[h0],rfl⟩ (.inl (aF (by rw[hX];rfl) rfl rfl wkS)) ?_
  clear hself h0 hbef hx0 hg0 q w0 hil hi0;rintro⟨j,i,R⟩ ⟨hj,hij,hRl,hRt,hRd⟩;simp only at hj hij hRl hRt hRd;by_cases hlt:j<t.length
  .have hx:t[j]?=some t[j]:=List.getElem?_eq_getElem hlt;have hxR:R[j]?=some t[j]:=by
    have h3:R[j]?=t[j]? := by
     have:=congrArg (·[0]?) hRd
     simpa[List.getElem?_drop] using this
    exact h3.trans hx
   have hg:=cZ hxR;have h1:decide ((j:Int)<(t.length:Int))=true:=decide_eq_true (by omega);have hli:(j:Int)<(t.length:Int):=by omega
   have hli2:(i:Int)<(t.length:Int):=by omega
   have w1:IntKind.i64.wrap ((j:Int)+1)=(j+1:Nat):=wrap_i64 (by omega) (by omega);have w2:IntKind.i64.wrap ((i:Int)+1)=(i+1:Nat):=wrap_i64 (by omega) (by omega);have hnx:=fG (g:=λx=>!goF p it x) hx;generalize t[j]=x at hx hxR hg hnx;have hRd2:R.drop (j+1)=t.drop (j+1):=by rw[<- List.drop_drop,<- List.drop_drop,hRd]
   cases hb:goF p it x
   .rw [hb] at hnx;have hJ:j+1<=t.length/\i+1<j+1/\(R.set i x).length=t.length/\(R.set i x).take (i+1)=(t.take (j+1)).filter (λx=>!goF p it x)/\(R.set i x).drop (j+1)=t.drop (j+1):=by
     refine⟨by omega,by omega,by simp[hRl],?_,?_⟩
     .rw[hnx,List.take_add_one,List.getElem?_set_self (by omega),List.take_set,List.set_eq_of_length_le (by rw[List.length_take];omega),hRt];rfl
     .rw[List.drop_set,if_pos (by omega),hRd2]
    have hb2:(aJ p x.p || (it && x.p==p))=false:=hb;have hgi:=cZ (t:=R) (k:=i) (List.getElem?_eq_getElem (by omega));generalize (R[i]'(by omega))=y at hgi;clear hnx hRt hRd hRd2 hx hxR hb
    repeat' (first|exact⟨⟩|refine sp ?_|refine ai ?_)
    refine aA.mono (zKe hp) ?_;rintro _ _ ⟨rfl,rfl⟩;rw[hb2]
    repeat' (first|exact⟨⟩|refine sp ?_|refine ai ?_)
    exact gZ (j+1,i+1,R.set i x) hJ (by simp only;omega) (aF rfl (by simp only[<- tE];rfl) rfl wkS)
   .rw[hb] at hnx;have hJ:j+1<=t.length/\i<j+1/\R.length=t.length/\R.take i=(t.take (j+1)).filter (λx=>!goF p it x)/\R.drop (j+1)=t.drop (j+1):=⟨by omega,by omega,hRl,by rw[hnx,hRt];simp,hRd2⟩
    have hb2:(aJ p x.p || (it && x.p==p))=true:=hb;clear hnx hRt hRd hRd2 hx hxR hb
    repeat' (first|exact⟨⟩|refine sp ?_|refine ai ?_)
    refine aA.mono (zKe hp) ?_;rintro _ _ ⟨rfl,rfl⟩;rw[hb2]
    repeat' (first|exact⟨⟩|refine sp ?_)
    exact gZ (j+1,i,R) hJ (by simp only;omega) (aF rfl rfl rfl wkS)
  .have h1:decide ((j:Int)<(t.length:Int))=false:=decide_eq_false (by omega);have htt:t.take j=t:=List.take_of_length_le (by omega);rw[htt] at hRt;have hil:(t.filter λx=>!goF p it x).length=i:=by
    rw[<- hRt,List.length_take];omega
   have hli:(i:Int)<=(t.length:Int):=by omega
   have hi0:(0:Int)<=i:=by omega
   have hni:i+(t.length-i)=R.length:=by omega
   rw[hil] at hk;clear htt hRd hij
   repeat' (first|exact⟨⟩|refine sp ?_|refine ai ?_)
   all_goals first|refine hk _ ?_|refine⟨by omega,hk _ ?_⟩
   all_goals exact List.take_left' (by simp[aQ,hil])
 .have hself:t.filter (λx=>!goF p it x)=t:=List.filter_eq_self.2 λx hx=>by
   obtain⟨j,hj,rfl⟩:=List.mem_iff_getElem.1 hx;rw[hbef j _ (List.getElem?_eq_getElem hj) hj];rfl
  rw[hself] at hk;clear hself
  repeat' (first|exact⟨⟩|refine sp ?_)
  all_goals exact hk _ (List.take_of_length_le (by simp))
theorem zGH{t:List It}{p:List UInt8}{it:Bool}(hp:p.length<=1000000000)(ht:t.length<=1000000)(hd:∀x∈t,x.n.d.length<=140737488355328):
  aA prog 248 [.c (.p (.sl 5 (aQ t))),.c (.p (.s p)),.c (.p (.b it))] [] λr h=>r=.c (.p (.sl 5 (aQ (t.filter λx=>!goF p it x))))/\h=[]:=by
 have hc:=zB ht hd;refine eT func248 λX0 hX=>?_;simp only[f248,go_sem]
 repeat' (first|exact⟨⟩|refine sp ?_|refine zB6 hc rfl ?_)
 refine XS hp ht λes hes=>?_
 repeat' (first|exact⟨⟩|refine sp ?_)
 all_goals rw[hes]
theorem pR{t:List It}{p:List UInt8}(hp:p.length<=1000000000)(ht:t.length<=1000000)(hd:∀x∈t,x.n.d.length<=140737488355328):
  aA prog 187 [.c (.p (.sl 5 (aQ t))),.c (.p (.s p))] [] λr h=>r=.c (.p (.sl 5 (aQ (cA t p))))/\h=[]:=by
 have hr:cA t p=t.filter λx=>!goF p true x:=by
  rw[gE]
  congr 1
  funext x
  simp only[goF,Bool.true_and];cases aJ p x.p<;>cases x.p==p<;>rfl
 have hw:=zGH (p:=p) (it:=true) hp ht hd;rw[<- hr] at hw;refine eT func187 λX0 hX=>?_;simp only[f187,go_sem]
 repeat' (first|exact⟨⟩|refine sp ?_|refine uN (hw) ?_)
theorem JL{t:List It}{p:List UInt8}(h:OkT t):aA prog 179 [.c (.p (.sl 5 (aQ t))),.c (.p (.s p))] [] λr h=>r=.c (.p (.sl 1 (Go.Dm.encS (iI t p))))/\h=[]:=by
 have hl:=h.len;have hpl:=h.plen;have hne:=h.ne;clear h;unfold iI;refine eT func179 λX0 hX=>?_;simp only[f179,go_sem]
 repeat' (first|exact⟨⟩|refine sp ?_)
 refine iQ aD aL 5 1 rfl ?_;refine aY aD aL (α:=Nat × List (List UInt8)) (λx=>⟨34,[(1,.c (.p (.s p))),(8,.c (.p (.sl 5 (aQ t)))),(9,.c (.p (.i .i64 t.length))),(10,.c (.p (.i .i64 x.1))),(5,.c (.own 0 0 x.2.length))],[.arr 1 (Go.Dm.encS x.2) false]⟩)
  (λx=>x.1<=t.length/\x.2.length<=x.1/\(((t.take x.1).filter λx=>aM x.p==p).map λx=>xC x.p)=x.2) (λx=>t.length-x.1) (0,[]) ⟨Nat.zero_le _,Nat.le_refl _,rfl⟩ (.inl (aF (by rw[hX];rfl) rfl rfl wkS)) ?_
 rintro⟨k,out⟩ ⟨hk,hol,hout⟩;simp only at hk hol hout;by_cases hlt:k<t.length
 .have hx:t[k]?=some t[k]:=List.getElem?_eq_getElem hlt;have hg:=cZ hx;have h1:decide ((k:Int)<(t.length:Int))=true:=decide_eq_true (by omega);have w1:IntKind.i64.wrap ((k:Int)+1)=k+1:=wrap_i64 (by omega) (by omega);have hnx:=fG (g:=λx=>aM x.p==p) hx;have hxl:=hpl _ (List.getElem_mem hlt);have hxn:(t[k].p == [])=false:=by
   have:=hne _ (List.getElem_mem hlt);simpa using this
  generalize t[k]=x at hx hg hnx hxl hxn;cases hb:(aM x.p==p)
  .have hJ:k+1<=t.length/\out.length<=k+1/\(((t.take (k+1)).filter λx=>aM x.p==p).map λx=>xC x.p)=out:=⟨by omega,by omega,by rw[hnx,hb,List.map_append,hout];simp⟩
   clear hnx hx hout hpl hne
   repeat' (first|exact⟨⟩|refine sp ?_|refine uF (dV (by omega)) ?_|refine ai ?_)
   exact gZ (k+1,out) hJ (by simp only;omega) (aF rfl rfl rfl wkS)
  .have hJ:k+1<=t.length/\(out++[xC x.p]).length<=k+1/\(((t.take (k+1)).filter λx=>aM x.p==p).map λx=>xC x.p)=out++[xC x.p]:=⟨by omega,by simp;omega,by rw[hnx,hb,List.map_append,hout];simp⟩
   clear hnx hx hout hpl hne
   repeat' (first|exact⟨⟩|refine sp ?_|refine uF (dV (by omega)) ?_|refine uF (zA2 (by omega)) ?_|((with_reducible refine And.intro ?_ ?_);((first|omega|decide))))
   exact kV (k+1,out++[xC x.p]) 0 3 hJ (by simp only;omega) rfl rfl (aF rfl rfl rfl wkS)
 .have h1:decide ((k:Int)<(t.length:Int))=false:=decide_eq_false (by omega);rw[List.take_of_length_le (by omega)] at hout;unfold HJ;rw[hout];have hsl:(out.mergeSort λx y=>decide (x<=y)).length=out.length:=List.length_mergeSort ..;clear hout
  repeat' (first|simp only[*,go_sem,Nat.reduceLT,Nat.reduceEqDiff,↓reduceIte,List.set_cons_zero]|refine sort_k (id:=0) (ss:=out) (by rfl) (by omega) ?_)
  all_goals rw[List.take_of_length_le (by simp)]
def t3:List It:=[⟨[97],⟨2,493,0,[]⟩⟩,⟨[97,47,98],⟨1,0,0,[]⟩⟩,⟨[99],⟨2,493,0,[]⟩⟩]
end Go.Proofs.YtlbfnbldeefgmaaGreatDoor
end
