/- Part 29 of the proof of roomMerges_card, set without needless blanks. No condition. -/
import Derived.Test.YtflcjdohmojepaaGreatDoorM27
set_option linter.all false
set_option maxRecDepth 100000
set_option maxHeartbeats 16000000
section
namespace Go.Proofs.YtflcjdohmojepaaGreatDoor
open Go Go.Dm Go.Proofs Go.Proofs.Tryz
def goC(p:List UInt8)(it:Bool)(x:It):Bool:=x.p==p || (it && aO p x.p)
theorem KG{J:List (List PV)}{t:List It}{k:Nat}{x:It}(h:t[k]?=some x):(aS t++J).getD k []=[.s x.p,.i .i64 x.n.k,.i .i64 x.n.m,.f x.n.t,.sl 1 (bU x.n.d)]:=by
 have hk:=(List.getElem?_eq_some_iff.1 h).1;have:=bZ h;rw[List.getD_eq_getElem?_getD] at this ⊢;rw[List.getElem?_append_left (by rw[cN];exact hk)];exact this
theorem PY{J:List (List PV)}{t:List It}{i:Nat}(x:It)(h:i<t.length):(aS t++J).set i [.s x.p,.i .i64 x.n.k,.i .i64 x.n.m,.f x.n.t,.sl 1 (bU x.n.d)]=aS (t.set i x)++J:=by
 rw[List.set_append_left _ _ (by rw[cN];exact h),uE]
theorem zQ1{R f:List It}{i:Nat}{es:List (List PV)}{A:List (List PV)}(h:R.take i=f)(hf:f.length=i)(hi:i<=R.length):((aS R++A).take i++es).take i=aS f:=by
 rw[List.take_left' (by rw[List.length_take,List.length_append,cN];omega),List.take_append_of_le_length (by rw[cN];exact hi),BE,h]
theorem zLt{q p:List UInt8}{it eo:Bool}{ek nk nm:Int}{nt:Nat}{nd:List UInt8}{k m:Int}{tt:Nat}{d:List UInt8}{es:List (List PV)}(hp:p.length<=1000000000):
  aA prog 298 [.agg [.p (.s q),.p (.i .i64 k),.p (.i .i64 m),.p (.f tt),.p (.sl 1 (bU d))],.c (.ptr 2 0),.c (.ptr 3 0)] [.arr 5 es false,.box [.p (.s p),.p (.i .i64 ek),.p (.b eo),.p (.i .i64 nk),.p (.i .i64 nm),.p (.f nt),.p (.sl 1 (bU nd))],.box [.p (.s p),.p (.i .i64 ek),.p (.b eo),.p (.i .i64 nk),.p (.i .i64 nm),.p (.f nt),.p (.sl 1 (bU nd))],.box [.p (.b it)]]
   λr h=>r=.c (.p (.b (q==p || (it && aO p q))))/\h=[.arr 5 es false,.box [.p (.s p),.p (.i .i64 ek),.p (.b eo),.p (.i .i64 nk),.p (.i .i64 nm),.p (.f nt),.p (.sl 1 (bU nd))],.box [.p (.s p),.p (.i .i64 ek),.p (.b eo),.p (.i .i64 nk),.p (.i .i64 nm),.p (.f nt),.p (.sl 1 (bU nd))],.box [.p (.b it)]]:=by
 refine eT func298 λX0 hX=>?_;simp only[f298,go_sem]
 repeat' (first|simp only[*,go_sem,Nat.reduceLT,Nat.reduceEqDiff,↓reduceIte,Nat.reduceAdd,bP,aJ]|refine uF (cQ hp) ?_|refine aY (λ_=>?_) (λ_=>?_))
 all_goals simp_all
theorem zLu{q p:List UInt8}{it eo:Bool}{ek nk nm:Int}{nt:Nat}{nd:List UInt8}{k m:Int}{tt:Nat}{d:List UInt8}{es:List (List PV)}(hp:p.length<=1000000000):
  aA prog 298 [.agg [.p (.s q),.p (.i .i64 k),.p (.i .i64 m),.p (.f tt),.p (.sl 1 (bU d))],.c (.ptr 2 0),.c (.ptr 3 0)] [.arr 5 es false,.box [.p (.s p),.p (.i .i64 ek),.p (.b eo),.p (.i .i64 nk),.p (.i .i64 nm),.p (.f nt),.p (.sl 1 (bU nd))],.box [.p (.s p),.p (.i .i64 ek),.p (.b eo),.p (.i .i64 nk),.p (.i .i64 nm),.p (.f nt),.p (.sl 1 (bU nd))],.box [.p (.b it)],.box [.p (.s q),.p (.i .i64 k),.p (.i .i64 m),.p (.f tt),.p (.sl 1 (bU d))]]
   λr h=>r=.c (.p (.b (q==p || (it && aO p q))))/\h=[.arr 5 es false,.box [.p (.s p),.p (.i .i64 ek),.p (.b eo),.p (.i .i64 nk),.p (.i .i64 nm),.p (.f nt),.p (.sl 1 (bU nd))],.box [.p (.s p),.p (.i .i64 ek),.p (.b eo),.p (.i .i64 nk),.p (.i .i64 nm),.p (.f nt),.p (.sl 1 (bU nd))],.box [.p (.b it)],.box [.p (.s q),.p (.i .i64 k),.p (.i .i64 m),.p (.f tt),.p (.sl 1 (bU d))]]:=by
 refine eT func298 λX0 hX=>?_;simp only[f298,go_sem]
 repeat' (first|simp only[*,go_sem,Nat.reduceLT,Nat.reduceEqDiff,↓reduceIte,Nat.reduceAdd,bP,aJ]|refine uF (cQ hp) ?_|refine aY (λ_=>?_) (λ_=>?_))
 all_goals simp_all
theorem zGm{J:List (List PV)}{t:List It}{p:List UInt8}{it eo:Bool}{ek nk nm:Int}{nt:Nat}{nd:List UInt8}(hp:p.length<=1000000000)(ht:t.length<=1000000):
  aA prog 227 [.c (.own 0 0 t.length),.c (.clo 298 [.ptr 2 0,.ptr 3 0])] [.arr 5 (aS t++J) false,.box [.p (.s p),.p (.i .i64 ek),.p (.b eo),.p (.i .i64 nk),.p (.i .i64 nm),.p (.f nt),.p (.sl 1 (bU nd))],.box [.p (.s p),.p (.i .i64 ek),.p (.b eo),.p (.i .i64 nk),.p (.i .i64 nm),.p (.f nt),.p (.sl 1 (bU nd))],.box [.p (.b it)]]
   λr h=>(∃i:Nat,i<=t.length/\(∀j x,t[j]?=some x->j<i->goC p it x=false)/\((∃x,t[i]?=some x/\goC p it x=true/\r=.c (.p (.i .i64 i)))∨(i=t.length/\r=.c (.p (.i .i64 (-1))))))/\h=[.arr 5 (aS t++J) false,.box [.p (.s p),.p (.i .i64 ek),.p (.b eo),.p (.i .i64 nk),.p (.i .i64 nm),.p (.f nt),.p (.sl 1 (bU nd))],.box [.p (.s p),.p (.i .i64 ek),.p (.b eo),.p (.i .i64 nk),.p (.i .i64 nm),.p (.f nt),.p (.sl 1 (bU nd))],.box [.p (.b it)]]:=by
 refine eT func227 λX0 hX=>?_;simp only[f227,go_sem]
 repeat' (first|exact⟨⟩|refine sp ?_)
 refine aP aF aN (α:=Nat) (λk=>⟨19,[(0,.c (.own 0 0 t.length)),(1,.c (.clo 298 [.ptr 2 0,.ptr 3 0])),(7,.c (.p (.i .i64 t.length))),(8,.c (.p (.i .i64 k)))],[.arr 5 (aS t++J) false,.box [.p (.s p),.p (.i .i64 ek),.p (.b eo),.p (.i .i64 nk),.p (.i .i64 nm),.p (.f nt),.p (.sl 1 (bU nd))],.box [.p (.s p),.p (.i .i64 ek),.p (.b eo),.p (.i .i64 nk),.p (.i .i64 nm),.p (.f nt),.p (.sl 1 (bU nd))],.box [.p (.b it)]]⟩)
  (λk=>k<=t.length/\∀j x,t[j]?=some x->j<k->goC p it x=false) (λk=>t.length-k) 0 ⟨Nat.zero_le _,λj x _ h=>by omega⟩ (.inl (aB (by rw[hX];rfl) rfl rfl wkS)) ?_
 rintro k ⟨hk,hs⟩;by_cases hlt:k<t.length
 .have hx:t[k]?=some t[k]:=List.getElem?_eq_getElem hlt;have hg:=KG (J:=J) hx;have h1:decide ((k:Int)<(t.length:Int))=true:=decide_eq_true (by omega);have hli:(k:Int)<(t.length:Int):=by omega
  have w1:IntKind.i64.wrap ((k:Int)+1)=k+1:=wrap_i64 (by omega) (by omega);generalize t[k]=x at hx hg;cases hb:goC p it x
  .have hs':k+1<=t.length/\∀j y,t[j]?=some y->j<k+1->goC p it y=false:=⟨by omega,λj y hy hj=>by
    rcases Nat.lt_or_ge j k with h|h
    .exact hs j y hy h
    .have:j=k:=by omega
     subst this;rw[hx] at hy;cases hy;exact hb⟩
   have hb2:(x.p==p || (it && aO p x.p))=false:=hb;clear hs hx hb
   repeat' (first|exact⟨⟩|refine sp ?_|refine ai ?_)
   refine aA.mono (zLt hp) ?_;rintro _ _ ⟨rfl,rfl⟩;rw[hb2]
   repeat' (first|exact⟨⟩|refine sp ?_)
   exact dE (k+1) hs' (by omega) (aB rfl rfl rfl wkS)
  .have hb2:(x.p==p || (it && aO p x.p))=true:=hb
   repeat' (first|exact⟨⟩|refine sp ?_|refine ai ?_)
   refine aA.mono (zLt hp) ?_;rintro _ _ ⟨rfl,rfl⟩;rw[hb2];clear hb2
   repeat' (simp only[*,go_sem,Nat.reduceLT,Nat.reduceEqDiff,↓reduceIte,Int.reduceNeg,bP,aJ])
   exact⟨k,hk,hs,.inl ⟨x,hx,hb,rfl⟩⟩
 .have h1:decide ((k:Int)<(t.length:Int))=false:=decide_eq_false (by omega);have hk2:k=t.length:=by omega
  subst hk2
  repeat' (simp only[*,go_sem,Nat.reduceLT,Nat.reduceEqDiff,↓reduceIte,Nat.reduceAdd,Int.reduceNeg,bP,aJ])
  refine⟨t.length,Nat.le_refl _,hs,.inr ?_⟩
  first|exact⟨rfl,rfl⟩|rfl
theorem GU{J:List (List PV)}{t:List It}{p:List UInt8}{it eo:Bool}{ek nk nm:Int}{nt:Nat}{nd:List UInt8}{K:DV->aD->Prop}(hp:p.length<=1000000000)(ht:t.length<=1000000)
  (hk:∀es:List (List PV),es.take (t.filter λx=>!goC p it x).length=aS (t.filter λx=>!goC p it x)->K (.c (.own 0 0 (t.filter λx=>!goC p it x).length)) [.arr 5 es false,.box [.p (.s p),.p (.i .i64 ek),.p (.b eo),.p (.i .i64 nk),.p (.i .i64 nm),.p (.f nt),.p (.sl 1 (bU nd))],.box [.p (.s p),.p (.i .i64 ek),.p (.b eo),.p (.i .i64 nk),.p (.i .i64 nm),.p (.f nt),.p (.sl 1 (bU nd))],.box [.p (.b it)]]):
  aA prog 294 [.c (.own 0 0 t.length),.c (.clo 298 [.ptr 2 0,.ptr 3 0])] [.arr 5 (aS t++J) false,.box [.p (.s p),.p (.i .i64 ek),.p (.b eo),.p (.i .i64 nk),.p (.i .i64 nm),.p (.f nt),.p (.sl 1 (bU nd))],.box [.p (.s p),.p (.i .i64 ek),.p (.b eo),.p (.i .i64 nk),.p (.i .i64 nm),.p (.f nt),.p (.sl 1 (bU nd))],.box [.p (.b it)]] K:=by
 refine VP aF aN func294 rfl rfl λX0 hX=>?_;simp only[f294,go_sem]
 repeat' (first|exact⟨⟩|refine sp ?_)
 refine aA.mono (zGm hp ht) ?_;rintro _ _ ⟨⟨i0,hi0,hbef,hcase⟩,rfl⟩;rcases hcase with⟨x0,hx0,hg0,rfl⟩|⟨rfl,rfl⟩
 .have hil:i0<t.length:=(List.getElem?_eq_some_iff.1 hx0).1;have q:((i0:Int) == -1)=false:=by rw[beq_eq_false_iff_ne];omega
  have w0:IntKind.i64.wrap ((i0:Int)+1)=(i0+1:Nat):=wrap_i64 (by omega) (by omega)
  repeat' (first|exact⟨⟩|refine sp ?_)
  have hself:(t.take i0).filter (λx=>!goC p it x)=t.take i0:=List.filter_eq_self.2 λx hx=>by
   obtain⟨j,hj,rfl⟩:=List.mem_iff_getElem.1 hx;rw[List.getElem_take];have hj2:j<i0:=by simp at hj;omega
   rw[hbef j _ (List.getElem?_eq_getElem (by omega)) hj2];rfl
  have h0:(t.take (i0+1)).filter (λx=>!goC p it x)=t.take i0:=by
   rw[fJ hx0,hself,hg0];simp
  refine aP aF aN (α:=Nat × Nat × List It) (λx=>⟨42,[(0,.c (.own 0 0 t.length)),(1,.c (.clo 298 [.ptr 2 0,.ptr 3 0])),(5,.c (.p (.i .i64 x.2.1))),(6,.c (.p (.i .i64 x.1)))],[.arr 5 (aS x.2.2++J) false,.box [.p (.s p),.p (.i .i64 ek),.p (.b eo),.p (.i .i64 nk),.p (.i .i64 nm),.p (.f nt),.p (.sl 1 (bU nd))],.box [.p (.s p),.p (.i .i64 ek),.p (.b eo),.p (.i .i64 nk),.p (.i .i64 nm),.p (.f nt),.p (.sl 1 (bU nd))],.box [.p (.b it)]]⟩)
   (λx=>x.1<=t.length/\x.2.1<x.1/\x.2.2.length=t.length/\x.2.2.take x.2.1=(t.take x.1).filter (λx=>!goC p it x)/\x.2.2.drop x.1=t.drop x.1) (λx=>t.length-x.1) (i0+1,i0,t)
   ⟨by omega,by simp,rfl,by rw[h0],rfl⟩ (.inl (aB (by rw[hX];rfl) rfl rfl wkS)) ?_
  clear hself h0 hbef hx0 hg0 q w0 hil hi0;rintro⟨j,i,R⟩ ⟨hj,hij,hRl,hRt,hRd⟩;simp only at hj hij hRl hRt hRd;by_cases hlt:j<t.length
  .have hx:t[j]?=some t[j]:=List.getElem?_eq_getElem hlt;have hxR:R[j]?=some t[j]:=by
    have h3:R[j]?=t[j]? := by
     have:=congrArg (·[0]?) hRd
     simpa[List.getElem?_drop] using this
    exact h3.trans hx
   have hg:=KG (J:=J) hxR;have h1:decide ((j:Int)<(t.length:Int))=true:=decide_eq_true (by omega);have hli:(j:Int)<(t.length:Int):=by omega
   have hli2:(i:Int)<(t.length:Int):=by omega
   have w1:IntKind.i64.wrap ((j:Int)+1)=(j+1:Nat):=wrap_i64 (by omega) (by omega);have w2:IntKind.i64.wrap ((i:Int)+1)=(i+1:Nat):=wrap_i64 (by omega) (by omega);have hnx:=fJ (g:=λx=>!goC p it x) hx;generalize t[j]=x at hx hxR hg hnx;have hRd2:R.drop (j+1)=t.drop (j+1):=by rw[<- List.drop_drop,<- List.drop_drop,hRd]
   cases hb:goC p it x
   .rw [hb] at hnx;have hJ:j+1<=t.length/\i+1<j+1/\(R.set i x).length=t.length/\(R.set i x).take (i+1)=(t.take (j+1)).filter (λx=>!goC p it x)/\(R.set i x).drop (j+1)=t.drop (j+1):=by
     refine⟨by omega,by omega,by simp[hRl],?_,?_⟩
     .rw[hnx,List.take_add_one,List.getElem?_set_self (by omega),List.take_set,List.set_eq_of_length_le (by rw[List.length_take];omega),hRt];rfl
     .rw[List.drop_set,if_pos (by omega),hRd2]
    have hb2:(x.p==p || (it && aO p x.p))=false:=hb;have hgi:=KG (J:=J) (t:=R) (k:=i) (List.getElem?_eq_getElem (by omega));have hsj:=PY (J:=J) (t:=R) (i:=i) x (by omega);have hlj:(aS R++J).length=R.length+J.length:=by rw[List.length_append,cN]
    generalize (R[i]'(by omega))=y at hgi;clear hnx hRt hRd hRd2 hx hxR hb
    repeat' (first|exact⟨⟩|refine sp ?_|refine ai ?_)
    refine aA.mono (zLu hp) ?_;rintro _ _ ⟨rfl,rfl⟩;rw[hb2]
    repeat' (first|exact⟨⟩|refine sp ?_|refine ai ?_)
    exact dE (j+1,i+1,R.set i x) hJ (by simp only;omega) (aB rfl (by rw[<- PY (J:=J) (t:=R) (i:=i) x (by omega)];rfl) rfl wkS)
   .rw[hb] at hnx;have hJ:j+1<=t.length/\i<j+1/\R.length=t.length/\R.take i=(t.take (j+1)).filter (λx=>!goC p it x)/\R.drop (j+1)=t.drop (j+1):=⟨by omega,by omega,hRl,by rw[hnx,hRt];simp,hRd2⟩
    have hb2:(x.p==p || (it && aO p x.p))=true:=hb;clear hnx hRt hRd hRd2 hx hxR hb
    repeat' (first|exact⟨⟩|refine sp ?_|refine ai ?_)
    refine aA.mono (zLu hp) ?_;rintro _ _ ⟨rfl,rfl⟩;rw[hb2]
    repeat' (first|exact⟨⟩|refine sp ?_)
    exact dE (j+1,i,R) hJ (by simp only;omega) (aB rfl rfl rfl wkS)
  .have h1:decide ((j:Int)<(t.length:Int))=false:=decide_eq_false (by omega);have htt:t.take j=t:=List.take_of_length_le (by omega);rw[htt] at hRt;have hil:(t.filter λx=>!goC p it x).length=i:=by
    rw[<- hRt,List.length_take];omega
   have hli:(i:Int)<=(t.length:Int):=by omega
   have hi0:(0:Int)<=i:=by omega
   have hni:i+(t.length-i)=R.length:=by omega
   rw[hil] at hk;clear htt hRd hij
   repeat' (first|exact⟨⟩|refine sp ?_|refine ai ?_)
   all_goals first|refine hk _ ?_|refine⟨by omega,hk _ ?_⟩
   all_goals exact zQ1 hRt hil (by omega)
 .have hself:t.filter (λx=>!goC p it x)=t:=List.filter_eq_self.2 λx hx=>by
   obtain⟨j,hj,rfl⟩:=List.mem_iff_getElem.1 hx;rw[hbef j _ (List.getElem?_eq_getElem hj) hj];rfl
  rw[hself] at hk;clear hself
  repeat' (first|exact⟨⟩|refine sp ?_)
  all_goals exact hk _ (by rw[List.take_left' (by rw[cN])])
abbrev ecv(p:List UInt8)(k:Int)(o:Bool)(nk nm:Int)(nt:Nat)(nd:List UInt8):List CV:=[.p (.s p),.p (.i .i64 k),.p (.b o),.p (.i .i64 nk),.p (.i .i64 nm),.p (.f nt),.p (.sl 1 (bU nd))]
theorem ZB{p:List UInt8}{k nk nm:Int}{o:Bool}{nt:Nat}{nd:List UInt8}:aA prog 297 [.agg (ecv p k o nk nm nt nd)] [] λr h=>r=.c (.p (.b (jF ⟨p,k,o,⟨nk,nm,nt,nd⟩⟩)))/\h=[]:=by
 refine eT func297 λX0 hX=>?_;simp only[f297,go_sem]
 repeat' (first|exact⟨⟩|refine sp ?_|refine aY (λ_=>?_) (λ_=>?_))
 all_goals simp_all[jF]
theorem zN7{k m:Int}{t:Nat}{d:List UInt8}:aA prog 321 [.agg (ndc k m t d)] [] λr h=>r=.c (.p (.b (lI ⟨k,m,t,d⟩)))/\h=[]:=by
 refine eT func321 λX0 hX=>?_;simp only[f321,go_sem]
 repeat' (first|exact⟨⟩|refine sp ?_|refine uF (AB _) ?_|refine aY (λ_=>?_) (λ_=>?_))
 all_goals first|(simp_all[lI];done)|(simp_all[lI];rw[Bool.eq_iff_iff];simp)
theorem zPa{p:List UInt8}{k nk nm:Int}{o:Bool}{nt:Nat}{nd:List UInt8}(hp:p.length<=1000000000)(ht:nt<18446744073709551616):
  aA prog 296 [.agg (ecv p k o nk nm nt nd)] [] λr h=>r=.c (.p (.b (zLs ⟨p,k,o,⟨nk,nm,nt,nd⟩⟩)))/\h=[]:=by
 have hip:=fT hp;have hz:=zN7 (k:=nk) (m:=nm) (t:=nt) (d:=nd);have hn:=dZ (k:=nk) (m:=nm) (d:=nd) ht;unfold zLs;simp only;generalize bW p=ip at *;generalize lI ⟨nk,nm,nt,nd⟩=z at *;generalize aR ⟨nk,nm,nt,nd⟩=rn at *;cases ip<;>cases z<;>cases rn<;>cases o
 all_goals
  refine eT func296 λX0 hX=>?_;simp only[f296,go_sem]
 all_goals repeat' (first|exact⟨⟩|refine sq ?_|refine uF (hip) ?_|refine uF (hz) ?_|refine uF (hn) ?_|refine aH (λ_=>?_) (λ_=>?_)|refine aY (λ_=>?_) (λ_=>?_))
 all_goals simp_all
theorem QY{l:List En}(h:OkE l):aA prog 248 [.c (.p (.sl 7 (gG l)))] [] λr h=>r=.c (.p (.b true))/\h=[]:=by
 have hll:=h.len;refine eT func248 λX0 hX=>?_;simp only[f248,go_sem]
 repeat' (first|exact⟨⟩|refine sp ?_)
 refine aP aF aN (α:=Nat) (λk=>⟨51,[(0,.c (.p (.sl 7 (gG l)))),(7,.c (.p (.sl 7 (gG l)))),(8,.c (.p (.i .i64 l.length))),(9,.c (.p (.i .i64 k)))],[]⟩)
  (λk=>k<=l.length) (λk=>l.length-k) 0 (Nat.zero_le _) (.inl (aB (by rw[hX];rfl) rfl rfl wkS)) ?_
 intro k hk;by_cases hlt:k<l.length
 .have hx:l[k]?=some l[k]:=List.getElem?_eq_getElem hlt;have hg:=sJ hx;have h1:decide ((k:Int)<(l.length:Int))=true:=decide_eq_true (by omega);have w1:IntKind.i64.wrap ((k:Int)+1)=k+1:=wrap_i64 (by omega) (by omega);have hk0:(0:Int)<=k:=by omega
  have hkl:(k:Int)<=l.length:=by omega
  have prev:k=0∨∃m:Nat,∃y:En,decide ((0:Int)<k)=true/\IntKind.i64.wrap ((k:Int)-1)=(m:Int)/\m<l.length/\l[m]?=some y/\(cD l[k].p y.p || l[k].p==y.p)=false:=by
   by_cases h0:0<k
   .have hmk:k-1<l.length:=by omega
    have h3:=List.pairwise_iff_getElem.1 h.srt (k-1) k hmk hlt (by omega);refine .inr ⟨k-1,l[k-1],decide_eq_true (by omega),?_,hmk,List.getElem?_eq_getElem hmk,?_⟩
    .rw[wrap_i64 (by omega) (by omega)];omega
    .rw[eS h3];cases he:(l[k].p==l[k-1].p)
     .rfl
     .rw[eq_of_beq he,cF] at h3;cases h3
   .exact .inl (by omega)
  have hmx:=h.may _ (List.getElem_mem hlt);have p1:=h.plen _ (List.getElem_mem hlt);have p2:=h.tlen _ (List.getElem_mem hlt);have hop:∀j y,l[j]?=some y->j<k->(jF y && aO y.p l[k].p)=false:=λj y hy hj=>by
   obtain⟨hj2,rfl⟩:=List.getElem?_eq_some_iff.1 hy;exact List.pairwise_iff_getElem.1 h.open_ j k hj2 hlt hj
  have hpl:=h.plen;generalize l[k]=x at hx hg prev hmx p1 p2 hop;have hc:=zPa (p:=x.p) (k:=x.k) (o:=x.o) (nk:=x.n.k) (nm:=x.n.m) (nt:=x.n.t) (nd:=x.n.d) (by omega) p2;rw[show (⟨x.p,x.k,x.o,⟨x.n.k,x.n.m,x.n.t,x.n.d⟩⟩:En)=x from rfl,hmx] at hc
  have htk:(l.take k).length=k:=by rw[List.length_take];omega
  clear hmx h hx;rcases prev with h0|⟨m,y,b1,b2,b3,b4,b5⟩
  .have b1:decide ((0:Int)<(k:Int))=false:=decide_eq_false (by omega);clear h0
   repeat' (first|exact⟨⟩|refine sp ?_|((refine aG (id:=4) aF aN [] [0,1,2,3,4,5,6,7,8,9,10,11,12,13,14,15,16,17] (by decide +kernel) ?_);(repeat' (first|(refine aT ?_)|((refine bL ?_ rfl rfl ?_ ?_);(rotate_left 1);(focus ((repeat' (first|exact⟨⟩|refine sq ?_|refine uF (hc) ?_));exact rfl));(simp only[aC])))))|refine ai ?_)
   refine pS (α:=Nat) (λj=>⟨51,[(0,.c (.p (.sl 7 (gG l)))),(7,.c (.p (.sl 7 (gG l)))),(8,.c (.p (.i .i64 l.length))),(9,.c (.p (.i .i64 k))),(4,.c (.ptr 0 0)),(34,.c (.p (.sl 7 (gG (l.take k))))),(35,.c (.p (.i .i64 k))),(36,.c (.p (.i .i64 j)))],[.box (ecv x.p x.k x.o x.n.k x.n.m x.n.t x.n.d)]⟩)
    (λj=>j<=k) (λj=>k-j) 0 (Nat.zero_le _) (.inl (aB (by rw[hX];rfl) rfl rfl wkS)) ?_
   intro j hj;by_cases hjk:j<k
   .have hjl:j<l.length:=by omega
    have hz:(l.take k)[j]?=some l[j]:=by rw[List.getElem?_take,if_pos hjk];exact List.getElem?_eq_getElem hjl
    have hgz:=sJ hz;have hoz:=hop j l[j] (List.getElem?_eq_getElem hjl) hjk;have hzp:=hpl _ (List.getElem_mem hjl);have h2:decide ((j:Int)<(k:Int))=true:=decide_eq_true (by omega);have w2:IntKind.i64.wrap ((j:Int)+1)=j+1:=wrap_i64 (by omega) (by omega);have hjk2:(j:Int)<(k:Int):=by omega
    have hjm:(j:Int)<(min k l.length:Nat):=by omega
    have hj0:(0:Int)<=j:=by omega
    generalize l[j]=z at hz hgz hoz hzp;have hsh:=ZB (p:=z.p) (k:=z.k) (o:=z.o) (nk:=z.n.k) (nm:=z.n.m) (nt:=z.n.t) (nd:=z.n.d);rw[show (⟨z.p,z.k,z.o,⟨z.n.k,z.n.m,z.n.t,z.n.d⟩⟩:En)=z from rfl] at hsh
    clear hop hpl hz;refine fE aF aN ?_;cases hsz:jF z
    .rw[hsz] at hsh
     repeat' (first|exact⟨⟩|refine sp ?_|refine uF (hsh) ?_)
     exact dE (j+1) (by omega) (by omega) (aB rfl rfl rfl wkS)
    .rw[hsz] at hsh hoz;rw[Bool.true_and] at hoz
     repeat' (first|exact⟨⟩|refine sp ?_|refine uF (hsh) ?_|refine uF (cQ (p:=z.p) (by omega)) ?_)
     exact dE (j+1) (by omega) (by omega) (aB rfl rfl rfl wkS)
   .have h2:decide ((j:Int)<(k:Int))=false:=decide_eq_false (by omega);clear hop hpl;refine fE aF aN ?_
    repeat' (first|exact⟨⟩|refine sp ?_)
    exact dE (k+1) (by omega) (by omega) (aB rfl rfl rfl wkS)
  .have hgy:=sJ b4;have b6:(m:Int)<l.length:=by omega
   repeat' (first|exact⟨⟩|refine sp ?_|((refine aG (id:=4) aF aN [] [0,1,2,3,4,5,6,7,8,9,10,11,12,13,14,15,16,17] (by decide +kernel) ?_);(repeat' (first|(refine aT ?_)|((refine bL ?_ rfl rfl ?_ ?_);(rotate_left 1);(focus ((repeat' (first|exact⟨⟩|refine sq ?_|refine uF (hc) ?_|refine ai ?_));exact rfl));(simp only[aC])))))|refine ai ?_)
   refine pS (α:=Nat) (λj=>⟨51,[(0,.c (.p (.sl 7 (gG l)))),(7,.c (.p (.sl 7 (gG l)))),(8,.c (.p (.i .i64 l.length))),(9,.c (.p (.i .i64 k))),(4,.c (.ptr 0 0)),(34,.c (.p (.sl 7 (gG (l.take k))))),(35,.c (.p (.i .i64 k))),(36,.c (.p (.i .i64 j)))],[.box (ecv x.p x.k x.o x.n.k x.n.m x.n.t x.n.d)]⟩)
    (λj=>j<=k) (λj=>k-j) 0 (Nat.zero_le _) (.inl (aB (by rw[hX];rfl) rfl rfl wkS)) ?_
   intro j hj;by_cases hjk:j<k
   .have hjl:j<l.length:=by omega
    have hz:(l.take k)[j]?=some l[j]:=by rw[List.getElem?_take,if_pos hjk];exact List.getElem?_eq_getElem hjl
    have hgz:=sJ hz;have hoz:=hop j l[j] (List.getElem?_eq_getElem hjl) hjk;have hzp:=hpl _ (List.getElem_mem hjl);have h2:decide ((j:Int)<(k:Int))=true:=decide_eq_true (by omega);have w2:IntKind.i64.wrap ((j:Int)+1)=j+1:=wrap_i64 (by omega) (by omega);have hjk2:(j:Int)<(k:Int):=by omega
    have hjm:(j:Int)<(min k l.length:Nat):=by omega
    have hj0:(0:Int)<=j:=by omega
    generalize l[j]=z at hz hgz hoz hzp;have hsh:=ZB (p:=z.p) (k:=z.k) (o:=z.o) (nk:=z.n.k) (nm:=z.n.m) (nt:=z.n.t) (nd:=z.n.d);rw[show (⟨z.p,z.k,z.o,⟨z.n.k,z.n.m,z.n.t,z.n.d⟩⟩:En)=z from rfl] at hsh
    clear hop hpl hz;refine fE aF aN ?_;cases hsz:jF z
    .rw[hsz] at hsh
     repeat' (first|exact⟨⟩|refine sp ?_|refine uF (hsh) ?_)
     exact dE (j+1) (by omega) (by omega) (aB rfl rfl rfl wkS)
    .rw[hsz] at hsh hoz;rw[Bool.true_and] at hoz
     repeat' (first|exact⟨⟩|refine sp ?_|refine uF (hsh) ?_|refine uF (cQ (p:=z.p) (by omega)) ?_)
     exact dE (j+1) (by omega) (by omega) (aB rfl rfl rfl wkS)
   .have h2:decide ((j:Int)<(k:Int))=false:=decide_eq_false (by omega);clear hop hpl;refine fE aF aN ?_
    repeat' (first|exact⟨⟩|refine sp ?_)
    exact dE (k+1) (by omega) (by omega) (aB rfl rfl rfl wkS)
 .have h1:decide ((k:Int)<(l.length:Int))=false:=decide_eq_false (by omega)
  repeat' (first|exact⟨⟩|refine sp ?_)
end Go.Proofs.YtflcjdohmojepaaGreatDoor
end
section
namespace Go.Proofs.YtflcjdohmojepaaGreatDoor
open Go Go.Dm Go.Proofs.Tryz
theorem QZ(x y:List UInt8):(cD x y || x==y) = !cD y x:=by
 cases h:cD y x
 .cases h2:cD x y
  .rw[eI h2 h];simp
  .rfl
 .rw[eS h,Bool.false_or];cases he:(x==y)
  .rfl
  .rw[eq_of_beq he,cF] at h;cases h
theorem xZ{t:List It}(hl:t.length<=1000000)(hp:∀x∈t,x.p.length<=1000000000)(ht:∀x∈t,x.n.t<18446744073709551616):
  aA prog 93 [.c (.p (.sl 5 (aS t)))] [] λr h=>r=.c (.p (.b (kT t)))/\h=[]:=by
 refine eT func93 λX0 hX=>?_;simp only[f93,go_sem]
 repeat' (first|exact⟨⟩|refine sp ?_)
 refine aP aF aN (α:=Nat) (λk=>⟨56,[(0,.c (.p (.sl 5 (aS t)))),(5,.c (.p (.sl 5 (aS t)))),(6,.c (.p (.i .i64 t.length))),(7,.c (.p (.i .i64 k)))],[]⟩)
  (λk=>k<=t.length/\Srt (t.take k)/\fM (t.take k) (t.drop k)=fM [] t) (λk=>t.length-k) 0 ⟨Nat.zero_le _,by simp,rfl⟩ (.inl (aB (by rw[hX];rfl) rfl rfl wkS)) ?_
 rintro k ⟨hk,hst,hgo⟩;by_cases hlt:k<t.length
 .have hx:t[k]?=some t[k]:=List.getElem?_eq_getElem hlt;have hg:=bZ hx;have h1:decide ((k:Int)<(t.length:Int))=true:=decide_eq_true (by omega);have hki:(k:Int)<=(t.length:Int):=by omega
  have hk0:(0:Int)<=k:=by omega
  have w1:IntKind.i64.wrap ((k:Int)+1)=k+1:=wrap_i64 (by omega) (by omega);have prev:(decide ((0:Int)<k)=false/\rV (t.take k) t[k].p=true)∨∃m:Nat,∃y:It,decide ((0:Int)<k)=true/\IntKind.i64.wrap ((k:Int)-1)=(m:Int)/\(m:Int)<t.length/\t[m]?=some y/\(cD t[k].p y.p || t[k].p==y.p) = !rV (t.take k) t[k].p:=by
   by_cases h0:0<k
   .have hmk:k-1<t.length:=by omega
    refine .inr ⟨k-1,t[k-1],decide_eq_true (by omega),?_,by omega,List.getElem?_eq_getElem hmk,?_⟩
    .rw[wrap_i64 (by omega) (by omega)];omega
    .rw[QZ];unfold rV;rw[getLast_take h0 (by omega),List.getElem?_eq_getElem hmk]
   .refine .inl ⟨decide_eq_false (by omega),?_⟩;have:k=0:=by omega
    subst this;rfl
  have hpl:=hp _ (List.getElem_mem hlt);have i4:=ht _ (List.getElem_mem hlt);have hisd:=eR (t:=t.take k) (p:=aU t[k].p) (by rw[List.length_take];omega) hst;have htk:(aS t).take k=aS (t.take k):=BE t k;have hdr:t.drop k=t[k]::t.drop (k+1):=List.drop_eq_getElem_cons hlt;have hnx:t.take (k+1)=t.take k++[t[k]]:=by rw[List.take_add_one,hx];rfl
  rw [hdr,fM] at hgo;have hsn:rV (t.take k) t[k].p=true->Srt (t.take k++[t[k]]):=λh=>zA1 hst h;rw[<- hnx] at hgo hsn;have hbad:nA (t.take k) t[k]=false->kT t=false:=λh=>by
   rw[h,Bool.false_and] at hgo;rw[kT,<- hgo];rfl
  have hgood:nA (t.take k) t[k]=true->fM (t.take (k+1)) (t.drop (k+1))=fM [] t:=λh=>by
   rw[h,Bool.true_and] at hgo;exact hgo
  clear hgo hdr hnx;unfold nA at hbad hgood;generalize t[k]=x at hx hg prev hpl i4 hisd hsn hbad hgood;generalize rV (t.take k) x.p=a3 at prev hsn hbad hgood;generalize bC (t.take k) (aU x.p)=a5 at hisd hbad hgood;cases c1:(x.p == [])
  .cases c2:bW x.p
   .have hf:=hbad (by rw[c1,c2];rfl);rw[hf];clear hf hbad hgood hsn hst hisd prev hp ht hx
    repeat' (first|exact⟨⟩|refine sp ?_|((refine aG (id:=4) aF aN [] [0,1,2,3,4,5,6,7,8,9,10,11,12,13,14,15,16,17,18,19,20,21,22,23,24,25,26,27,28,29,30,31,32,33,34,35,36,37,38,39] (by decide +kernel) ?_);(repeat' (first|(refine aT ?_)|((refine bL ?_ rfl rfl ?_ ?_);(rotate_left 1);(focus ((repeat' (first|exact⟨⟩|refine sq ?_|refine uF (fT (by omega)) ?_));exact rfl));(simp only[aC])))))|refine ai ?_)
   .rcases prev with⟨b1,rfl⟩|⟨m,y,b1,b2,b3,b4,b5⟩
    .cases c4:aR x.n
     .have hf:=hbad (by rw[c1,c2,c4];rfl);rw[hf];clear hf hbad hgood hsn hst hisd hp ht hx
      repeat' (first|exact⟨⟩|refine sp ?_|((refine aG (id:=4) aF aN [] [0,1,2,3,4,5,6,7,8,9,10,11,12,13,14,15,16,17,18,19,20,21,22,23,24,25,26,27,28,29,30,31,32,33,34,35,36,37,38,39] (by decide +kernel) ?_);(repeat' (first|(refine aT ?_)|((refine bL ?_ rfl rfl ?_ ?_);(rotate_left 1);(focus ((repeat' (first|exact⟨⟩|refine sq ?_|refine uF (fT (by omega)) ?_|refine uF (dZ i4) ?_));exact rfl));(simp only[aC])))))|refine ai ?_)
     .cases a5
      .have hf:=hbad (by rw[c1,c2,c4];rfl);rw[hf];clear hf hbad hgood hsn hst hp ht hx
       repeat' (first|exact⟨⟩|refine sp ?_|((refine aG (id:=4) aF aN [] [0,1,2,3,4,5,6,7,8,9,10,11,12,13,14,15,16,17,18,19,20,21,22,23,24,25,26,27,28,29,30,31,32,33,34,35,36,37,38,39] (by decide +kernel) ?_);(repeat' (first|(refine aT ?_)|((refine bL ?_ rfl rfl ?_ ?_);(rotate_left 1);(focus ((repeat' (first|exact⟨⟩|refine sq ?_|refine uF (fT (by omega)) ?_|refine uF (dZ i4) ?_|refine uF (dV (by omega)) ?_|refine uF (hisd) ?_));exact rfl));(simp only[aC])))))|refine ai ?_)
      .have hJ:k+1<=t.length/\Srt (t.take (k+1))/\fM (t.take (k+1)) (t.drop (k+1))=fM [] t:=⟨by omega,hsn rfl,hgood (by rw[c1,c2,c4];rfl)⟩
       clear hbad hgood hsn hst hp ht hx
       repeat' (first|exact⟨⟩|refine sp ?_|((refine aG (id:=4) aF aN [] [0,1,2,3,4,5,6,7,8,9,10,11,12,13,14,15,16,17,18,19,20,21,22,23,24,25,26,27,28,29,30,31,32,33,34,35,36,37,38,39] (by decide +kernel) ?_);(repeat' (first|(refine aT ?_)|((refine bL ?_ rfl rfl ?_ ?_);(rotate_left 1);(focus ((repeat' (first|exact⟨⟩|refine sq ?_|refine uF (fT (by omega)) ?_|refine uF (dZ i4) ?_|refine uF (dV (by omega)) ?_|refine uF (hisd) ?_));exact rfl));(simp only[aC])))))|refine ai ?_)
       exact dE (k+1) hJ (by omega) (aB rfl rfl rfl wkS)
    .have hgy:=bZ b4;cases a3
     .have hf:=hbad (by rw[c1,c2];rfl);rw[hf];rw[Bool.not_false] at b5;clear hf hbad hgood hsn hst hisd hp ht hx b4
      repeat' (first|exact⟨⟩|refine sp ?_|((refine aG (id:=4) aF aN [] [0,1,2,3,4,5,6,7,8,9,10,11,12,13,14,15,16,17,18,19,20,21,22,23,24,25,26,27,28,29,30,31,32,33,34,35,36,37,38,39] (by decide +kernel) ?_);(repeat' (first|(refine aT ?_)|((refine bL ?_ rfl rfl ?_ ?_);(rotate_left 1);(focus ((repeat' (first|exact⟨⟩|refine sq ?_|refine uF (fT (by omega)) ?_|refine ai ?_));exact rfl));(simp only[aC])))))|refine ai ?_)
     .rw [Bool.not_true] at b5;cases c4:aR x.n
      .have hf:=hbad (by rw[c1,c2,c4];rfl);rw[hf];clear hf hbad hgood hsn hst hisd hp ht hx b4
       repeat' (first|exact⟨⟩|refine sp ?_|((refine aG (id:=4) aF aN [] [0,1,2,3,4,5,6,7,8,9,10,11,12,13,14,15,16,17,18,19,20,21,22,23,24,25,26,27,28,29,30,31,32,33,34,35,36,37,38,39] (by decide +kernel) ?_);(repeat' (first|(refine aT ?_)|((refine bL ?_ rfl rfl ?_ ?_);(rotate_left 1);(focus ((repeat' (first|exact⟨⟩|refine sq ?_|refine uF (fT (by omega)) ?_|refine uF (dZ i4) ?_|refine ai ?_));exact rfl));(simp only[aC])))))|refine ai ?_)
      .cases a5
       .have hf:=hbad (by rw[c1,c2,c4];rfl);rw[hf];clear hf hbad hgood hsn hst hp ht hx b4
        repeat' (first|exact⟨⟩|refine sp ?_|((refine aG (id:=4) aF aN [] [0,1,2,3,4,5,6,7,8,9,10,11,12,13,14,15,16,17,18,19,20,21,22,23,24,25,26,27,28,29,30,31,32,33,34,35,36,37,38,39] (by decide +kernel) ?_);(repeat' (first|(refine aT ?_)|((refine bL ?_ rfl rfl ?_ ?_);(rotate_left 1);(focus ((repeat' (first|exact⟨⟩|refine sq ?_|refine uF (fT (by omega)) ?_|refine uF (dZ i4) ?_|refine uF (dV (by omega)) ?_|refine uF (hisd) ?_|refine ai ?_));exact rfl));(simp only[aC])))))|refine ai ?_)
       .have hJ:k+1<=t.length/\Srt (t.take (k+1))/\fM (t.take (k+1)) (t.drop (k+1))=fM [] t:=⟨by omega,hsn rfl,hgood (by rw[c1,c2,c4];rfl)⟩
        clear hbad hgood hsn hst hp ht hx b4
        repeat' (first|exact⟨⟩|refine sp ?_|((refine aG (id:=4) aF aN [] [0,1,2,3,4,5,6,7,8,9,10,11,12,13,14,15,16,17,18,19,20,21,22,23,24,25,26,27,28,29,30,31,32,33,34,35,36,37,38,39] (by decide +kernel) ?_);(repeat' (first|(refine aT ?_)|((refine bL ?_ rfl rfl ?_ ?_);(rotate_left 1);(focus ((repeat' (first|exact⟨⟩|refine sq ?_|refine uF (fT (by omega)) ?_|refine uF (dZ i4) ?_|refine uF (dV (by omega)) ?_|refine uF (hisd) ?_|refine ai ?_));exact rfl));(simp only[aC])))))|refine ai ?_)
        exact dE (k+1) hJ (by omega) (aB rfl rfl rfl wkS)
  .have hf:=hbad (by rw[c1];rfl);rw[hf];clear hf hbad hgood hsn hst hisd prev hp ht hx
   repeat' (first|exact⟨⟩|refine sp ?_|((refine aG (id:=4) aF aN [] [0,1,2,3,4,5,6,7,8,9,10,11,12,13,14,15,16,17,18,19,20,21,22,23,24,25,26,27,28,29,30,31,32,33,34,35,36,37,38,39] (by decide +kernel) ?_);(repeat' (first|(refine aT ?_)|((refine bL ?_ rfl rfl ?_ ?_);(rotate_left 1);(focus ((repeat' (first|exact⟨⟩|refine sp ?_));exact rfl));(simp only[aC])))))|refine ai ?_)
 .have h1:decide ((k:Int)<(t.length:Int))=false:=decide_eq_false (by omega);rw[List.drop_of_length_le (by omega),fM] at hgo;rw[kT,<- hgo,Bool.true_and];clear hgo hst
  repeat' (first|exact⟨⟩|refine sp ?_)
end Go.Proofs.YtflcjdohmojepaaGreatDoor
end
