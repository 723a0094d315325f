/- Part 42 of the proof of roomMerges_card, set without needless blanks. No condition. -/
import Derived.Test.YtflcjdohmojepaaGreatDoorM40
set_option linter.all false
set_option maxRecDepth 100000
set_option maxHeartbeats 16000000
section
namespace Go.Proofs.YtflcjdohmojepaaGreatDoor
open Go Go.Dm Go.Proofs Go.Proofs.Tryz
theorem zH1{p q:List UInt8}{k m k' m':Int}{tt tt':Nat}{d d':List UInt8}:
  aA prog 92 [.agg [.p (.s p),.p (.i .i64 k),.p (.i .i64 m),.p (.f tt),.p (.sl 1 (bU d))],.agg [.p (.s q),.p (.i .i64 k'),.p (.i .i64 m'),.p (.f tt'),.p (.sl 1 (bU d'))]] [] λr h=>r=.c (.p (.i .i64 (ED p q)))/\h=[]:=by
 refine eT func92 λX0 hX=>?_;simp only[f92,go_sem]
 repeat' (first|exact⟨⟩|refine sp ?_|refine uF (lV) ?_)
theorem zNv{h:aD}{id:Nat}{l:List It}(hu:∀x∈l,∀y∈l,x.p=y.p->x=y)(hid:h[id]?=some (.arr 5 (aS l) false))(hsz:l.length<4611686018427387904):
  aA prog 91 [.c (.own id 0 l.length),.c (.clo 92 [])] h λd h'=>d=.tup []/\h'=h.set id (.arr 5 (aS (gN l)) false):=by
 have:=lO (P:=prog) (f:=91) (g:=92) 5 (by decide) cfI ZF
  (enters Tryz.func91 rfl rfl) (enters_of func92 (by kernel_rfl) rfl)
  (λenc hk h1 c hO blk off cap d w hcmp hH hblk hsz=>Tryz.slices_SortFunc_f91 5 Tryz.isAgg84 Tryz.sizeOf84 enc hk h1 c hO 92 #[] blk off cap d w (enters_of func92 (by kernel_rfl) rfl) hcmp hH hblk hsz)
  (λp cap fv w=>Tryz.slices_SortFunc_none_f91 (α:=Nat) p cap fv w)
  (h:=h) (i0:=id) (es:=aS l) (λx hx y hy=>by
   obtain⟨a,_,rfl⟩:=List.mem_map.1 hx;obtain⟨b,_,rfl⟩:=List.mem_map.1 hy;exact zH1) (NS hu) hid (by rw[cN];exact hsz)
 rw[PZ,cN] at this;exact this
theorem zOQ{t:List It}{p:List UInt8}{kk k m k' m':Int}{tt tt':Nat}{d d':List UInt8}(ht:OkT t):
  aA prog 89 [.c (.p (.sl 5 (aS t))),.agg [.p (.s p),.p (.i .i64 kk),.p (.i .i64 k),.p (.i .i64 m),.p (.f tt),.p (.sl 1 (bU d)),.p (.i .i64 k'),.p (.i .i64 m'),.p (.f tt'),.p (.sl 1 (bU d'))]] [] λr h =>
   r=.c (.p (.b (uH t ⟨p,kk,⟨k,m,tt,d⟩,⟨k',m',tt',d'⟩⟩)))/\h=[]:=by
 have hg:=eV (t:=t) (p:=p) (Nat.le_trans ht.len (by decide)) ht.srt ht.ne (λx hx=>Nat.le_trans (ht.dlen x hx) (by decide));unfold uH;simp only;clear ht;generalize (aM t p).getD nd0=n at *;generalize (aM t p).isSome=u at *;refine eT func89 λX0 hX=>?_;simp only[f89,go_sem]
 repeat' (first|exact⟨⟩|refine sp ?_|refine uN (hg) ?_|refine uF (rG) ?_|refine aH (λ_=>?_) (λ_=>?_)|refine aY (λ_=>?_) (λ_=>?_))
 all_goals simp_all
theorem zIf{t:List It}(ht:t.length<=1000000)(hd:∀x∈t,x.n.d.length<=140737488355328):
  aA prog 90 [.c (.p (.sl 5 (aS t)))] [] λr h=>r=.c (.p (.sl 5 (aS t)))/\h=[]:=by
 refine eT func90 λX0 hX=>?_;simp only[f90,go_sem]
 repeat' (first|exact⟨⟩|refine sp ?_)
 refine dQ aF aN 3 5 rfl ?_;refine aP aF aN (α:=Nat) (λk=>⟨23,[(6,.c (.p (.sl 5 (aS t)))),(7,.c (.p (.i .i64 t.length))),(8,.c (.p (.i .i64 k))),(3,.c (.own 0 0 k))],[.arr 5 (aS (t.take k)) false]⟩)
  (λk=>k<=t.length) (λk=>t.length-k) 0 (Nat.zero_le _) (.inl (aB (by rw[hX];rfl) rfl rfl wkS)) ?_
 intro k hk;have hmn:min k t.length=k:=Nat.min_eq_left hk;have hln:(t.take k).length=k:=by rw[List.length_take,hmn]
 by_cases hlt:k<t.length
 .have hx:t[k]?=some t[k]:=List.getElem?_eq_getElem hlt;have hg:=bZ hx;have h1:decide ((k:Int)<(t.length:Int))=true:=decide_eq_true (by omega);have w1:IntKind.i64.wrap ((k:Int)+1)=k+1:=wrap_i64 (by omega) (by omega);have hnx:t.take (k+1)=t.take k++[⟨t[k].p,t[k].n⟩]:=by rw[List.take_add_one,hx];rfl
  have hdx:=hd _ (List.getElem_mem hlt);generalize t[k]=x at hx hg hnx hdx;generalize hrow:t.take k=row at hln hnx;clear hx hrow hd
  repeat' (first|exact⟨⟩|refine sp ?_|((refine aG (id:=5) aF aN [7,8] [1,2,3,4,5,6,7,0,8,9] (by decide +kernel) ?_);(repeat' (first|(refine aT ?_)|((refine cK ?_ ?_ rfl rfl rfl ?_ ?_);(rotate_left 2);(focus ((repeat' (first|exact⟨⟩|refine sp ?_|((with_reducible refine And.intro ?_ ?_);((first|omega|decide)))));((refine And.intro ?_ ?_<;>exact rfl))));(simp only[aC]))|((refine cJ ?_ rfl rfl rfl ?_ ?_);(rotate_left 1);(focus ((repeat' (first|exact bA|refine aW ?_ ?_));(all_goals ((repeat' (first|exact⟨⟩|refine sp ?_|refine uN (rW hdx) ?_));(try (exact rfl))))));(simp only[aC])))))|refine ai ?_)
  exact dN (k+1) 0 3 (by omega) (by omega) rfl rfl (aB rfl (by rw[hnx];rfl) rfl wkS)
 .have h1:decide ((k:Int)<(t.length:Int))=false:=decide_eq_false (by omega);have hk2:k=t.length:=by omega
  subst hk2;rw[List.take_length];clear hln hmn
  repeat' (first|exact⟨⟩|refine sp ?_)
theorem zNw{h:aD}{id:Nat}{l:List It}{K:DV->aD->Prop}(hu:∀x∈l,∀y∈l,x.p=y.p->x=y)(hsz:l.length<4611686018427387904)(hid:h[id]?=some (.arr 5 (aS l) false))(hk:K (.tup []) (h.set id (.arr 5 (aS (gN l)) false))):
  aA prog 91 [.c (.own id 0 l.length),.c (.clo 92 [])] h K :=
 aA.mono (zNv hu hid hsz) (by rintro _ _ ⟨rfl,rfl⟩;exact hk)
theorem zH2{t:List It}{l:List Ch}(ht:OkT t)(hl:l.length<=100000)(hp:∀x∈l,x.p.length<=1000000000/\x.o.t<18446744073709551616/\x.n.t<18446744073709551616)(hd:∀x∈l,x.n.d.length<=140737488355328):
  aA prog 38 [.c (.p (.sl 5 (aS t))),.c (.p (.sl 10 (lE l)))] [] λr h=>r=.tup [.c (.p (.sl 5 (aS (fH t l).1))),.c (.p (.i .i64 (fH t l).2))]/\h=[]:=by
 refine aV ?_;have hright:=xJ (l:=l) (by omega) hp;unfold fH;cases hr:gA l
 .rw[hr] at hright;refine zOO aF func38 rfl rfl λX0 hX=>?_;simp only[f38,go_sem];refine bE aF aN ?_
  repeat' (first|exact⟨⟩|refine sp ?_)
  refine bE aF aN ?_
  repeat' (first|exact⟨⟩|refine sq ?_|refine uN (hright) ?_)
  all_goals exact .inr ⟨_,rfl⟩
 .rw [hr] at hright;rw[if_neg (by decide)];have hrP:=PLift.up hr;obtain⟨R,hR⟩:∃R,(if !(l.all (uH t)) then (([],17):List It × Int) else if decide ((120:Int)<((gN (LP t l)).length:Int)) then ([],16) else if !kT (gN (LP t l)) then ([],17) else (gN (LP t l),0))=R:=⟨_,rfl⟩
  rw[hR];have hRP:=PLift.up hR;clear hR;refine zOO aF func38 rfl rfl λX0 hX=>?_;simp only[f38,go_sem];refine bE aF aN ?_
  repeat' (first|exact⟨⟩|refine sp ?_)
  refine bE aF aN ?_
  repeat' (first|exact⟨⟩|refine sq ?_|refine uN (hright) ?_)
  refine zHb aF rfl rfl rfl (by decide) (λb K hK=>?_)
  repeat' (first|exact⟨⟩|refine sp ?_)
  refine hK _ ?_;clear hK K hright hr;refine cT aF aN (λX1 hX1=>?_)
  repeat' (first|exact⟨⟩|refine sp ?_)
  clear hX1 X1;refine zHi 7 5 rfl ?_;refine oO ?_;refine cT aF aN (λX1 hX1=>?_)
  repeat' (first|exact⟨⟩|refine sp ?_)
  clear hX1 X1;refine rQ ?_;refine VC (α:=Nat × List It) (λx=>⟨70,[(0,.c (.p (.sl 5 (aS t)))),(6,.c (.p (.o (.map (some b))))),(7,.c (.own 0 0 x.2.length)),(16,.c (.p (.sl 10 (lE l)))),(17,.c (.p (.i .i64 l.length))),(18,.c (.p (.i .i64 x.1)))],[.arr 5 (aS x.2) false]⟩)
   (λx=>rT (l.take x.1)) (λx=>x.1<=l.length/\yM (l.take x.1)=x.2/\(l.take x.1).all (uH t)=true) (λx=>l.length-x.1) (0,[]) ⟨Nat.zero_le _,rfl,rfl⟩ rfl (.inl (aB (by rw[hX];rfl) rfl rfl wkS)) ?_
  rintro⟨i,out⟩ ⟨hi,hout,hfit⟩;simp only at hi hout hfit;have hol:out.length<=i:=by rw[<- hout];exact Nat.le_trans (zF8 _) (List.length_take_le ..)
  by_cases hlt:i<l.length
  .have hx:l[i]?=some l[i]:=List.getElem?_eq_getElem hlt;have hg:=mA hx;have hnw:=zCa hx;have hky:=zB3 hx;have hft:(l.take (i+1)).all (uH t)=uH t l[i]:=by
    rw[List.take_add_one,hx,List.all_append,hfit,Bool.true_and];simp only[Option.toList_some,List.all_cons,List.all_nil,Bool.and_true]
   have hno:uH t l[i]=false->l.all (uH t)=false:=λh=>by
    rw[Bool.eq_false_iff];intro h2;have:=List.all_eq_true.1 h2 _ (List.getElem_mem hlt);rw[h] at this;cases this
   have h1:decide ((i:Int)<(l.length:Int))=true:=decide_eq_true (by omega);have w1:IntKind.i64.wrap ((i:Int)+1)=i+1:=wrap_i64 (by omega) (by omega);have hpx:=hp _ (List.getElem_mem hlt);have hdx:=hd _ (List.getElem_mem hlt);generalize l[i]=c at *;rw[hout] at hnw;have hfc:=zOQ (t:=t) (p:=c.p) (kk:=c.k) (k:=c.o.k) (m:=c.o.m) (tt:=c.o.t) (d:=c.o.d) (k':=c.n.k) (m':=c.n.m) (tt':=c.n.t) (d':=c.n.d) ht;rw[show uH t ⟨c.p,c.k,⟨c.o.k,c.o.m,c.o.t,c.o.d⟩,⟨c.n.k,c.n.m,c.n.t,c.n.d⟩⟩=uH t c from rfl] at hfc
   refine cT aF aN (λX1 hX1=>?_)
   repeat' (first|exact⟨⟩|refine sp ?_)
   clear hX1 X1;refine cT aF aN (λX1 hX1=>?_)
   repeat' (first|exact⟨⟩|refine sp ?_)
   clear hX1 X1;refine oO ?_;refine rQ ?_;refine cT aF aN (λX1 hX1=>?_)
   repeat' (first|exact⟨⟩|refine sp ?_|refine ai ?_)
   clear hX1 X1;cases hf:uH t c
   .rw[hf] at hfc;obtain rfl:([],17)=R:=by rw[<- hRP.down,hno hf];rfl
    refine cT aF aN (λX1 hX1=>?_)
    repeat' (first|exact⟨⟩|refine sq ?_|refine uN (hfc) ?_)
    all_goals exact .inr ⟨_,rfl⟩
   .rw [hf] at hfc hft;have hJ:=PLift.up hft;clear hft hno;refine cT aF aN (λX1 hX1=>?_)
    repeat' (first|exact⟨⟩|refine sq ?_|refine uN (hfc) ?_)
    clear hX1 X1;refine oO (zHh aF 3 c.p rfl Tryz.underlying154 Tryz.underlying9 rfl rfl rfl (Nat.le_trans hpx.1 (by decide)) λK hK=>?_)
    repeat' (first|exact⟨⟩|refine sp ?_)
    refine hK _ _ _ rfl rfl rfl ?_;clear hK K;rw[zQc];cases hk2:(c.k != 2)
    .rw[show yL c=[] by unfold yL;rw[hk2];rfl,List.append_nil] at hnw
     have hN:=PLift.up hnw;have hY:=PLift.up hky;clear hnw hky;refine jG aF aN (λX1 hX1=>?_)
     repeat' (first|exact⟨⟩|refine sp ?_)
     refine jG aF aN (λX1 hX1=>?_)
     repeat' (first|exact⟨⟩|refine sp ?_)
     exact zKi (i+1,out) ⟨by omega,hN.down,hJ.down⟩ (by simp only;omega) hY.down.symm (.inl (aB rfl rfl rfl wkS))
    .rw[show yL c=[⟨c.p,c.n⟩] by unfold yL;rw[hk2];rfl] at hnw
     have hN:=PLift.up hnw;have hY:=PLift.up hky;clear hnw hky;refine jG aF aN (λX1 hX1=>?_)
     repeat' (first|exact⟨⟩|refine sp ?_|((refine aG (id:=12) aF aN [7,8] [1,2,3,4,5,6,7,0,8,9] (by decide +kernel) ?_);(repeat' (first|(refine aT ?_)|((refine cK ?_ ?_ rfl rfl rfl ?_ ?_);(rotate_left 2);(focus ((repeat' (first|exact⟨⟩|refine sp ?_|((with_reducible refine And.intro ?_ ?_);((first|omega|decide)))));((refine And.intro ?_ ?_<;>exact rfl))));(simp only[aC]))|((refine cJ ?_ rfl rfl rfl ?_ ?_);(rotate_left 1);(focus ((repeat' (first|exact bA|refine aW ?_ ?_));(all_goals ((repeat' (first|exact⟨⟩|refine sp ?_|refine uN (rW hdx) ?_));(try (exact rfl))))));(simp only[aC]))))))
     refine jG aF aN (λX1 hX1=>?_)
     repeat' (first|exact⟨⟩|refine sp ?_)
     exact zKi (i+1,out++[⟨c.p,c.n⟩]) ⟨by omega,hN.down,hJ.down⟩ (by simp only;omega) hY.down.symm (.inr ⟨0,3,5,_,by decide,Nat.le_refl _,Nat.zero_le _,Nat.zero_lt_succ _,rfl,aB rfl rfl rfl wkS⟩)
  .have h1:decide ((i:Int)<(l.length:Int))=false:=decide_eq_false (by omega);rw[List.take_of_length_le (by omega)] at hout hfit;rw[List.take_of_length_le (by omega)];have hcp:=zIf (t:=t) (Nat.le_trans ht.len (by decide)) (λx hx=>Nat.le_trans (ht.dlen x hx) (by decide));have htl:=ht.len;refine cT aF aN (λX1 hX1=>?_)
   repeat' (first|exact⟨⟩|refine sp ?_)
   clear hX1 X1;refine cT aF aN (λX1 hX1=>?_)
   repeat' (first|exact⟨⟩|refine sp ?_)
   clear hX1 X1 h1;refine oO ?_;refine cT aF aN (λX1 hX1=>?_)
   repeat' (first|exact⟨⟩|refine sp ?_|refine uN (hcp) ?_)
   clear hX1 X1;refine rQ ?_;refine VC (α:=Nat × List It) (λx=>⟨70,[(6,.c (.p (.o (.map (some b))))),(7,.c (.own 0 0 x.2.length)),(43,.c (.p (.sl 5 (aS t)))),(44,.c (.p (.i .i64 t.length))),(45,.c (.p (.i .i64 x.1)))],[.arr 5 (aS x.2) false]⟩)
    (λ_=>rT l) (λx=>x.1<=t.length/\out++wR (t.take x.1) (rT l)=x.2) (λx=>t.length-x.1) (0,out) ⟨Nat.zero_le _,by simp[wR]⟩ rfl (.inl (aB (by rw[hX];rfl) rfl rfl wkS)) ?_
   rintro ⟨k,row⟩ ⟨hk,hrow⟩;simp only at hk hrow;have hrl:row.length<=100000+120:=by
    have:=zGR (t.take k) (rT l);rw[<- hrow,List.length_append];rw[List.length_take] at this;omega
   by_cases hlt2:k<t.length
   .have hx:t[k]?=some t[k]:=List.getElem?_eq_getElem hlt2;have hg:=bZ hx;have hrt:=zCz (ks:=rT l) hx;have h1:decide ((k:Int)<(t.length:Int))=true:=decide_eq_true (by omega);have w1:IntKind.i64.wrap ((k:Int)+1)=k+1:=wrap_i64 (by omega) (by omega);have hpx:=ht.plen _ (List.getElem_mem hlt2);generalize t[k]=x at *;have hrt2:out++wR (t.take (k+1)) (rT l)=row++MD (rT l) x:=by rw[hrt,<- List.append_assoc,hrow]
    clear hrt hrow;unfold MD at hrt2;refine cT aF aN (λX1 hX1=>?_)
    repeat' (first|exact⟨⟩|refine sp ?_)
    clear hX1 X1;refine cT aF aN (λX1 hX1=>?_)
    repeat' (first|exact⟨⟩|refine sp ?_)
    clear hX1 X1;refine oO ?_;refine rQ ?_;refine cT aF aN (λX1 hX1=>?_)
    repeat' (first|exact⟨⟩|refine sp ?_|refine ai ?_)
    clear hX1 X1;refine oO (zCY aF 3 x.p rfl Tryz.underlying154 Tryz.underlying9 Tryz.zeroValue4 rfl rfl rfl (Nat.le_trans hpx (by decide)) λK hK=>?_)
    repeat' (first|exact⟨⟩|refine sp ?_)
    refine hK _ _ _ (by decide) rfl rfl (λK2 hK2=>?_);clear hK K;cases hc:(rT l).contains x.p
    .rw[hc,if_pos (by decide)] at hrt2;have hN:=PLift.up hrt2;clear hrt2
     repeat' (first|exact⟨⟩|refine sq ?_)
     refine hK2 _ ?_;clear hK2 K2 hc;rw[zQc];refine jG aF aN (λX1 hX1=>?_)
     repeat' (first|exact⟨⟩|refine sp ?_|((with_reducible refine And.intro ?_ ?_);((first|omega|decide))))
     refine jG aF aN (λX1 hX1=>?_)
     repeat' (first|exact⟨⟩|refine sp ?_)
     exact zKi (k+1,row++[x]) ⟨by omega,hN.down⟩ (by simp only;omega) rfl (.inr ⟨0,3,5,_,by decide,Nat.le_refl _,Nat.zero_le _,Nat.zero_lt_succ _,rfl,aB rfl rfl rfl wkS⟩)
    .rw[hc,if_neg (by decide),List.append_nil] at hrt2;have hN:=PLift.up hrt2;clear hrt2
     repeat' (first|exact⟨⟩|refine sq ?_)
     refine hK2 _ ?_;clear hK2 K2 hc;rw[zQc];refine jG aF aN (λX1 hX1=>?_)
     repeat' (first|exact⟨⟩|refine sp ?_)
     refine jG aF aN (λX1 hX1=>?_)
     repeat' (first|exact⟨⟩|refine sp ?_)
     exact zKi (k+1,row) ⟨by omega,hN.down⟩ (by simp only;omega) rfl (.inl (aB rfl rfl rfl wkS))
   .have h1:decide ((k:Int)<(t.length:Int))=false:=decide_eq_false (by omega);rw[List.take_of_length_le (by omega),<- hout] at hrow;refine cT aF aN (λX1 hX1=>?_)
    repeat' (first|exact⟨⟩|refine sp ?_)
    clear hX1 X1;refine cT aF aN (λX1 hX1=>?_)
    repeat' (first|exact⟨⟩|refine sp ?_)
    clear hX1 X1 h1;have hrow2:LP t l=row:=hrow;have hR:=hRP.down;rw[hfit,if_neg (by decide)] at hR;have hu:=zJZ ht.srt hrP.down;have hmo:∀x∈gN (LP t l),x.p.length<=1000000000/\x.n.t<18446744073709551616:=λx hx=>by
     rcases zFU hx with⟨c,hc,rfl⟩|hx
     .exact⟨(hp c hc).1,(hp c hc).2.2⟩
     .exact⟨Nat.le_trans (ht.plen x hx) (by decide),ht.tlen x hx⟩
    have hln:(gN (LP t l)).length=(LP t l).length:=DP _;rw[hrow2] at hR hu hmo hln;have htr:=xZ (t:=gN row) (by omega) (λx hx=>(hmo x hx).1) (λx hx=>(hmo x hx).2);have hsl:(gN row).length<=100120:=by omega
    subst hR;clear hout hrow hrow2 hmo hp hd hcp hfit hRP hrP hlt hlt2 htl;refine cT aF aN (λX1 hX1=>?_)
    repeat' (first|exact⟨⟩|refine sp ?_|refine zNw hu (by omega) rfl ?_)
    have hlen:(gN row).length=row.length:=DP _;rw[<- hlen];clear hu hln hlen hrl hX1 X1;generalize gN row=m at *;cases hd:decide ((120:Int)<(m.length:Int))
    .rw [if_neg (by decide)];cases hq:kT m
     .rw[hq] at htr;rw[if_pos (by decide)];refine jG aF aN (λX1 hX1=>?_)
      repeat' (first|exact⟨⟩|refine sq ?_|refine uN (htr) ?_|((with_reducible apply aA.frz);exact rfl;exact rfl))
      all_goals exact .inr ⟨_,rfl⟩
     .rw[hq] at htr;rw[if_neg (by decide)];refine jG aF aN (λX1 hX1=>?_)
      repeat' (first|exact⟨⟩|refine sq ?_|refine uN (htr) ?_|((with_reducible apply aA.frz);exact rfl;exact rfl))
    .rw[if_pos rfl];refine jG aF aN (λX1 hX1=>?_)
     repeat' (first|exact⟨⟩|refine sp ?_)
     all_goals exact .inr ⟨_,rfl⟩
theorem zCF{r:Rm}{o t:List UInt8}(hr:OkR r):aA prog 57 [.c (.ptr 0 0),.c (.p (.s o)),.c (.p (.s t))] (bO r) λd h=>d=.tup [.agg (eL r o t).1.cv,.agg (eL r o t).2.1.cv,.c (.p (.i .i64 (eL r o t).2.2))]/\h=bO r:=by
 have h1:=iM (s:=o) hr;have h2:=iM (s:=t) hr;unfold eL;generalize bY r o=y1 at *;generalize bY r t=y2 at *;obtain⟨⟨ai,ap,aq,af⟩,e1⟩:=y1;obtain⟨⟨bi,bp,bq,bf⟩,e2⟩:=y2;simp only[Ly.cv] at *;clear hr;cases he:(e1==0)
 .have hb:(e1 != 0)=true:=by rw[bne,he];rfl
  simp only[Bool.not_false,if_true];clear h2;refine eT func57 λX0 hX=>?_;simp only[f57,go_sem]
  repeat' (first|exact⟨⟩|refine sp ?_|refine uS [0,1,2,3] (h1) ?_|((refine aG (id:=3) aF aN [3,4] [0,3,1,4,2,5] (by decide +kernel) ?_);(repeat' (first|(refine aT ?_)|((refine cK ?_ ?_ rfl rfl rfl ?_ ?_);(rotate_left 2);(focus ((repeat' (first|exact⟨⟩|refine sp ?_));((refine And.intro ?_ ?_<;>exact rfl))));(simp only[bH]))|((refine cJ ?_ rfl rfl rfl ?_ ?_);(rotate_left 1);(focus ((repeat' (first|exact bA|refine aW ?_ ?_));(all_goals ((repeat' (first|exact⟨⟩|refine sp ?_));(try (exact rfl))))));(simp only[aC]))))))
 .have hb:(e1 != 0)=false:=by rw[bne,he];rfl
  simp only[Bool.not_true,Bool.false_eq_true,if_false];cases he2:(e2==0)<;>cases af<;>cases bf
  all_goals simp only[Bool.not_true,Bool.not_false,Bool.or_true,Bool.or_false,Bool.and_true,Bool.and_false,Bool.false_eq_true,if_false,if_true]
  all_goals
   refine eT func57 λX0 hX=>?_;simp only[f57,go_sem]
   repeat' (first|exact⟨⟩|refine sq ?_|refine uS [0,1,2,3] (h1) ?_|refine uS [0,1,2,3] (h2) ?_|((refine aG (id:=7) aF aN [3,4] [0,3,1,4,2,5] (by decide +kernel) ?_);(repeat' (first|(refine aT ?_)|((refine cK ?_ ?_ rfl rfl rfl ?_ ?_);(rotate_left 2);(focus ((repeat' (first|exact⟨⟩|refine sp ?_));((refine And.intro ?_ ?_<;>exact rfl))));(simp only[bH]))|((refine cJ ?_ rfl rfl rfl ?_ ?_);(rotate_left 1);(focus ((repeat' (first|exact bA|refine aW ?_ ?_));(all_goals ((repeat' (first|exact⟨⟩|refine sp ?_));(try (exact rfl))))));(simp only[aC]))))))
end Go.Proofs.YtflcjdohmojepaaGreatDoor
end
section
namespace Go.Proofs.YtflcjdohmojepaaGreatDoor
open Go Go.Dm Go.Proofs.Tryz
theorem zB0(s:List UInt8):aA prog 261 [.c (.p (.s s))] [] λd h=>d=.c (.p (.b false))/\h=[]:=by
 refine eT Tryz.func261 λX0 hX=>?_;simp only[f261,go_sem]
 repeat' (first|exact⟨⟩|refine sp ?_)
 all_goals (first|(with_reducible rfl)|(simp_all[];done)|(simp_all[];omega)|(simp_all[];(repeat' split)<;>omega))
theorem zIc{a b:List UInt8}:aA prog 217 [.c (.p (.s a)),.c (.p (.s b))] [] λd h=>d=.c (.p (.i .i64 (ED a b)))/\h=[]:=by
 unfold ED;cases h1:cD a b<;>cases h2:(a==b)
 all_goals
  refine eT func217 λX0 hX=>?_;simp only[Tryz.f217,go_sem]
 all_goals repeat' (first|exact⟨⟩|refine sp ?_|refine uF (zB0 _) ?_)
 all_goals simp
theorem zG5{p q:List UInt8}{k m:Int}:aA prog 215 [.agg [.p (.s p),.p (.i .i64 k)],.agg [.p (.s q),.p (.i .i64 m)]] [] λr h=>r=.c (.p (.i .i64 (cfC ⟨p,k⟩ ⟨q,m⟩)))/\h=[]:=by
 unfold cfC;simp only;refine eT func215 λX0 hX=>?_;simp only[f215,go_sem]
 repeat' (first|exact⟨⟩|refine sp ?_|((refine aG (id:=1) aF aN [10,11] [0,1,2,3,4,5,6,7,8,9,10,11,12] (by decide +kernel) ?_);(repeat' (first|(refine aT ?_)|((refine cK ?_ ?_ rfl rfl rfl ?_ ?_);(rotate_left 2);(focus ((repeat' (first|exact⟨⟩|refine sp ?_|refine uF (zRf _ _) ?_|((with_reducible apply aA.frz);exact rfl;exact rfl)|refine ai ?_));((refine And.intro ?_ ?_<;>exact rfl))));(simp only[aC]))|((refine cJ ?_ rfl rfl rfl ?_ ?_);(rotate_left 1);(focus ((repeat' (first|exact bA|refine aW ?_ ?_));(all_goals ((repeat' (first|exact⟨⟩|refine sp ?_|refine uF (zIc) ?_|refine uF (zAc _ _) ?_));(try (exact rfl))))));(simp only[aC]))))))
theorem to_c{l:List Pr}{p:List UInt8}(hl:l.length<=1000000):aA prog 224 [.c (.p (.sl 2 (oS l))),.c (.p (.s p))] [] λr h=>r=.tup [.c (.p (.s ((toF l p).getD []))),.c (.p (.b (toF l p).isSome))]/\h=[]:=by
 refine eT func224 λX0 hX=>?_;simp only[Tryz.f224,go_sem]
 repeat' (first|exact⟨⟩|refine sp ?_)
 refine aP aF aN (α:=Nat) (λk=>⟨21,[(1,.c (.p (.s p))),(8,.c (.p (.sl 2 (oS l)))),(9,.c (.p (.i .i64 l.length))),(10,.c (.p (.i .i64 k)))],[]⟩)
  (λk=>k<=l.length/\toF (l.drop k) p=toF l p) (λk=>l.length-k) 0 ⟨Nat.zero_le _,rfl⟩ (.inl (aB (by rw[hX];rfl) rfl rfl wkS)) ?_
 rintro k ⟨hk,hs⟩;by_cases hlt:k<l.length
 .have hx:l[k]?=some l[k]:=List.getElem?_eq_getElem hlt;have hg:=BD hx;have hd:=drop_at hx;have h1:decide ((k:Int)<(l.length:Int))=true:=decide_eq_true (by omega);have hli:(k:Int)<(l.length:Int):=by omega
  have hk0:(0:Int)<=k:=by omega
  have w1:IntKind.i64.wrap ((k:Int)+1)=k+1:=wrap_i64 (by omega) (by omega);generalize l[k]=x at hx hg hd;rw[hd,toF] at hs;cases hb:(x.a==p)
  .rw[hb,if_neg (by decide)] at hs;have hJ:k+1<=l.length/\toF (l.drop (k+1)) p=toF l p:=⟨by omega,hs⟩
   clear hs hd hx
   repeat' (first|exact⟨⟩|refine sp ?_)
   exact dE (k+1) hJ (by omega) (aB rfl rfl rfl wkS)
  .rw[hb,if_pos rfl] at hs;rw[<- hs];clear hs hd hx
   repeat' (simp only[*,go_sem,Nat.reduceLT,Nat.reduceLeDiff,Nat.reduceEqDiff,↓reduceIte,Nat.reduceAdd,Option.getD_some,Option.isSome_some])
 .have h1:decide ((k:Int)<(l.length:Int))=false:=decide_eq_false (by omega);rw[List.drop_of_length_le (by omega),toF] at hs;rw[<- hs];clear hs
  repeat' (simp only[*,go_sem,Nat.reduceLT,Nat.reduceEqDiff,↓reduceIte,Option.getD_none,Option.isSome_none])
end Go.Proofs.YtflcjdohmojepaaGreatDoor
end
section
namespace Go.Proofs.YtflcjdohmojepaaGreatDoor
open Go Go.Dm Go.Proofs Go.Proofs.Tryz
theorem zNu{h:aD}{id:Nat}{l:List Cf}(hid:h[id]?=some (.arr 2 (dY l) false))(hsz:l.length<4611686018427387904):
  aA prog 214 [.c (.own id 0 l.length),.c (.clo 215 [])] h λd h'=>d=.tup []/\h'=h.set id (.arr 2 (dY (eB l)) false):=by
 have:=lO (P:=prog) (f:=214) (g:=215) 2 (by decide) cfV zND
  (enters Tryz.func214 rfl rfl) (enters_of func215 (by kernel_rfl) rfl)
  (λenc hk h1 c hO blk off cap d w hcmp hH hblk hsz=>Tryz.slices_SortFunc_f214 2 Tryz.isAgg108 Tryz.sizeOf108 enc hk h1 c hO 215 #[] blk off cap d w (enters_of func215 (by kernel_rfl) rfl) hcmp hH hblk hsz)
  (λp cap fv w=>Tryz.slices_SortFunc_none_f214 (α:=Nat) p cap fv w)
  (h:=h) (i0:=id) (es:=dY l) (λx hx y hy=>by
   obtain⟨a,_,rfl⟩:=List.mem_map.1 hx;obtain⟨b,_,rfl⟩:=List.mem_map.1 hy;exact zG5) (zDE l) hid (by rw[qX];exact hsz)
 rw[zEy,qX] at this;exact this
theorem zKz{h:aD}{id n:Nat}{l:List Cf}{K:DV->aD->Prop}(hid:h[id]?=some (.arr 2 (dY l) false))(hsz:l.length<4611686018427387904)(hn:n=l.length)
  (hk:K (.c (.own id 0 l.length)) (h.set id (.arr 2 (dY (eB l)) false))):aA prog 151 [.c (.own id 0 n)] h K:=by
 subst hn;have hs:=zNu hid hsz;refine VP aF aN func151 rfl rfl λX0 hX=>?_;simp only[f151,go_sem]
 repeat' (first|exact⟨⟩|refine sp ?_)
 refine aA.mono hs ?_;rintro _ _ ⟨rfl,rfl⟩
 repeat' (first|exact⟨⟩|refine sp ?_)
end Go.Proofs.YtflcjdohmojepaaGreatDoor
end
