/- Part 42 of the proof of roomStays_card, set without needless blanks. No condition. -/
import Derived.Test.YtlbfnbldeefgmaaGreatDoorT39
import Derived.Test.YtlbfnbldeefgmaaGreatDoorT40
set_option linter.all false
set_option maxRecDepth 100000
set_option maxHeartbeats 16000000
section
namespace Go.Proofs.YtlbfnbldeefgmaaGreatDoor
open Go Go.Dm Go.Proofs Go.Proofs.Tryz
theorem zGZ{p q:List UInt8}{k m k' m':Int}{tt tt':Nat}{d d':List UInt8}:
  aA prog 156 [.agg [.p (.s p),.p (.i .i64 k),.p (.i .i64 m),.p (.f tt),.p (.sl 1 (bJ d))],.agg [.p (.s q),.p (.i .i64 k'),.p (.i .i64 m'),.p (.f tt'),.p (.sl 1 (bJ d'))]] [] λr h=>r=.c (.p (.i .i64 (CT p q)))/\h=[]:=by
 refine eT func156 λX0 hX=>?_;simp only[f156,go_sem]
 repeat' (first|exact⟨⟩|refine sp ?_|refine uF (lU) ?_)
theorem zMu{h:aB}{id:Nat}{l:List It}(hu:∀x∈l,∀y∈l,x.p=y.p->x=y)(hid:h[id]?=some (.arr 5 (aQ l) false))(hsz:l.length<4611686018427387904):
  aA prog 155 [.c (.own id 0 l.length),.c (.clo 156 [])] h λd h'=>d=.tup []/\h'=h.set id (.arr 5 (aQ (hD l)) false):=by
 have:=lP (P:=prog) (f:=155) (g:=156) 5 (by decide) cfI XC
  (enters Tryz.func155 rfl rfl) (enters_of func156 (by kernel_rfl) rfl)
  (λenc hk h1 c hO blk off cap d w hcmp hH hblk hsz=>Tryz.slices_SortFunc_f155 5 Tryz.isAgg130 Tryz.sizeOf130 enc hk h1 c hO 156 #[] blk off cap d w (enters_of func156 (by kernel_rfl) rfl) hcmp hH hblk hsz)
  (λp cap fv w=>Tryz.slices_SortFunc_none_f155 (α:=Nat) p cap fv w)
  (h:=h) (i0:=id) (es:=aQ l) (λx hx y hy=>by
   obtain⟨a,_,rfl⟩:=List.mem_map.1 hx;obtain⟨b,_,rfl⟩:=List.mem_map.1 hy;exact zGZ) (LG hu) hid (by rw[cS];exact hsz)
 rw[MP,cS] at this;exact this
theorem zNN{t:List It}{p:List UInt8}{kk k m k' m':Int}{tt tt':Nat}{d d':List UInt8}(ht:OkT t):
  aA prog 154 [.c (.p (.sl 5 (aQ t))),.agg [.p (.s p),.p (.i .i64 kk),.p (.i .i64 k),.p (.i .i64 m),.p (.f tt),.p (.sl 1 (bJ d)),.p (.i .i64 k'),.p (.i .i64 m'),.p (.f tt'),.p (.sl 1 (bJ d'))]] [] λr h =>
   r=.c (.p (.b (xH t ⟨p,kk,⟨k,m,tt,d⟩,⟨k',m',tt',d'⟩⟩)))/\h=[]:=by
 have hg:=eW (t:=t) (p:=p) (Nat.le_trans ht.len (by decide)) ht.srt ht.ne (λx hx=>Nat.le_trans (ht.dlen x hx) (by decide));unfold xH;simp only;clear ht;generalize (aN t p).getD nd0=n at *;generalize (aN t p).isSome=u at *;refine eT func154 λX0 hX=>?_;simp only[f154,go_sem]
 repeat' (first|exact⟨⟩|refine sp ?_|refine uN (hg) ?_|refine uF (qI) ?_|refine aK (λ_=>?_) (λ_=>?_)|refine bM (λ_=>?_) (λ_=>?_))
 all_goals simp_all
theorem zHd{t:List It}(ht:t.length<=1000000)(hd:∀x∈t,x.n.d.length<=140737488355328):
  aA prog 99 [.c (.p (.sl 5 (aQ t)))] [] λr h=>r=.c (.p (.sl 5 (aQ t)))/\h=[]:=by
 refine eT func99 λX0 hX=>?_;simp only[f99,go_sem]
 repeat' (first|exact⟨⟩|refine sp ?_)
 refine iQ aD aL 3 5 rfl ?_;refine aY aD aL (α:=Nat) (λk=>⟨23,[(6,.c (.p (.sl 5 (aQ t)))),(7,.c (.p (.i .i64 t.length))),(8,.c (.p (.i .i64 k))),(3,.c (.own 0 0 k))],[.arr 5 (aQ (t.take k)) false]⟩)
  (λk=>k<=t.length) (λk=>t.length-k) 0 (Nat.zero_le _) (.inl (aF (by rw[hX];rfl) rfl rfl wkS)) ?_
 intro k hk;have hmn:min k t.length=k:=Nat.min_eq_left hk;have hln:(t.take k).length=k:=by rw[List.length_take,hmn]
 by_cases hlt:k<t.length
 .have hx:t[k]?=some t[k]:=List.getElem?_eq_getElem hlt;have hg:=cZ hx;have h1:decide ((k:Int)<(t.length:Int))=true:=decide_eq_true (by omega);have w1:IntKind.i64.wrap ((k:Int)+1)=k+1:=wrap_i64 (by omega) (by omega);have hnx:t.take (k+1)=t.take k++[⟨t[k].p,t[k].n⟩]:=by rw[List.take_add_one,hx];rfl
  have hdx:=hd _ (List.getElem_mem hlt);generalize t[k]=x at hx hg hnx hdx;generalize hrow:t.take k=row at hln hnx;clear hx hrow hd
  repeat' (first|exact⟨⟩|refine sp ?_|((refine aG (id:=5) aD aL [7,8] [1,2,3,4,5,6,7,0,8,9] (by decide +kernel) ?_);(repeat' (first|(refine aO ?_)|((refine cR ?_ ?_ rfl rfl rfl ?_ ?_);(rotate_left 2);(focus ((repeat' (first|exact⟨⟩|refine sp ?_|((with_reducible refine And.intro ?_ ?_);((first|omega|decide)))));((refine And.intro ?_ ?_<;>exact rfl))));(simp only[aC]))|((refine cQ ?_ rfl rfl rfl ?_ ?_);(rotate_left 1);(focus ((repeat' (first|exact bB|refine aR ?_ ?_));(all_goals ((repeat' (first|exact⟨⟩|refine sp ?_|refine uN (qW hdx) ?_));(try (exact rfl))))));(simp only[aC])))))|refine ai ?_)
  exact kV (k+1) 0 3 (by omega) (by omega) rfl rfl (aF rfl (by rw[hnx];rfl) rfl wkS)
 .have h1:decide ((k:Int)<(t.length:Int))=false:=decide_eq_false (by omega);have hk2:k=t.length:=by omega
  subst hk2;rw[List.take_length];clear hln hmn
  repeat' (first|exact⟨⟩|refine sp ?_)
theorem zMv{h:aB}{id:Nat}{l:List It}{K:DV->aB->Prop}(hu:∀x∈l,∀y∈l,x.p=y.p->x=y)(hsz:l.length<4611686018427387904)(hid:h[id]?=some (.arr 5 (aQ l) false))(hk:K (.tup []) (h.set id (.arr 5 (aQ (hD l)) false))):
  aA prog 155 [.c (.own id 0 l.length),.c (.clo 156 [])] h K :=
 aA.mono (zMu hu hid hsz) (by rintro _ _ ⟨rfl,rfl⟩;exact hk)
theorem zG0{t:List It}{l:List Ch}(ht:OkT t)(hl:l.length<=100000)(hp:∀x∈l,x.p.length<=1000000000/\x.o.t<18446744073709551616/\x.n.t<18446744073709551616)(hd:∀x∈l,x.n.d.length<=140737488355328):
  aA prog 82 [.c (.p (.sl 5 (aQ t))),.c (.p (.sl 10 (mM l)))] [] λr h=>r=.tup [.c (.p (.sl 5 (aQ (gA t l).1))),.c (.p (.i .i64 (gA t l).2))]/\h=[]:=by
 refine aI ?_;have hright:=wI (l:=l) (by omega) hp;unfold gA;cases hr:jM l
 .rw[hr] at hright;refine zO2 aD func82 rfl rfl λX0 hX=>?_;simp only[f82,go_sem];refine cC aD aL ?_
  repeat' (first|exact⟨⟩|refine sp ?_)
  refine cC aD aL ?_
  repeat' (first|exact⟨⟩|refine sq ?_|refine uN (hright) ?_)
  all_goals exact .inr ⟨_,rfl⟩
 .rw [hr] at hright;rw[if_neg (by decide)];have hrP:=PLift.up hr;obtain⟨R,hR⟩:∃R,(if !(l.all (xH t)) then (([],17):List It × Int) else if decide ((120:Int)<((hD (WH t l)).length:Int)) then ([],16) else if !kY (hD (WH t l)) then ([],17) else (hD (WH t l),0))=R:=⟨_,rfl⟩
  rw[hR];have hRP:=PLift.up hR;clear hR;refine zO2 aD func82 rfl rfl λX0 hX=>?_;simp only[f82,go_sem];refine cC aD aL ?_
  repeat' (first|exact⟨⟩|refine sp ?_)
  refine cC aD aL ?_
  repeat' (first|exact⟨⟩|refine sq ?_|refine uN (hright) ?_)
  refine zGf aD rfl rfl rfl (by decide) (λb K hK=>?_)
  repeat' (first|exact⟨⟩|refine sp ?_)
  refine hK _ ?_;clear hK K hright hr;refine cX aD aL (λX1 hX1=>?_)
  repeat' (first|exact⟨⟩|refine sp ?_)
  clear hX1 X1;refine zGm 7 5 rfl ?_;refine nZ ?_;refine cX aD aL (λX1 hX1=>?_)
  repeat' (first|exact⟨⟩|refine sp ?_)
  clear hX1 X1;refine qQ ?_;refine RO (α:=Nat × List It) (λx=>⟨70,[(0,.c (.p (.sl 5 (aQ t)))),(6,.c (.p (.o (.map (some b))))),(7,.c (.own 0 0 x.2.length)),(16,.c (.p (.sl 10 (mM l)))),(17,.c (.p (.i .i64 l.length))),(18,.c (.p (.i .i64 x.1)))],[.arr 5 (aQ x.2) false]⟩)
   (λx=>tL (l.take x.1)) (λx=>x.1<=l.length/\AY (l.take x.1)=x.2/\(l.take x.1).all (xH t)=true) (λx=>l.length-x.1) (0,[]) ⟨Nat.zero_le _,rfl,rfl⟩ rfl (.inl (aF (by rw[hX];rfl) rfl rfl wkS)) ?_
  rintro⟨i,out⟩ ⟨hi,hout,hfit⟩;simp only at hi hout hfit;have hol:out.length<=i:=by rw[<- hout];exact Nat.le_trans (zE3 _) (List.length_take_le ..)
  by_cases hlt:i<l.length
  .have hx:l[i]?=some l[i]:=List.getElem?_eq_getElem hlt;have hg:=vG hx;have hnw:=zA7 hx;have hky:=zAY hx;have hft:(l.take (i+1)).all (xH t)=xH t l[i]:=by
    rw[List.take_add_one,hx,List.all_append,hfit,Bool.true_and];simp only[Option.toList_some,List.all_cons,List.all_nil,Bool.and_true]
   have hno:xH t l[i]=false->l.all (xH t)=false:=λh=>by
    rw[Bool.eq_false_iff];intro h2;have:=List.all_eq_true.1 h2 _ (List.getElem_mem hlt);rw[h] at this;cases this
   have h1:decide ((i:Int)<(l.length:Int))=true:=decide_eq_true (by omega);have w1:IntKind.i64.wrap ((i:Int)+1)=i+1:=wrap_i64 (by omega) (by omega);have hpx:=hp _ (List.getElem_mem hlt);have hdx:=hd _ (List.getElem_mem hlt);generalize l[i]=c at *;rw[hout] at hnw;have hfc:=zNN (t:=t) (p:=c.p) (kk:=c.k) (k:=c.o.k) (m:=c.o.m) (tt:=c.o.t) (d:=c.o.d) (k':=c.n.k) (m':=c.n.m) (tt':=c.n.t) (d':=c.n.d) ht;rw[show xH t ⟨c.p,c.k,⟨c.o.k,c.o.m,c.o.t,c.o.d⟩,⟨c.n.k,c.n.m,c.n.t,c.n.d⟩⟩=xH t c from rfl] at hfc
   refine cX aD aL (λX1 hX1=>?_)
   repeat' (first|exact⟨⟩|refine sp ?_)
   clear hX1 X1;refine cX aD aL (λX1 hX1=>?_)
   repeat' (first|exact⟨⟩|refine sp ?_)
   clear hX1 X1;refine nZ ?_;refine qQ ?_;refine cX aD aL (λX1 hX1=>?_)
   repeat' (first|exact⟨⟩|refine sp ?_|refine ai ?_)
   clear hX1 X1;cases hf:xH t c
   .rw[hf] at hfc;obtain rfl:([],17)=R:=by rw[<- hRP.down,hno hf];rfl
    refine cX aD aL (λX1 hX1=>?_)
    repeat' (first|exact⟨⟩|refine sq ?_|refine uN (hfc) ?_)
    all_goals exact .inr ⟨_,rfl⟩
   .rw [hf] at hfc hft;have hJ:=PLift.up hft;clear hft hno;refine cX aD aL (λX1 hX1=>?_)
    repeat' (first|exact⟨⟩|refine sq ?_|refine uN (hfc) ?_)
    clear hX1 X1;refine nZ (zGl aD 3 c.p rfl Tryz.underlying214 Tryz.underlying9 rfl rfl rfl (Nat.le_trans hpx.1 (by decide)) λK hK=>?_)
    repeat' (first|exact⟨⟩|refine sp ?_)
    refine hK _ _ _ rfl rfl rfl ?_;clear hK K;rw[zO9];cases hk2:(c.k != 2)
    .rw[show DK c=[] by unfold DK;rw[hk2];rfl,List.append_nil] at hnw
     have hN:=PLift.up hnw;have hY:=PLift.up hky;clear hnw hky;refine jO aD aL (λX1 hX1=>?_)
     repeat' (first|exact⟨⟩|refine sp ?_)
     refine jO aD aL (λX1 hX1=>?_)
     repeat' (first|exact⟨⟩|refine sp ?_)
     exact zJh (i+1,out) ⟨by omega,hN.down,hJ.down⟩ (by simp only;omega) hY.down.symm (.inl (aF rfl rfl rfl wkS))
    .rw[show DK c=[⟨c.p,c.n⟩] by unfold DK;rw[hk2];rfl] at hnw
     have hN:=PLift.up hnw;have hY:=PLift.up hky;clear hnw hky;refine jO aD aL (λX1 hX1=>?_)
     repeat' (first|exact⟨⟩|refine sp ?_|((refine aG (id:=12) aD aL [7,8] [1,2,3,4,5,6,7,0,8,9] (by decide +kernel) ?_);(repeat' (first|(refine aO ?_)|((refine cR ?_ ?_ rfl rfl rfl ?_ ?_);(rotate_left 2);(focus ((repeat' (first|exact⟨⟩|refine sp ?_|((with_reducible refine And.intro ?_ ?_);((first|omega|decide)))));((refine And.intro ?_ ?_<;>exact rfl))));(simp only[aC]))|((refine cQ ?_ rfl rfl rfl ?_ ?_);(rotate_left 1);(focus ((repeat' (first|exact bB|refine aR ?_ ?_));(all_goals ((repeat' (first|exact⟨⟩|refine sp ?_|refine uN (qW hdx) ?_));(try (exact rfl))))));(simp only[aC]))))))
     refine jO aD aL (λX1 hX1=>?_)
     repeat' (first|exact⟨⟩|refine sp ?_)
     exact zJh (i+1,out++[⟨c.p,c.n⟩]) ⟨by omega,hN.down,hJ.down⟩ (by simp only;omega) hY.down.symm (.inr ⟨0,3,5,_,by decide,Nat.le_refl _,Nat.zero_le _,Nat.zero_lt_succ _,rfl,aF rfl rfl rfl wkS⟩)
  .have h1:decide ((i:Int)<(l.length:Int))=false:=decide_eq_false (by omega);rw[List.take_of_length_le (by omega)] at hout hfit;rw[List.take_of_length_le (by omega)];have hcp:=zHd (t:=t) (Nat.le_trans ht.len (by decide)) (λx hx=>Nat.le_trans (ht.dlen x hx) (by decide));have htl:=ht.len;refine cX aD aL (λX1 hX1=>?_)
   repeat' (first|exact⟨⟩|refine sp ?_)
   clear hX1 X1;refine cX aD aL (λX1 hX1=>?_)
   repeat' (first|exact⟨⟩|refine sp ?_)
   clear hX1 X1 h1;refine nZ ?_;refine cX aD aL (λX1 hX1=>?_)
   repeat' (first|exact⟨⟩|refine sp ?_|refine uN (hcp) ?_)
   clear hX1 X1;refine qQ ?_;refine RO (α:=Nat × List It) (λx=>⟨70,[(6,.c (.p (.o (.map (some b))))),(7,.c (.own 0 0 x.2.length)),(43,.c (.p (.sl 5 (aQ t)))),(44,.c (.p (.i .i64 t.length))),(45,.c (.p (.i .i64 x.1)))],[.arr 5 (aQ x.2) false]⟩)
    (λ_=>tL l) (λx=>x.1<=t.length/\out++vV (t.take x.1) (tL l)=x.2) (λx=>t.length-x.1) (0,out) ⟨Nat.zero_le _,by simp[vV]⟩ rfl (.inl (aF (by rw[hX];rfl) rfl rfl wkS)) ?_
   rintro ⟨k,row⟩ ⟨hk,hrow⟩;simp only at hk hrow;have hrl:row.length<=100000+120:=by
    have:=zFS (t.take k) (tL l);rw[<- hrow,List.length_append];rw[List.length_take] at this;omega
   by_cases hlt2:k<t.length
   .have hx:t[k]?=some t[k]:=List.getElem?_eq_getElem hlt2;have hg:=cZ hx;have hrt:=zBz (ks:=tL l) hx;have h1:decide ((k:Int)<(t.length:Int))=true:=decide_eq_true (by omega);have w1:IntKind.i64.wrap ((k:Int)+1)=k+1:=wrap_i64 (by omega) (by omega);have hpx:=ht.plen _ (List.getElem_mem hlt2);generalize t[k]=x at *;have hrt2:out++vV (t.take (k+1)) (tL l)=row++QC (tL l) x:=by rw[hrt,<- List.append_assoc,hrow]
    clear hrt hrow;unfold QC at hrt2;refine cX aD aL (λX1 hX1=>?_)
    repeat' (first|exact⟨⟩|refine sp ?_)
    clear hX1 X1;refine cX aD aL (λX1 hX1=>?_)
    repeat' (first|exact⟨⟩|refine sp ?_)
    clear hX1 X1;refine nZ ?_;refine qQ ?_;refine cX aD aL (λX1 hX1=>?_)
    repeat' (first|exact⟨⟩|refine sp ?_|refine ai ?_)
    clear hX1 X1;refine nZ (zB2 aD 3 x.p rfl Tryz.underlying214 Tryz.underlying9 Tryz.zeroValue4 rfl rfl rfl (Nat.le_trans hpx (by decide)) λK hK=>?_)
    repeat' (first|exact⟨⟩|refine sp ?_)
    refine hK _ _ _ (by decide) rfl rfl (λK2 hK2=>?_);clear hK K;cases hc:(tL l).contains x.p
    .rw[hc,if_pos (by decide)] at hrt2;have hN:=PLift.up hrt2;clear hrt2
     repeat' (first|exact⟨⟩|refine sq ?_)
     refine hK2 _ ?_;clear hK2 K2 hc;rw[zO9];refine jO aD aL (λX1 hX1=>?_)
     repeat' (first|exact⟨⟩|refine sp ?_|((with_reducible refine And.intro ?_ ?_);((first|omega|decide))))
     refine jO aD aL (λX1 hX1=>?_)
     repeat' (first|exact⟨⟩|refine sp ?_)
     exact zJh (k+1,row++[x]) ⟨by omega,hN.down⟩ (by simp only;omega) rfl (.inr ⟨0,3,5,_,by decide,Nat.le_refl _,Nat.zero_le _,Nat.zero_lt_succ _,rfl,aF rfl rfl rfl wkS⟩)
    .rw[hc,if_neg (by decide),List.append_nil] at hrt2;have hN:=PLift.up hrt2;clear hrt2
     repeat' (first|exact⟨⟩|refine sq ?_)
     refine hK2 _ ?_;clear hK2 K2 hc;rw[zO9];refine jO aD aL (λX1 hX1=>?_)
     repeat' (first|exact⟨⟩|refine sp ?_)
     refine jO aD aL (λX1 hX1=>?_)
     repeat' (first|exact⟨⟩|refine sp ?_)
     exact zJh (k+1,row) ⟨by omega,hN.down⟩ (by simp only;omega) rfl (.inl (aF rfl rfl rfl wkS))
   .have h1:decide ((k:Int)<(t.length:Int))=false:=decide_eq_false (by omega);rw[List.take_of_length_le (by omega),<- hout] at hrow;refine cX aD aL (λX1 hX1=>?_)
    repeat' (first|exact⟨⟩|refine sp ?_)
    clear hX1 X1;refine cX aD aL (λX1 hX1=>?_)
    repeat' (first|exact⟨⟩|refine sp ?_)
    clear hX1 X1 h1;have hrow2:WH t l=row:=hrow;have hR:=hRP.down;rw[hfit,if_neg (by decide)] at hR;have hu:=zI5 ht.srt hrP.down;have hmo:∀x∈hD (WH t l),x.p.length<=1000000000/\x.n.t<18446744073709551616:=λx hx=>by
     rcases zET hx with⟨c,hc,rfl⟩|hx
     .exact⟨(hp c hc).1,(hp c hc).2.2⟩
     .exact⟨Nat.le_trans (ht.plen x hx) (by decide),ht.tlen x hx⟩
    have hln:(hD (WH t l)).length=(WH t l).length:=CG _;rw[hrow2] at hR hu hmo hln;have htr:=wX (t:=hD row) (by omega) (λx hx=>(hmo x hx).1) (λx hx=>(hmo x hx).2);have hsl:(hD row).length<=100120:=by omega
    subst hR;clear hout hrow hrow2 hmo hp hd hcp hfit hRP hrP hlt hlt2 htl;refine cX aD aL (λX1 hX1=>?_)
    repeat' (first|exact⟨⟩|refine sp ?_|refine zMv hu (by omega) rfl ?_)
    have hlen:(hD row).length=row.length:=CG _;rw[<- hlen];clear hu hln hlen hrl hX1 X1;generalize hD row=m at *;cases hd:decide ((120:Int)<(m.length:Int))
    .rw [if_neg (by decide)];cases hq:kY m
     .rw[hq] at htr;rw[if_pos (by decide)];refine jO aD aL (λX1 hX1=>?_)
      repeat' (first|exact⟨⟩|refine sq ?_|refine uN (htr) ?_|((with_reducible apply aA.frz);exact rfl;exact rfl))
      all_goals exact .inr ⟨_,rfl⟩
     .rw[hq] at htr;rw[if_neg (by decide)];refine jO aD aL (λX1 hX1=>?_)
      repeat' (first|exact⟨⟩|refine sq ?_|refine uN (htr) ?_|((with_reducible apply aA.frz);exact rfl;exact rfl))
    .rw[if_pos rfl];refine jO aD aL (λX1 hX1=>?_)
     repeat' (first|exact⟨⟩|refine sp ?_)
     all_goals exact .inr ⟨_,rfl⟩
theorem zBF{r:Rm}{o t:List UInt8}(hr:OkR r):aA prog 165 [.c (.ptr 0 0),.c (.p (.s o)),.c (.p (.s t))] (aS r) λd h=>d=.tup [.agg (eI r o t).1.cv,.agg (eI r o t).2.1.cv,.c (.p (.i .i64 (eI r o t).2.2))]/\h=aS r:=by
 have h1:=iP (s:=o) hr;have h2:=iP (s:=t) hr;unfold eI;generalize bR r o=y1 at *;generalize bR r t=y2 at *;obtain⟨⟨ai,ap,aq,af⟩,e1⟩:=y1;obtain⟨⟨bi,bp,bq,bf⟩,e2⟩:=y2;simp only[Ly.cv] at *;clear hr;cases he:(e1==0)
 .have hb:(e1 != 0)=true:=by rw[bne,he];rfl
  simp only[Bool.not_false,if_true];clear h2;refine eT func165 λX0 hX=>?_;simp only[f165,go_sem]
  repeat' (first|exact⟨⟩|refine sp ?_|refine uS [0,1,2,3] (h1) ?_|((refine aG (id:=3) aD aL [3,4] [0,3,1,4,2,5] (by decide +kernel) ?_);(repeat' (first|(refine aO ?_)|((refine cR ?_ ?_ rfl rfl rfl ?_ ?_);(rotate_left 2);(focus ((repeat' (first|exact⟨⟩|refine sp ?_));((refine And.intro ?_ ?_<;>exact rfl))));(simp only[bE]))|((refine cQ ?_ rfl rfl rfl ?_ ?_);(rotate_left 1);(focus ((repeat' (first|exact bB|refine aR ?_ ?_));(all_goals ((repeat' (first|exact⟨⟩|refine sp ?_));(try (exact rfl))))));(simp only[aC]))))))
 .have hb:(e1 != 0)=false:=by rw[bne,he];rfl
  simp only[Bool.not_true,Bool.false_eq_true,if_false];cases he2:(e2==0)<;>cases af<;>cases bf
  all_goals simp only[Bool.not_true,Bool.not_false,Bool.or_true,Bool.or_false,Bool.and_true,Bool.and_false,Bool.false_eq_true,if_false,if_true]
  all_goals
   refine eT func165 λX0 hX=>?_;simp only[f165,go_sem]
   repeat' (first|exact⟨⟩|refine sq ?_|refine uS [0,1,2,3] (h1) ?_|refine uS [0,1,2,3] (h2) ?_|((refine aG (id:=7) aD aL [3,4] [0,3,1,4,2,5] (by decide +kernel) ?_);(repeat' (first|(refine aO ?_)|((refine cR ?_ ?_ rfl rfl rfl ?_ ?_);(rotate_left 2);(focus ((repeat' (first|exact⟨⟩|refine sp ?_));((refine And.intro ?_ ?_<;>exact rfl))));(simp only[bE]))|((refine cQ ?_ rfl rfl rfl ?_ ?_);(rotate_left 1);(focus ((repeat' (first|exact bB|refine aR ?_ ?_));(all_goals ((repeat' (first|exact⟨⟩|refine sp ?_));(try (exact rfl))))));(simp only[aC]))))))
end Go.Proofs.YtlbfnbldeefgmaaGreatDoor
end
section
namespace Go.Proofs.YtlbfnbldeefgmaaGreatDoor
open Go Go.Dm Go.Proofs.Tryz
theorem zAV(s:List UInt8):aA prog 376 [.c (.p (.s s))] [] λd h=>d=.c (.p (.b false))/\h=[]:=by
 refine eT Tryz.func376 λX0 hX=>?_;simp only[f376,go_sem]
 repeat' (first|exact⟨⟩|refine sp ?_)
 all_goals (first|(with_reducible rfl)|(simp_all[];done)|(simp_all[];omega)|(simp_all[];(repeat' split)<;>omega))
theorem zHb{a b:List UInt8}:aA prog 339 [.c (.p (.s a)),.c (.p (.s b))] [] λd h=>d=.c (.p (.i .i64 (CT a b)))/\h=[]:=by
 unfold CT;cases h1:bT a b<;>cases h2:(a==b)
 all_goals
  refine eT func339 λX0 hX=>?_;simp only[f339,go_sem]
 all_goals repeat' (first|exact⟨⟩|refine sp ?_|refine uF (zAV _) ?_)
 all_goals simp
theorem zGc{p q:List UInt8}{k m:Int}:aA prog 338 [.agg [.p (.s p),.p (.i .i64 k)],.agg [.p (.s q),.p (.i .i64 m)]] [] λr h=>r=.c (.p (.i .i64 (cfC ⟨p,k⟩ ⟨q,m⟩)))/\h=[]:=by
 unfold cfC;simp only;refine eT func338 λX0 hX=>?_;simp only[f338,go_sem]
 repeat' (first|exact⟨⟩|refine sp ?_|((refine aG (id:=1) aD aL [10,11] [0,1,2,3,4,5,6,7,8,9,10,11,12] (by decide +kernel) ?_);(repeat' (first|(refine aO ?_)|((refine cR ?_ ?_ rfl rfl rfl ?_ ?_);(rotate_left 2);(focus ((repeat' (first|exact⟨⟩|refine sp ?_|refine uF (zP6 _ _) ?_|((with_reducible apply aA.frz);exact rfl;exact rfl)|refine ai ?_));((refine And.intro ?_ ?_<;>exact rfl))));(simp only[aC]))|((refine cQ ?_ rfl rfl rfl ?_ ?_);(rotate_left 1);(focus ((repeat' (first|exact bB|refine aR ?_ ?_));(all_goals ((repeat' (first|exact⟨⟩|refine sp ?_|refine uF (zHb) ?_|refine uF (XP _ _) ?_));(try (exact rfl))))));(simp only[aC]))))))
theorem to_c{l:List Pr}{p:List UInt8}(hl:l.length<=1000000):aA prog 344 [.c (.p (.sl 2 (rJ l))),.c (.p (.s p))] [] λr h=>r=.tup [.c (.p (.s ((toF l p).getD []))),.c (.p (.b (toF l p).isSome))]/\h=[]:=by
 refine eT func344 λX0 hX=>?_;simp only[f344,go_sem]
 repeat' (first|exact⟨⟩|refine sp ?_)
 refine aY aD aL (α:=Nat) (λk=>⟨21,[(1,.c (.p (.s p))),(8,.c (.p (.sl 2 (rJ l)))),(9,.c (.p (.i .i64 l.length))),(10,.c (.p (.i .i64 k)))],[]⟩)
  (λk=>k<=l.length/\toF (l.drop k) p=toF l p) (λk=>l.length-k) 0 ⟨Nat.zero_le _,rfl⟩ (.inl (aF (by rw[hX];rfl) rfl rfl wkS)) ?_
 rintro k ⟨hk,hs⟩;by_cases hlt:k<l.length
 .have hx:l[k]?=some l[k]:=List.getElem?_eq_getElem hlt;have hg:=TU hx;have hd:=drop_at hx;have h1:decide ((k:Int)<(l.length:Int))=true:=decide_eq_true (by omega);have hli:(k:Int)<(l.length:Int):=by omega
  have hk0:(0:Int)<=k:=by omega
  have w1:IntKind.i64.wrap ((k:Int)+1)=k+1:=wrap_i64 (by omega) (by omega);generalize l[k]=x at hx hg hd;rw[hd,toF] at hs;cases hb:(x.a==p)
  .rw[hb,if_neg (by decide)] at hs;have hJ:k+1<=l.length/\toF (l.drop (k+1)) p=toF l p:=⟨by omega,hs⟩
   clear hs hd hx
   repeat' (first|exact⟨⟩|refine sp ?_)
   exact gZ (k+1) hJ (by omega) (aF rfl rfl rfl wkS)
  .rw[hb,if_pos rfl] at hs;rw[<- hs];clear hs hd hx
   repeat' (simp only[*,go_sem,Nat.reduceLT,Nat.reduceLeDiff,Nat.reduceEqDiff,↓reduceIte,Nat.reduceAdd,Option.getD_some,Option.isSome_some])
 .have h1:decide ((k:Int)<(l.length:Int))=false:=decide_eq_false (by omega);rw[List.drop_of_length_le (by omega),toF] at hs;rw[<- hs];clear hs
  repeat' (simp only[*,go_sem,Nat.reduceLT,Nat.reduceEqDiff,↓reduceIte,Option.getD_none,Option.isSome_none])
end Go.Proofs.YtlbfnbldeefgmaaGreatDoor
end
section
namespace Go.Dm
open Go
section
variable {P:Program}{T:Tab}{X0:Ctx}{Q:Exit->DS->Prop}
theorem zJg{α:Type}{I:α->DS}{J:α->Prop}{s:DS}(y:α)(i id off len i2 id2 off2 len2:Nat){x x2:PV}(h1:J y)(hl:look s.t i=.c (.own id off len))(hp:PT s.h (.own id off len)=some x)
  (hl2:look ((i,.c (.p x))::s.t) i2=.c (.own id2 off2 len2))(hp2:PT (rL s.h [id]) (.own id2 off2 len2)=some x2)
  (h3:DR X0.h.length ⟨s.n,(i2,.c (.p x2))::(i,.c (.p x))::s.t,rL (rL s.h [id]) [id2]⟩ (I y)):zBp P X0 I J Q .normal s :=
 ⟨y,h1,λ_ _ h=>ZQ i id off len hl hp (ZQ i2 id2 off2 len2 hl2 hp2 (ZR h3 h))⟩
end
end Go.Dm
end
section
namespace Go.Proofs.YtlbfnbldeefgmaaGreatDoor
open Go Go.Dm Go.Proofs Go.Proofs.Tryz
theorem zMt{h:aB}{id:Nat}{l:List Cf}(hid:h[id]?=some (.arr 2 (fO l) false))(hsz:l.length<4611686018427387904):
  aA prog 337 [.c (.own id 0 l.length),.c (.clo 338 [])] h λd h'=>d=.tup []/\h'=h.set id (.arr 2 (fO (CE l)) false):=by
 have:=lP (P:=prog) (f:=337) (g:=338) 2 (by decide) cfV zME
  (enters Tryz.func337 rfl rfl) (enters_of func338 (by kernel_rfl) rfl)
  (λenc hk h1 c hO blk off cap d w hcmp hH hblk hsz=>Tryz.slices_SortFunc_f337 2 Tryz.isAgg258 Tryz.sizeOf258 enc hk h1 c hO 338 #[] blk off cap d w (enters_of func338 (by kernel_rfl) rfl) hcmp hH hblk hsz)
  (λp cap fv w=>Tryz.slices_SortFunc_none_f337 (α:=Nat) p cap fv w)
  (h:=h) (i0:=id) (es:=fO l) (λx hx y hy=>by
   obtain⟨a,_,rfl⟩:=List.mem_map.1 hx;obtain⟨b,_,rfl⟩:=List.mem_map.1 hy;exact zGc) (zCA l) hid (by rw[xT];exact hsz)
 rw[zDw,xT] at this;exact this
theorem zJv{h:aB}{id n:Nat}{l:List Cf}{K:DV->aB->Prop}(hid:h[id]?=some (.arr 2 (fO l) false))(hsz:l.length<4611686018427387904)(hn:n=l.length)
  (hk:K (.c (.own id 0 l.length)) (h.set id (.arr 2 (fO (CE l)) false))):aA prog 280 [.c (.own id 0 n)] h K:=by
 subst hn;have hs:=zMt hid hsz;refine SB aD aL func280 rfl rfl λX0 hX=>?_;simp only[f280,go_sem]
 repeat' (first|exact⟨⟩|refine sp ?_)
 refine aA.mono hs ?_;rintro _ _ ⟨rfl,rfl⟩
 repeat' (first|exact⟨⟩|refine sp ?_)
end Go.Proofs.YtlbfnbldeefgmaaGreatDoor
end
