/- Part 38 of the proof of roomStays_card, set without needless blanks. No condition. -/
import Derived.Test.YtlbfnbldeefgmaaGreatDoorT36
import Derived.Test.YtlbfnbldeefgmaaGreatDoorT35
set_option linter.all false
set_option maxRecDepth 100000
set_option maxHeartbeats 16000000
section
namespace Go.Proofs.YtlbfnbldeefgmaaGreatDoor
open Go Go.Dm Go.Proofs Go.Proofs.Tryz
theorem zLX{p q:List UInt8}{k k' nk nk' nm nm':Int}{o o':Bool}{t t':Nat}{d d':List UInt8}:
  aA prog 193 [.agg [.p (.s p),.p (.i .i64 k),.p (.b o),.p (.i .i64 nk),.p (.i .i64 nm),.p (.f t),.p (.sl 1 (bJ d))],.agg [.p (.s q),.p (.i .i64 k'),.p (.b o'),.p (.i .i64 nk'),.p (.i .i64 nm'),.p (.f t'),.p (.sl 1 (bJ d'))]] [] λr h=>r=.c (.p (.i .i64 (CT p q)))/\h=[]:=by
 refine eT func193 λX0 hX=>?_;simp only[f193,go_sem]
 repeat' (first|exact⟨⟩|refine sp ?_|refine uF (lU) ?_)
theorem zMr{h:aB}{id:Nat}{l:List En}(hu:∀x∈l,∀y∈l,x.p=y.p->x=y)(hid:h[id]?=some (.arr 7 (gD l) false))(hsz:l.length<4611686018427387904):
  aA prog 192 [.c (.own id 0 l.length),.c (.clo 193 [])] h λd h'=>d=.tup []/\h'=h.set id (.arr 7 (gD (CF l)) false):=by
 have:=lP (P:=prog) (f:=192) (g:=193) 7 (by decide) cfI XC
  (enters Tryz.func192 rfl rfl) (enters_of func193 (by kernel_rfl) rfl)
  (λenc hk h1 c hO blk off cap d w hcmp hH hblk hsz=>Tryz.slices_SortFunc_f192 7 Tryz.isAgg75 Tryz.sizeOf75 enc hk h1 c hO 193 #[] blk off cap d w (enters_of func193 (by kernel_rfl) rfl) hcmp hH hblk hsz)
  (λp cap fv w=>Tryz.slices_SortFunc_none_f192 (α:=Nat) p cap fv w)
  (h:=h) (i0:=id) (es:=gD l) (λx hx y hy=>by
   obtain⟨a,_,rfl⟩:=List.mem_map.1 hx;obtain⟨b,_,rfl⟩:=List.mem_map.1 hy;exact zLX) (zCz hu) hid (by rw[HL];exact hsz)
 rw[zDs,HL] at this;exact this
theorem zMs{h:aB}{id n:Nat}{l:List En}{K:DV->aB->Prop}(hu:∀x∈l,∀y∈l,x.p=y.p->x=y)(hsz:l.length<4611686018427387904)(hn:n=l.length)(hid:h[id]?=some (.arr 7 (gD l) false))(hk:K (.tup []) (h.set id (.arr 7 (gD (CF l)) false))):
  aA prog 192 [.c (.own id 0 n),.c (.clo 193 [])] h K:=by
 subst hn;exact aA.mono (zMr hu hid hsz) (by rintro _ _ ⟨rfl,rfl⟩;exact hk)
def mP(t w:List It)(k:Nat):List En:=((t.take k).filter λy=>!(aN w y.p).isSome && !KS w (kO t w) y.p).map λy=>mA y.p
theorem VD{t w:List It}{k:Nat}{x:It}(h:t[k]?=some x):mP t w (k+1)=mP t w k++(if !(aN w x.p).isSome && !KS w (kO t w) x.p then [mA x.p] else []):=by
 unfold mP;rw[fG h,List.map_append];split<;>rfl
theorem zAM(t w:List It)(k:Nat):(mP t w k).length<=t.length:=by
 unfold mP;rw[List.length_map];have:=List.length_filter_le (λy:It=>!(aN w y.p).isSome && !KS w (kO t w) y.p) (t.take k);rw[List.length_take] at this;omega
theorem zLY{t w:List It}{k:Nat}(hk:t.length<=k):nR t w=jL t (kO t w) w++mP t w k:=by
 unfold mP;rw[List.take_of_length_le hk];rfl
theorem zIw(out:List En)(p:List UInt8):lG (gD out++[[.s p,.i .i64 2,.b false,.i .i64 0,.i .i64 0,.f 0,.nil]]) (gD (out++[mA p])):=by
 rw[<- XZ];exact GO (CR _) ⟨⟨.inl rfl,.inl rfl,.inl rfl,.inl rfl,.inl rfl,.inl rfl,.inr ⟨rfl,1,rfl⟩,True.intro⟩,True.intro⟩
theorem rU{t w:List It}(ht:OkT t)(hw:OkT w):
  aA prog 108 [.c (.p (.sl 5 (aQ t))),.c (.p (.sl 5 (aQ w)))] [] λr h=>r=.c (.p (.sl 7 (gD (eG t w))))/\h=[]:=by
 have htl:=ht.len;have hwl:=hw.len;have hsrt:=zER ht hw;have hinj:=NV ht hw;have hop:=λ(p:List UInt8) (hp:p.length<=1000000)=>YX (p:=p) ht hw hp;have hhi:=λ(p:List UInt8) (hp:p.length<=1000000)=>zIy (p:=p) ht hw hp;have hgt:=λ(p:List UInt8)=>eW (t:=t) (p:=p) (by omega) ht.srt ht.ne (λx hx=>Nat.le_trans (ht.dlen x hx) (by decide));have hgw:=λ(p:List UInt8)=>eW (t:=w) (p:=p) (by omega) hw.srt hw.ne (λx hx=>Nat.le_trans (hw.dlen x hx) (by decide));have hiB:=λ(x:It) (hx:x∈w)=>EZ (t:=t) hw hx;refine zO2 aD func108 rfl rfl λX0 hX=>?_;simp only[f108,go_sem];refine cC aD aL ?_
 repeat' (first|exact⟨⟩|refine sp ?_)
 refine cC aD aL ?_
 repeat' (first|exact⟨⟩|refine sp ?_)
 refine cC aD aL ?_
 repeat' (first|exact⟨⟩|refine sp ?_)
 refine iQ aD aL 6 7 rfl ?_;refine yL aD aL (α:=Unit) (λ_=>⟨97,[(0,.c (.p (.sl 5 (aQ t)))),(1,.c (.p (.sl 5 (aQ w)))),(5,.c (.ptr 0 0)),(6,.c (.own 1 0 (jL t (kO t w) w).length))],[.box [.p (.sl 5 (aQ t)),.p (.sl 5 (aQ w))],.arr 7 (gD (jL t (kO t w) w)) false]⟩) (λ_=>True) ?_ ?_
 .repeat' (first|exact⟨⟩|refine sp ?_)
  refine tN (α:=Nat × List En) (λx=>⟨97,[(0,.c (.p (.sl 5 (aQ t)))),(1,.c (.p (.sl 5 (aQ w)))),(5,.c (.ptr 0 0)),(19,.c (.p (.sl 5 (aQ w)))),(20,.c (.p (.i .i64 w.length))),(21,.c (.p (.i .i64 x.1))),(6,.c (.own 1 0 x.2.length))],[.box [.p (.sl 5 (aQ t)),.p (.sl 5 (aQ w))],.arr 7 (gD x.2) false]⟩)
   (λx=>x.1<=w.length/\jL t (kO t w) (w.take x.1)=x.2) (λx=>w.length-x.1) (0,[]) ⟨Nat.zero_le _,rfl⟩ (.inl (aF (by rw[hX];rfl) rfl rfl wkS)) ?_
  rintro ⟨k,out⟩ ⟨hk,hout⟩;simp only at hk hout;have hol:out.length<=120:=by
   have:=tZ t (kO t w) (w.take k);rw[hout,List.length_take] at this;omega
  by_cases hlt:k<w.length
  .have hx:w[k]?=some w[k]:=List.getElem?_eq_getElem hlt;have hg:=cZ hx;have hib:=hiB _ (List.getElem_mem hlt);have hxl:=hw.plen _ (List.getElem_mem hlt);have hxd:=hw.dlen _ (List.getElem_mem hlt);have hxt:=hw.tlen _ (List.getElem_mem hlt);have hnx:=zBo (t:=t) (os:=kO t w) hx;rw[hout] at hnx;have h1:decide ((k:Int)<(w.length:Int))=true:=decide_eq_true (by omega);have hli:(k:Int)<(w.length:Int):=by omega
   have hk0:(0:Int)<=k:=by omega
   have w1:IntKind.i64.wrap ((k:Int)+1)=k+1:=wrap_i64 (by omega) (by omega);have hgx:=hgt w[k].p;have hox:=hop w[k].p (by omega);have hot:=ht.gett w[k].p;generalize w[k]=x at hx hg hib hxl hxd hxt hnx hgx hox hot;clear hop hhi hgt hgw hiB hinj hsrt hout hx;unfold WK at hnx;generalize isB (kO t w) x.p=b at hib hnx;generalize pK t w x.p=om at hib hox;have hnd:=AW (x:=(aN t x.p).getD nd0) (y:=x.n) hot hxt;generalize (aN t x.p).isSome=is at hgx hnx;generalize (aN t x.p).getD nd0=n at hgx hnx hnd;obtain⟨xp,⟨xk,xm,xt,xd⟩⟩:=x;obtain⟨nk,nm,nt,nd⟩:=n;unfold Nd.cv at hgx;simp only at *;have hns:=qI (k:=nk) (m:=nm) (t:=nt) (d:=nd) (k':=xk) (m':=xm) (t':=xt) (d':=xd);rw[hnd] at hns;generalize lC ⟨nk,nm,nt,nd⟩ ⟨xk,xm,xt,xd⟩=sm at hns hnx;have hcp:=qW (k:=xk) (m:=xm) (t:=xt) (d:=xd) (by omega);have hb1:(out.length+1)*80<=140737488355328:=by omega
   have hb2:out.length+1<=9223372036854775807:=by omega
   refine cC aD aL ?_
   repeat' (first|exact⟨⟩|refine sp ?_)
   refine cC aD aL ?_
   repeat' (first|exact⟨⟩|refine sp ?_)
   refine uO ?_;refine cC aD aL ?_
   repeat' (first|exact⟨⟩|refine sp ?_)
   refine yL aD aL (α:=Unit) (λ_=>⟨97,[(0,.c (.p (.sl 5 (aQ t)))),(1,.c (.p (.sl 5 (aQ w)))),(5,.c (.ptr 0 0)),(19,.c (.p (.sl 5 (aQ w)))),(20,.c (.p (.i .i64 w.length))),(21,.c (.p (.i .i64 k))),(6,.c (.own 1 0 out.length)),(8,.c (.ptr 2 0)),(9,.c (.p (.b b)))],[.box [.p (.sl 5 (aQ t)),.p (.sl 5 (aQ w))],.arr 7 (gD out) false,.box [.p (.s xp),.p (.i .i64 xk),.p (.i .i64 xm),.p (.f xt),.p (.sl 1 (bJ xd))]]⟩) (λ_=>True) ?_ ?_
   .clear hnx hgx hns hcp;cases hk2:(xk==2)
    .rw[hk2,Bool.false_and] at hib;subst hib
     repeat' (first|exact⟨⟩|refine sp ?_)
     exact zO8 () trivial (aF (by first|rfl|(rw[hX];rfl)) rfl rfl wkS)
    .rw[hk2,Bool.true_and] at hib;subst hib
     repeat' (first|exact⟨⟩|refine sp ?_|refine uF (hox) ?_)
     exact zO8 () trivial (aF (by first|rfl|(rw[hX];rfl)) rfl rfl wkS)
   rintro - -;clear hox hib;by_cases hp:b=true∨is=false∨sm=false
   .have hnw:(if b=true then [(⟨xp,1,true,⟨xk,xm,xt,xd⟩⟩:En)] else if (!is || !sm)=true then [⟨xp,1,false,⟨xk,xm,xt,xd⟩⟩] else [])=[⟨xp,1,b,⟨xk,xm,xt,xd⟩⟩]:=by
     cases b
     .rcases hp with hp|rfl|rfl
      .cases hp
      .rfl
      .simp
     .rfl
    rw[hnw] at hnx;have hJ:k+1<=w.length/\jL t (kO t w) (w.take (k+1))=out++[⟨xp,1,b,⟨xk,xm,xt,xd⟩⟩]:=⟨by omega,hnx⟩
    have hP:=PLift.up hJ;clear hJ hnx hnw;refine jF aD aL ?_;cases b<;>cases is<;>cases sm
    case false.true.true=>exact absurd hp (by decide)
    all_goals clear hp
    all_goals repeat' (first|exact⟨⟩|refine sq ?_|refine uN (hgx) ?_|refine uF (hns) ?_|((refine aG (id:=9) aD aL [8,9] [1,2,3,4,5,6,7,8,0,9,10] (by decide +kernel) ?_);(repeat' (first|(refine aO ?_)|((refine cR ?_ ?_ rfl rfl rfl ?_ ?_);(rotate_left 2);(focus ((repeat' (first|exact⟨⟩|refine sp ?_|refine ai ?_));((refine And.intro ?_ ?_<;>exact rfl))));(simp only[aC]))|((refine cQ ?_ rfl rfl rfl ?_ ?_);(rotate_left 1);(focus ((repeat' (first|exact bB|refine aR ?_ ?_));(all_goals ((repeat' (first|exact⟨⟩|refine sp ?_|refine uN (hcp) ?_));(try (exact rfl))))));(simp only[aC]))))))
    all_goals refine jF aD aL ?_
    all_goals repeat' (first|exact⟨⟩|refine sp ?_)
    all_goals exact kV (k+1,out++[⟨xp,1,_,⟨xk,xm,xt,xd⟩⟩]) 1 5 hP.down (by simp only;omega) (by first|rfl|(rw[hX];rfl)) rfl (aF (by first|rfl|(rw[hX];rfl)) rfl rfl wkS)
   .have hb:b=false:=by cases b;rfl;exact absurd (.inl rfl) hp
    have hi:is=true:=by cases is;exact absurd (.inr (.inl rfl)) hp;rfl
    have hs:sm=true:=by cases sm;exact absurd (.inr (.inr rfl)) hp;rfl
    subst hb;subst hi;subst hs;have hJ:k+1<=w.length/\jL t (kO t w) (w.take (k+1))=out:=⟨by omega,by rw[hnx];simp⟩
    have hP:=PLift.up hJ;clear hJ hnx hp;refine jF aD aL ?_
    repeat' (first|exact⟨⟩|refine sq ?_|refine uN (hgx) ?_|refine uF (hns) ?_)
    refine jF aD aL ?_
    repeat' (first|exact⟨⟩|refine sp ?_)
    exact gZ (k+1,out) hP.down (by simp only;omega) (aF (by first|rfl|(rw[hX];rfl)) rfl rfl wkS)
  .have h1:decide ((k:Int)<(w.length:Int))=false:=decide_eq_false (by omega);rw[List.take_of_length_le (by omega)] at hout;clear hop hhi hgt hgw hiB hinj hsrt;have hP:=PLift.up hout;clear hout;refine cC aD aL ?_
   repeat' (first|exact⟨⟩|refine sp ?_)
   refine cC aD aL ?_
   repeat' (first|exact⟨⟩|refine sp ?_)
   exact zO8 () trivial (aF (by rw[hX];rfl) (by rw[<- hP.down];rfl) rfl (by simp[eB,gG,cK,bW,aT,hP.down]))
 rintro - -;generalize hpu:jL t (kO t w) w=pu;have hpl:pu.length<=120:=by
  have:=tZ t (kO t w) w;rw[hpu] at this;omega
 refine yL aD aL (α:=Unit) (λ_=>⟨97,[(6,.c (.own 1 0 (nR t w).length))],[.box [.p (.sl 5 (aQ t)),.p (.sl 5 (aQ w))],.arr 7 (gD (nR t w)) false]⟩) (λ_=>True) ?_ ?_
 .have hpu2:=PLift.up hpu;clear hpu
  repeat' (first|exact⟨⟩|refine sp ?_)
  refine tN (α:=Nat × List En) (λx=>⟨97,[(0,.c (.p (.sl 5 (aQ t)))),(1,.c (.p (.sl 5 (aQ w)))),(5,.c (.ptr 0 0)),(65,.c (.p (.sl 5 (aQ t)))),(66,.c (.p (.i .i64 t.length))),(67,.c (.p (.i .i64 x.1))),(6,.c (.own 1 0 x.2.length))],[.box [.p (.sl 5 (aQ t)),.p (.sl 5 (aQ w))],.arr 7 (gD x.2) false]⟩)
   (λx=>x.1<=t.length/\pu++mP t w x.1=x.2) (λx=>t.length-x.1) (0,pu) ⟨Nat.zero_le _,by simp[mP]⟩ (.inl (aF (by rw[hX];rfl) rfl rfl wkS)) ?_
  rintro ⟨k,out⟩ ⟨hk,hout⟩;simp only at hk hout;have hol:out.length<=240:=by
   rw[<- hout,List.length_append];have:=zAM t w k;omega
  by_cases hlt:k<t.length
  .have hx:t[k]?=some t[k]:=List.getElem?_eq_getElem hlt;have hg:=cZ hx;have hxl:=ht.plen _ (List.getElem_mem hlt);have hnx:=VD (w:=w) hx;have h1:decide ((k:Int)<(t.length:Int))=true:=decide_eq_true (by omega);have hli:(k:Int)<(t.length:Int):=by omega
   have hk0:(0:Int)<=k:=by omega
   have w1:IntKind.i64.wrap ((k:Int)+1)=k+1:=wrap_i64 (by omega) (by omega);have hgx:=hgw t[k].p;have hhx:=hhi t[k].p (by omega);generalize t[k]=x at hx hg hxl hnx hgx hhx;have hnx2:pu++mP t w (k+1)=out++(if !(aN w x.p).isSome && !KS w (kO t w) x.p then [mA x.p] else []):=by
    rw[hnx,<- hout,List.append_assoc]
   clear hop hhi hgt hgw hiB hinj hsrt hout hx hnx;generalize (aN w x.p).isSome=is at hgx hnx2;generalize KS w (kO t w) x.p=hid at hhx hnx2;generalize (aN w x.p).getD nd0=n at hgx;obtain⟨xp,⟨xk,xm,xt,xd⟩⟩:=x;obtain⟨nk,nm,nt,nd⟩:=n;unfold Nd.cv at hgx;simp only at *;have hb1:(out.length+1)*80<=140737488355328:=by omega
   have hb2:out.length+1<=9223372036854775807:=by omega
   refine cC aD aL ?_
   repeat' (first|exact⟨⟩|refine sp ?_)
   refine cC aD aL ?_
   repeat' (first|exact⟨⟩|refine sp ?_)
   refine uO ?_;refine cC aD aL ?_
   repeat' (first|exact⟨⟩|refine sp ?_)
   cases is
   .cases hid
    .have hJ:k+1<=t.length/\pu++mP t w (k+1)=out++[mA xp]:=⟨by omega,by rw[hnx2];rfl⟩
     have hP:=PLift.up hJ;clear hJ hnx2;refine jF aD aL ?_
     repeat' (first|exact⟨⟩|refine sq ?_|refine uN (hgx) ?_|refine uF (hhx) ?_|refine ai ?_)
     refine zMG 5 (gD (out++[mA xp])) rfl (zIw out xp) ?_;refine jF aD aL ?_
     repeat' (simp only[*,go_sem,Nat.reduceLT,Nat.reduceEqDiff,↓reduceIte,List.set_cons_succ,List.set_cons_zero])
     exact kV (k+1,out++[mA xp]) 1 5 hP.down (by simp only;omega) (by first|rfl|(rw[hX];rfl)) rfl (aF (by first|rfl|(rw[hX];rfl)) rfl rfl wkS)
    .have hJ:k+1<=t.length/\pu++mP t w (k+1)=out:=⟨by omega,by rw[hnx2];simp⟩
     have hP:=PLift.up hJ;clear hJ hnx2;refine jF aD aL ?_
     repeat' (first|exact⟨⟩|refine sq ?_|refine uN (hgx) ?_|refine uF (hhx) ?_)
     refine jF aD aL ?_
     repeat' (first|exact⟨⟩|refine sp ?_)
     exact gZ (k+1,out) hP.down (by simp only;omega) (aF (by first|rfl|(rw[hX];rfl)) rfl rfl wkS)
   .have hJ:k+1<=t.length/\pu++mP t w (k+1)=out:=⟨by omega,by rw[hnx2];simp⟩
    have hP:=PLift.up hJ;clear hJ hnx2;refine jF aD aL ?_
    repeat' (first|exact⟨⟩|refine sq ?_|refine uN (hgx) ?_)
    refine jF aD aL ?_
    repeat' (first|exact⟨⟩|refine sp ?_)
    exact gZ (k+1,out) hP.down (by simp only;omega) (aF (by first|rfl|(rw[hX];rfl)) rfl rfl wkS)
  .have h1:decide ((k:Int)<(t.length:Int))=false:=decide_eq_false (by omega);have hE:out=nR t w:=by rw[zLY (k:=k) (by omega),hpu2.down];exact hout.symm
   clear hop hhi hgt hgw hiB hinj hsrt;have hP:=PLift.up hE;clear hout hE;refine cC aD aL ?_
   repeat' (first|exact⟨⟩|refine sp ?_)
   refine cC aD aL ?_
   repeat' (first|exact⟨⟩|refine sp ?_)
   exact zO8 () trivial (aF (by rw[hX];rfl) (by rw[hP.down];rfl) rfl (by simp[eB,gG,cK,bW,aT,hP.down]))
 rintro - -;have hml:(nR t w).length<=1000:=by
  unfold nR YJ;rw[List.length_append,List.length_map,hpu];have:=List.length_filter_le (λy:It=>!(aN w y.p).isSome && !KS w (kO t w) y.p) t;omega
 have hsl:=zGa (nR t w);have hml2:(eG t w).length=(nR t w).length:=by rw[<- hsrt];exact hsl
 refine jF aD aL ?_
 repeat' (first|simp only[*,go_sem,Nat.reduceLT,Nat.reduceEqDiff,↓reduceIte,List.set_cons_succ,List.set_cons_zero]|refine zMs (id:=1) (l:=nR t w) hinj (by omega) rfl (by rfl) ?_)
 all_goals rw[List.take_of_length_le (by omega)]
theorem QL{r:Rm}{i p q:Int}{f:Bool}{t:List It}(hr:OkR r)(ht:OkT t)(hp:OkT (treeR r p)):
  aA prog 46 [.c (.ptr 0 0),.agg [.p (.i .i64 i),.p (.i .i64 p),.p (.i .i64 q),.p (.b f)],.c (.p (.sl 5 (aQ t)))] (aS r) λd h=>d=.tup []/\h=aS ⟨r.N,r.L,oI r.E i (eG (treeR r p) t),r.x⟩:=by
 have htr:=dK (a:=p) hr;have hmk:=rU hp ht;unfold aS at htr;generalize treeR r p=w at htr hmk ⊢;clear hr hp;refine eT func46 λX0 hX=>?_;simp only[f46,go_sem]
 repeat' (first|exact⟨⟩|refine sp ?_|((refine aG (id:=1) aD aL [12] [0,1,2,3,4,5,6,7,8,9,10,11,12] (by decide +kernel) ?_);(repeat' (first|(refine aO ?_)|((refine cR ?_ ?_ rfl rfl rfl ?_ ?_);(rotate_left 2);(focus ((repeat' (first|exact⟨⟩|refine sp ?_));((refine And.intro ?_ ?_<;>exact rfl))));(simp only[bE]))|((refine cQ ?_ rfl rfl rfl ?_ ?_);(rotate_left 1);(focus ((repeat' (first|exact bB|refine aR ?_ ?_));(all_goals ((repeat' (first|exact⟨⟩|refine sp ?_|refine uS [0,1,2,3] (htr) ?_|refine uN (hmk) ?_));(try (exact rfl))))));(simp only[aC]))))))
section
theorem zAk{a b:List UInt8}(ha:a.length<=100000)(hb:b.length<=100000):
  aA prog 247 [.c (.p (.sl 1 [[.sl 1 (bJ a)],[.sl 1 (bJ b)]]))] [] λr h=>r=.c (.own 0 0 (a.length+b.length))/\h=[.arr 1 (bJ (a++b)) false]:=by
 have w1:IntKind.i64.wrap ((a.length:Int))=a.length:=wrap_i64 (by omega) (by omega);have w2:IntKind.i64.wrap ((a.length:Int)+b.length)=((a.length+b.length:Nat):Int):=by rw[wrap_i64 (by omega) (by omega)];omega
 have h1:decide ((a.length:Int)<0)=false:=decide_eq_false (by omega);have h2:decide (((a.length+b.length:Nat):Int)<0)=false:=decide_eq_false (by omega);refine zPl aD aL func247 rfl rfl λX0 hX=>?_;simp only[f247,go_sem]
 repeat' (first|simp only[*,go_sem,Nat.reduceLT,Nat.reduceLeDiff,Nat.reduceEqDiff,↓reduceIte,Nat.reduceAdd,Int.reduceLT,Int.reduceLE,Int.reduceAdd,Int.reduceNeg,Int.reduceToNat,Int.zero_add]|refine dY aD aL 3 ?_|refine zAO (n:=a.length+b.length) (by omega) ?_|((with_reducible refine And.intro ?_ ?_);omega))
 all_goals exact⟨rfl,Nat.zero_le _,rfl,_,_,rfl,rfl,rfl⟩
section places
variable {t:List It}{p:List UInt8}{is:Bool}{k m:Int}{tt:Nat}{d:List UInt8}
theorem zN9{kind ck:Int}{cp cq:List UInt8}{cm:Int}{ct:Nat}{ca cn:Int}{cd:List UInt8}(h:OkT t)(hp:p.length<=1000000000)(hd:cd.length<=140737488355328)(ht:ct<18446744073709551616)(hkind:kind=1∨kind=2∨kind=3):
  aA prog 180 [.agg (plc t p is k m tt d),.c (.p (.i .i64 kind)),.agg (clc ck cp cq cm ct ca cn cd)] [] λr h =>
   r=.tup [.c (.p (.sl 5 (aQ (xI t p is kind ⟨ck,cp,cq,cm,ct,ca,cn,cd⟩).1))),.c (.p (.i .i64 (xI t p is kind ⟨ck,cp,cq,cm,ct,ca,cn,cd⟩).2))]/\h=[]:=by
 refine aI ?_;have hb:=sQ ht;have hz:decide (0<=Lib.indexByte cd (Nat.toUInt8 0)) = !(cd.all λb=>!(b==0)):=by
  have:=indexByte_none 0 cd;rw[<- this,<- decide_not];exact decide_eq_decide.2 (by rw[Int.not_lt];exact Iff.rfl)
 unfold xI zL7;rcases hkind with rfl|rfl|rfl
 .have hput:=iO (is:=is) (k:=k) (m:=m) (tt:=tt) (d:=d) (k':=1) (m':=cm) (tt':=dC ct) (d':=cd) h hp hd hb;generalize hP:wR t p ⟨1,cm,dC ct,cd⟩=P at hput;have e:wR t p ⟨1,if ((1:Int)==3)=true then 511 else cm,dC ct,if ((1:Int)==2)=true then [] else cd⟩=P:=hP;rw[e];cases is
  .cases hm:kX cm
   ·
    refine eT func180 λX0 hX=>?_;simp only[f180,go_sem]
    repeat' (first|exact⟨⟩|refine sq ?_|((refine aG (id:=1) aD aL [7,8] [7,0,1,2,3,4,5,6,8] (by decide +kernel) ?_);(repeat' (first|(refine aO ?_)|((refine cR ?_ ?_ rfl rfl rfl ?_ ?_);(rotate_left 2);(focus ((repeat' (first|exact⟨⟩|refine sp ?_));((refine And.intro ?_ ?_<;>exact rfl))));(simp only[aC,bE]))|((refine cQ ?_ rfl rfl rfl ?_ ?_);(rotate_left 1);(focus ((repeat' (first|exact bB|refine aR ?_ ?_));(all_goals ((repeat' (first|exact⟨⟩|refine sp ?_|refine uF (dD ct) ?_));(try (exact rfl))))));(simp only[aC])))))|refine uF (fI) ?_)
    all_goals exact .inr ⟨_,rfl⟩
   .cases hl:decide ((2000:Int)<(cd.length:Int))
    ·
     refine eT func180 λX0 hX=>?_;simp only[f180,go_sem]
     repeat' (first|exact⟨⟩|refine sq ?_|((refine aG (id:=1) aD aL [7,8] [7,0,1,2,3,4,5,6,8] (by decide +kernel) ?_);(repeat' (first|(refine aO ?_)|((refine cR ?_ ?_ rfl rfl rfl ?_ ?_);(rotate_left 2);(focus ((repeat' (first|exact⟨⟩|refine sp ?_));((refine And.intro ?_ ?_<;>exact rfl))));(simp only[aC,bE]))|((refine cQ ?_ rfl rfl rfl ?_ ?_);(rotate_left 1);(focus ((repeat' (first|exact bB|refine aR ?_ ?_));(all_goals ((repeat' (first|exact⟨⟩|refine sp ?_|refine uF (dD ct) ?_));(try (exact rfl))))));(simp only[aC])))))|refine uF (fI) ?_|refine uN (hput) ?_)
    ·
     refine eT func180 λX0 hX=>?_;simp only[f180,go_sem]
     repeat' (first|exact⟨⟩|refine sq ?_|((refine aG (id:=1) aD aL [7,8] [7,0,1,2,3,4,5,6,8] (by decide +kernel) ?_);(repeat' (first|(refine aO ?_)|((refine cR ?_ ?_ rfl rfl rfl ?_ ?_);(rotate_left 2);(focus ((repeat' (first|exact⟨⟩|refine sp ?_));((refine And.intro ?_ ?_<;>exact rfl))));(simp only[aC,bE]))|((refine cQ ?_ rfl rfl rfl ?_ ?_);(rotate_left 1);(focus ((repeat' (first|exact bB|refine aR ?_ ?_));(all_goals ((repeat' (first|exact⟨⟩|refine sp ?_|refine uF (dD ct) ?_));(try (exact rfl))))));(simp only[aC])))))|refine uF (fI) ?_)
     all_goals exact .inr ⟨_,rfl⟩
  ·
   refine eT func180 λX0 hX=>?_;simp only[f180,go_sem]
   repeat' (first|exact⟨⟩|refine sp ?_|((refine aG (id:=1) aD aL [7,8] [7,0,1,2,3,4,5,6,8] (by decide +kernel) ?_);(repeat' (first|(refine aO ?_)|((refine cR ?_ ?_ rfl rfl rfl ?_ ?_);(rotate_left 2);(focus ((repeat' (first|exact⟨⟩|refine sp ?_));((refine And.intro ?_ ?_<;>exact rfl))));(simp only[aC,bE]))|((refine cQ ?_ rfl rfl rfl ?_ ?_);(rotate_left 1);(focus ((repeat' (first|exact bB|refine aR ?_ ?_));(all_goals ((repeat' (first|exact⟨⟩|refine sp ?_|refine uF (dD ct) ?_));(try (exact rfl))))));(simp only[aC]))))))
   all_goals exact .inr ⟨_,rfl⟩
 .have hput:=iO (is:=is) (k:=k) (m:=m) (tt:=tt) (d:=d) (k':=2) (m':=cm) (tt':=dC ct) (d':=[]) h hp (by simp) hb;generalize hP:wR t p ⟨2,cm,dC ct,[]⟩=P at hput;have e:wR t p ⟨2,if ((2:Int)==3)=true then 511 else cm,dC ct,if ((2:Int)==2)=true then [] else cd⟩=P:=hP;rw[e];have hput:aA prog 242 [.agg (plc t p is k m tt d),.agg [.p (.i .i64 2),.p (.i .i64 cm),.p (.f (dC ct)),.p .nil]] [] λr h=>r=.tup [.c (.p (.sl 5 (aQ P.1))),.c (.p (.i .i64 P.2))]/\h=[]:=by
   refine aA.wkargs ?_ hput;simp[zGV,wkD,zGK,wkC,wkP,lQ]
  cases is
  .cases hm:kX cm
   ·
    refine eT func180 λX0 hX=>?_;simp only[f180,go_sem]
    repeat' (first|exact⟨⟩|refine sq ?_|((refine aG (id:=1) aD aL [7,8] [7,0,1,2,3,4,5,6,8] (by decide +kernel) ?_);(repeat' (first|(refine aO ?_)|((refine cR ?_ ?_ rfl rfl rfl ?_ ?_);(rotate_left 2);(focus ((repeat' (first|exact⟨⟩|refine sp ?_));((refine And.intro ?_ ?_<;>exact rfl))));(simp only[aC,bE]))|((refine cQ ?_ rfl rfl rfl ?_ ?_);(rotate_left 1);(focus ((repeat' (first|exact bB|refine aR ?_ ?_));(all_goals ((repeat' (first|exact⟨⟩|refine sp ?_|refine uF (dD ct) ?_));(try (exact rfl))))));(simp only[aC])))))|refine uF (fI) ?_)
    all_goals exact .inr ⟨_,rfl⟩
   ·
    refine eT func180 λX0 hX=>?_;simp only[f180,go_sem]
    repeat' (first|exact⟨⟩|refine sq ?_|((refine aG (id:=1) aD aL [7,8] [7,0,1,2,3,4,5,6,8] (by decide +kernel) ?_);(repeat' (first|(refine aO ?_)|((refine cR ?_ ?_ rfl rfl rfl ?_ ?_);(rotate_left 2);(focus ((repeat' (first|exact⟨⟩|refine sp ?_));((refine And.intro ?_ ?_<;>exact rfl))));(simp only[aC,bE]))|((refine cQ ?_ rfl rfl rfl ?_ ?_);(rotate_left 1);(focus ((repeat' (first|exact bB|refine aR ?_ ?_));(all_goals ((repeat' (first|exact⟨⟩|refine sp ?_|refine uF (dD ct) ?_));(try (exact rfl))))));(simp only[aC])))))|refine uF (fI) ?_|refine uN (hput) ?_)
  ·
   refine eT func180 λX0 hX=>?_;simp only[f180,go_sem]
   repeat' (first|exact⟨⟩|refine sp ?_|((refine aG (id:=1) aD aL [7,8] [7,0,1,2,3,4,5,6,8] (by decide +kernel) ?_);(repeat' (first|(refine aO ?_)|((refine cR ?_ ?_ rfl rfl rfl ?_ ?_);(rotate_left 2);(focus ((repeat' (first|exact⟨⟩|refine sp ?_));((refine And.intro ?_ ?_<;>exact rfl))));(simp only[aC,bE]))|((refine cQ ?_ rfl rfl rfl ?_ ?_);(rotate_left 1);(focus ((repeat' (first|exact bB|refine aR ?_ ?_));(all_goals ((repeat' (first|exact⟨⟩|refine sp ?_|refine uF (dD ct) ?_));(try (exact rfl))))));(simp only[aC]))))))
   all_goals exact .inr ⟨_,rfl⟩
 .have hput:=iO (is:=is) (k:=k) (m:=m) (tt:=tt) (d:=d) (k':=3) (m':=511) (tt':=dC ct) (d':=cd) h hp hd hb;generalize hP:wR t p ⟨3,511,dC ct,cd⟩=P at hput;have e:wR t p ⟨3,if ((3:Int)==3)=true then 511 else cm,dC ct,if ((3:Int)==2)=true then [] else cd⟩=P:=hP;rw[e];have hm:kX 511=true:=rfl;have hrm:=fI (m:=511);rw[hm] at hrm;cases is
  .cases cd with
   | nil =>
    refine eT func180 λX0 hX=>?_;simp only[f180,go_sem]
    repeat' (first|exact⟨⟩|refine sq ?_|((refine aG (id:=1) aD aL [7,8] [7,0,1,2,3,4,5,6,8] (by decide +kernel) ?_);(repeat' (first|(refine aO ?_)|((refine cR ?_ ?_ rfl rfl rfl ?_ ?_);(rotate_left 2);(focus ((repeat' (first|exact⟨⟩|refine sp ?_));((refine And.intro ?_ ?_<;>exact rfl))));(simp only[aC,bE]))|((refine cQ ?_ rfl rfl rfl ?_ ?_);(rotate_left 1);(focus ((repeat' (first|exact bB|refine aR ?_ ?_));(all_goals ((repeat' (first|exact⟨⟩|refine sp ?_|refine uF (dD ct) ?_));(try (exact rfl))))));(simp only[aC])))))|refine uF (hrm) ?_)
    all_goals exact .inr ⟨_,rfl⟩
   | cons x l =>
    have h1:decide (((l.length+1:Nat):Int)<1)=false:=decide_eq_false (by omega);have hib:=oB (d:=x::l) (c:=0) (by simp);rw[show Int.toNat 0=0 from rfl] at hib
    cases hl:decide ((120:Int)<((l.length+1:Nat):Int))
    .generalize ((x::l).all λb=>!(b==0))=q at hz ⊢;cases q
     ·
      refine eT func180 λX0 hX=>?_;simp only[f180,go_sem]
      repeat' (first|exact⟨⟩|refine sq ?_|((refine aG (id:=1) aD aL [7,8] [7,0,1,2,3,4,5,6,8] (by decide +kernel) ?_);(repeat' (first|(refine aO ?_)|((refine cR ?_ ?_ rfl rfl rfl ?_ ?_);(rotate_left 2);(focus ((repeat' (first|exact⟨⟩|refine sp ?_));((refine And.intro ?_ ?_<;>exact rfl))));(simp only[aC,bE]))|((refine cQ ?_ rfl rfl rfl ?_ ?_);(rotate_left 1);(focus ((repeat' (first|exact bB|refine aR ?_ ?_));(all_goals ((repeat' (first|exact⟨⟩|refine sp ?_|refine uF (dD ct) ?_));(try (exact rfl))))));(simp only[aC])))))|refine uF (hrm) ?_|refine uF (hib) ?_)
      all_goals exact .inr ⟨_,rfl⟩
     ·
      refine eT func180 λX0 hX=>?_;simp only[f180,go_sem]
      repeat' (first|exact⟨⟩|refine sq ?_|((refine aG (id:=1) aD aL [7,8] [7,0,1,2,3,4,5,6,8] (by decide +kernel) ?_);(repeat' (first|(refine aO ?_)|((refine cR ?_ ?_ rfl rfl rfl ?_ ?_);(rotate_left 2);(focus ((repeat' (first|exact⟨⟩|refine sp ?_));((refine And.intro ?_ ?_<;>exact rfl))));(simp only[aC,bE]))|((refine cQ ?_ rfl rfl rfl ?_ ?_);(rotate_left 1);(focus ((repeat' (first|exact bB|refine aR ?_ ?_));(all_goals ((repeat' (first|exact⟨⟩|refine sp ?_|refine uF (dD ct) ?_));(try (exact rfl))))));(simp only[aC])))))|refine uF (hrm) ?_|refine uF (hib) ?_|refine uN (hput) ?_)
    ·
     refine eT func180 λX0 hX=>?_;simp only[f180,go_sem]
     repeat' (first|exact⟨⟩|refine sq ?_|((refine aG (id:=1) aD aL [7,8] [7,0,1,2,3,4,5,6,8] (by decide +kernel) ?_);(repeat' (first|(refine aO ?_)|((refine cR ?_ ?_ rfl rfl rfl ?_ ?_);(rotate_left 2);(focus ((repeat' (first|exact⟨⟩|refine sp ?_));((refine And.intro ?_ ?_<;>exact rfl))));(simp only[aC,bE]))|((refine cQ ?_ rfl rfl rfl ?_ ?_);(rotate_left 1);(focus ((repeat' (first|exact bB|refine aR ?_ ?_));(all_goals ((repeat' (first|exact⟨⟩|refine sp ?_|refine uF (dD ct) ?_));(try (exact rfl))))));(simp only[aC])))))|refine uF (hrm) ?_)
     all_goals exact .inr ⟨_,rfl⟩
  ·
   refine eT func180 λX0 hX=>?_;simp only[f180,go_sem]
   repeat' (first|exact⟨⟩|refine sp ?_|((refine aG (id:=1) aD aL [7,8] [7,0,1,2,3,4,5,6,8] (by decide +kernel) ?_);(repeat' (first|(refine aO ?_)|((refine cR ?_ ?_ rfl rfl rfl ?_ ?_);(rotate_left 2);(focus ((repeat' (first|exact⟨⟩|refine sp ?_));((refine And.intro ?_ ?_<;>exact rfl))));(simp only[aC,bE]))|((refine cQ ?_ rfl rfl rfl ?_ ?_);(rotate_left 1);(focus ((repeat' (first|exact bB|refine aR ?_ ?_));(all_goals ((repeat' (first|exact⟨⟩|refine sp ?_|refine uF (dD ct) ?_));(try (exact rfl))))));(simp only[aC]))))))
   all_goals exact .inr ⟨_,rfl⟩
end places
end
end Go.Proofs.YtlbfnbldeefgmaaGreatDoor
end
