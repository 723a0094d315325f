/- Part 34 of the proof of roomMerges_card, set without needless blanks. No condition. -/
import Derived.Test.YtflcjdohmojepaaGreatDoorM32
set_option linter.all false
set_option maxRecDepth 100000
set_option maxHeartbeats 16000000
section
namespace Go.Proofs.YtflcjdohmojepaaGreatDoor
open Go Go.Dm Go.Proofs Go.Proofs.Tryz
theorem zMQ{t w:List It}{q p:List UInt8}{k m:Int}{tt:Nat}{d:List UInt8}(hw:OkT w)(hp:p.length<=1000000):
  aA prog 161 [.agg [.p (.s q),.p (.i .i64 k),.p (.i .i64 m),.p (.f tt),.p (.sl 1 (bU d))],.c (.ptr 0 0),.c (.ptr 1 0)] [.box [.p (.sl 5 (aS t)),.p (.sl 5 (aS w))],.box [.p (.s p)]]
   λr h=>r=.c (.p (.b (aO p q && (aM w q).isSome)))/\h=[.box [.p (.sl 5 (aS t)),.p (.sl 5 (aS w))],.box [.p (.s p)]]:=by
 have hwl:=hw.len;have hg:=eV (t:=w) (p:=q) (by omega) hw.srt hw.ne (λx hx=>Nat.le_trans (hw.dlen x hx) (by decide));generalize (aM w q).getD nd0=n at hg;generalize (aM w q).isSome=is at hg ⊢;obtain⟨nk,nm,nt,nd⟩:=n;unfold Nd.cv at hg;simp only at hg;refine eT func161 λX0 hX=>?_;simp only[f161,go_sem];cases is
 all_goals repeat' (first|simp only[*,go_sem,Nat.reduceLT,Nat.reduceLeDiff,Nat.reduceEqDiff,↓reduceIte,Nat.reduceAdd,bP,aJ]|refine uN (hg) ?_|refine uF (cQ (p:=p) (by omega)) ?_|refine aY (λ_=>?_) (λ_=>?_))
 all_goals simp_all
theorem zJC{t w:List It}{p:List UInt8}(hw:OkT w)(ht:t.length<=1000000)(hp:p.length<=1000000):
  aA prog 227 [.c (.p (.sl 5 (aS t))),.c (.clo 161 [.ptr 0 0,.ptr 1 0])] [.box [.p (.sl 5 (aS t)),.p (.sl 5 (aS w))],.box [.p (.s p)]]
   λr h=>(∃i:Int,r=.c (.p (.i .i64 i))/\decide (0<=i)=KZ t w p)/\h=[.box [.p (.sl 5 (aS t)),.p (.sl 5 (aS w))],.box [.p (.s p)]]:=by
 refine eT func227 λX0 hX=>?_;simp only[f227,go_sem]
 repeat' (first|exact⟨⟩|refine sp ?_)
 refine aP aF aN (α:=Nat) (λk=>⟨19,[(0,.c (.p (.sl 5 (aS t)))),(1,.c (.clo 161 [.ptr 0 0,.ptr 1 0])),(7,.c (.p (.i .i64 t.length))),(8,.c (.p (.i .i64 k)))],[.box [.p (.sl 5 (aS t)),.p (.sl 5 (aS w))],.box [.p (.s p)]]⟩)
  (λk=>k<=t.length/\(t.drop k).any (λy=>aO p y.p && (aM w y.p).isSome)=KZ t w p) (λk=>t.length-k) 0 ⟨Nat.zero_le _,rfl⟩ (.inl (aB (by rw[hX];rfl) rfl rfl wkS)) ?_
 rintro k ⟨hk,hs⟩;by_cases hlt:k<t.length
 .have hx:t[k]?=some t[k]:=List.getElem?_eq_getElem hlt;have hg:=bZ hx;have hd:=drop_at hx;have h1:decide ((k:Int)<(t.length:Int))=true:=decide_eq_true (by omega);have hli:(k:Int)<(t.length:Int):=by omega
  have hk0:(0:Int)<=k:=by omega
  have w1:IntKind.i64.wrap ((k:Int)+1)=k+1:=wrap_i64 (by omega) (by omega);generalize t[k]=x at hx hg hd;rw[hd,List.any_cons] at hs;have hc:=zMQ (t:=t) (w:=w) (q:=x.p) (p:=p) (k:=x.n.k) (m:=x.n.m) (tt:=x.n.t) (d:=x.n.d) hw hp;cases hb:(aO p x.p && (aM w x.p).isSome)
  .rw[hb,Bool.false_or] at hs;rw[hb] at hc;have hP:=PLift.up hs;clear hs hx hd hb
   repeat' (first|exact⟨⟩|refine sp ?_)
   refine aA.mono hc ?_;rintro _ _ ⟨rfl,rfl⟩
   repeat' (first|exact⟨⟩|refine sp ?_)
   exact dE (k+1) ⟨by omega,hP.down⟩ (by omega) (aB rfl rfl rfl wkS)
  .rw[hb,Bool.true_or] at hs;rw[hb] at hc;have hP:=PLift.up hs;clear hs hx hd hb
   repeat' (first|exact⟨⟩|refine sp ?_)
   refine aA.mono hc ?_;rintro _ _ ⟨rfl,rfl⟩
   repeat' (simp only[*,go_sem,Nat.reduceLT,Nat.reduceEqDiff,↓reduceIte,Int.reduceNeg,bP,aJ])
   exact⟨k,rfl,by rw[<- hP.down];exact decide_eq_true (by omega)⟩
 .have h1:decide ((k:Int)<(t.length:Int))=false:=decide_eq_false (by omega);rw[List.drop_of_length_le (by omega)] at hs;have hP:=PLift.up hs;clear hs
  repeat' (simp only[*,go_sem,Nat.reduceLT,Nat.reduceEqDiff,↓reduceIte,Nat.reduceAdd,Int.reduceNeg,bP,aJ])
  exact⟨-1,rfl,by rw[<- hP.down];rfl⟩
theorem zMR{t w:List It}{p:List UInt8}(hw:OkT w)(ht:t.length<=1000000)(hp:p.length<=1000000):
  aA prog 160 [.c (.p (.sl 5 (aS t))),.c (.clo 161 [.ptr 0 0,.ptr 1 0])] [.box [.p (.sl 5 (aS t)),.p (.sl 5 (aS w))],.box [.p (.s p)]]
   λr h=>r=.c (.p (.b (KZ t w p)))/\h=[.box [.p (.sl 5 (aS t)),.p (.sl 5 (aS w))],.box [.p (.s p)]]:=by
 refine eT func160 λX0 hX=>?_;simp only[f160,go_sem]
 repeat' (first|exact⟨⟩|refine sp ?_)
 refine aA.mono (zJC hw ht hp) ?_;rintro _ _ ⟨⟨i,rfl,hi⟩,rfl⟩;have hi2:decide (i>=0)=KZ t w p:=hi
 repeat' (simp only[*,go_sem,Nat.reduceLT,↓reduceIte,bP,aJ])
theorem zFI{t w:List It}{p:List UInt8}(hw:OkT w)(ht:t.length<=1000000)(hp:p.length<=1000000):
  aA prog 115 [.agg [.p (.sl 5 (aS t)),.p (.sl 5 (aS w))],.c (.p (.s p))] [] λr h=>r=.c (.p (.b (KZ t w p)))/\h=[]:=by
 refine eT func115 λX0 hX=>?_;simp only[f115,go_sem]
 repeat' (first|exact⟨⟩|refine sp ?_)
 refine aA.mono (zMR hw ht hp) ?_;rintro _ _ ⟨rfl,rfl⟩
 repeat' (first|exact⟨⟩|refine sp ?_)
theorem zAM{t w:List It}{p:List UInt8}(ht:OkT t)(hw:OkT w)(hp:p.length<=1000000):
  aA prog 66 [.agg [.p (.sl 5 (aS t)),.p (.sl 5 (aS w))],.c (.p (.s p))] [] λr h=>r=.c (.p (.b (sY t w p)))/\h=[]:=by
 have htl:=ht.len;have hwl:=hw.len;have h1:=eR (t:=t) (p:=p) (by omega) ht.srt;have h2:=eR (t:=w) (p:=p) (by omega) hw.srt;have h3:=LK (p:=p) ht;have h4:=zFI (t:=t) (w:=w) (p:=p) hw (by omega) hp;unfold sY;generalize bC t p=a at *;generalize bC w p=b at *;generalize KZ t w p=c at *;generalize hnn:iG t p=nn at *;have hge:decide ((nn.length:Int)>=2) = !decide ((nn.length:Int)<2):=by
  by_cases h:(nn.length:Int)<2
  .rw[decide_eq_true h,decide_eq_false (by omega)];rfl
  .rw[decide_eq_false h,decide_eq_true (by omega)];rfl
 have hle:decide (2<=(nn.length:Int)) = !decide ((nn.length:Int)<2):=hge;generalize decide ((nn.length:Int)<2)=d at *;refine eT func66 λX0 hX=>?_;simp only[f66,go_sem];cases a<;>cases b<;>cases c<;>cases d
 all_goals repeat' (first|exact⟨⟩|refine sq ?_|refine uF (h1) ?_|refine uF (h2) ?_|refine uN (h3) ?_|refine uF (h4) ?_)
 all_goals rfl
theorem zJp{t w:List It}{p:List UInt8}(ht:OkT t)(hw:OkT w)(hp:p.length<=1000000):
  aA prog 70 [.agg [.p (.sl 5 (aS t)),.p (.sl 5 (aS w))],.c (.p (.s p))] [] λr h=>r=.c (.p (.b (NG w (lD t w) p)))/\h=[]:=by
 have hdl:=zDX p;have hwl:=hw.len;refine eT func70 λX0 hX=>?_;simp only[f70,go_sem]
 repeat' (first|exact⟨⟩|refine sp ?_|refine uF (dV (p:=p) (by omega)) ?_)
 refine aP aF aN (α:=Nat × List UInt8) (λx=>⟨35,[(2,.c (.ptr 0 0)),(5,.c (.p (.s x.2)))],[.box [.p (.sl 5 (aS t)),.p (.sl 5 (aS w))]]⟩)
  (λx=>x.2.length<=x.1/\x.1<=p.length/\zHS w (lD t w) x.1 x.2=NG w (lD t w) p) (λx=>x.1) (p.length,aU p) ⟨hdl,Nat.le_refl _,rfl⟩ (.inl (aB (by rw[hX];rfl) rfl rfl wkS)) ?_
 rintro⟨n,q⟩ ⟨hq,hn,hc⟩;simp only at hq hn hc;cases hq0:(q == [])
 .have hq1:(q != [])=true:=by rw[bne,hq0];rfl
  have hqn:q≠[]:=by simpa using hq0
  obtain⟨n,rfl⟩:∃m,n=m+1:=⟨n-1,by have:=List.length_pos_iff.2 hqn;omega⟩
  have hdq:(aU q).length<=n:=by
   by_cases h:aU q=[]
   .rw[h];exact Nat.zero_le _
   .have:=uD h;omega
  rw[AL hqn,<- zOS hw hqn] at hc;have hg:=eV (t:=w) (p:=q) (by omega) hw.srt hw.ne (λx hx=>Nat.le_trans (hw.dlen x hx) (by decide));have hd:=eR (t:=w) (p:=q) (by omega) hw.srt;have ho:=zAM (p:=q) ht hw (by omega);unfold zQx at hc;generalize (aM w q).getD nd0=x at hg;generalize (aM w q).isSome=is at hg hc;generalize bC w q=dir at hd hc;generalize sY t w q=op at ho hc;obtain⟨nk,nm,nt,nd⟩:=x;unfold Nd.cv at hg;simp only at hg;cases is<;>cases dir<;>cases op
  all_goals simp only[Bool.not_true,Bool.not_false,Bool.or_true,Bool.or_false,if_true,Bool.false_eq_true,if_false] at hc
  case true.true.false =>
   have hC:=PLift.up hc;clear hc
   repeat' (first|exact⟨⟩|refine sq ?_|refine uN (hg) ?_|refine uF (hd) ?_|refine uF (ho) ?_|refine uF (dV (p:=q) (by omega)) ?_)
   exact dE (n,aU q) ⟨hdq,by simp only;omega,hC.down⟩ (by simp only;omega) (aB rfl rfl rfl wkS)
  all_goals rw[<- hc]
  all_goals clear hc
  all_goals repeat' (first|exact⟨⟩|refine sq ?_|refine uN (hg) ?_|refine uF (hd) ?_|refine uF (ho) ?_)
 .have hq1:(q != [])=false:=by rw[bne,hq0];rfl
  have hqn:q=[]:=eq_of_beq hq0;subst hqn;rw[zAd] at hc;rw[<- hc];clear hc
  repeat' (first|exact⟨⟩|refine sp ?_)
end Go.Proofs.YtflcjdohmojepaaGreatDoor
end
section
namespace Go.Dm
open Go
section
section
variable {P:Program}{T:Tab}{X0:Ctx}{Q:Exit->DS->Prop}
theorem zNF{c:Code}{s:DS}(id:Nat){k:Nat}{es:List (List PV)}(es':List (List PV))(hb:s.h[id]?=some (.arr k es false))(hw:lC es es')
  (h:SWP P X0 c ⟨s.n,s.t,s.h.set id (.arr k es' false)⟩ Q):SWP P X0 c s Q:=by
 intro gd X a hh hi hs ht;have h0:X.h[id]?=some (.arr k es false):=by rw[hh];exact hb
 have hlen:=hw.len;have hbl:=hi.blk id _ h0;have rf:=Step.refl hi;have st:Step X ⟨X.w,X.S,X.G,X.h.set id (.arr k es' false)⟩:=by
  refine⟨rf.size,rf.os,rf.tape,rf.output,rf.kept,by simp,λi db' hl hdb hlv=>?_,rf.frame,λi db g' hdb hl hf hg'=>?_,rf.upper⟩
  .rcases cG hdb with⟨rfl,rfl,_⟩|⟨hne,h'⟩
   .exact⟨_,h0,⟨rfl,by omega⟩,rfl,λg' hg'=>(hi.blk _ _ h0).same rfl g' hg'⟩
   .exact⟨db',h',cM.refl hlv,rfl,λg' hg'=>(hi.blk i db' h').same hlv g' hg'⟩
  .rcases cG hdb with⟨rfl,rfl,_⟩|⟨hne,h'⟩
   .exact .inr ⟨_,_,g',h0,rfl,rfl,hg',rfl⟩
   .exact .inr ⟨i,db,g',h',hl,hf,hg',rfl⟩
 have hi':HInv ⟨X.w,X.S,X.G,X.h.set id (.arr k es' false)⟩:=by
  refine⟨hi.slt,λi db hdb=>?_,λi db g' hdb hl hg'=>?_,λi db i' db' g1 g2 hdb hl hf hdb' hl' hg1 hg2 he=>?_⟩
  .rcases cG hdb with⟨rfl,rfl,_⟩|⟨hne,h'⟩
   .rcases hbl with⟨h1,h2⟩|⟨g,arr,el,fz,h1,h2,h3,h4,h5⟩
    .exact .inl ⟨h1,List.eq_nil_of_length_eq_zero (by rw[hlen,h2];rfl)⟩
    .exact .inr ⟨g,arr,el,fz,h1,h2,by rw[hlen];exact h3,h4,hw.relL h5⟩
   .exact(hi.blk i db h').move st rfl λ_ _=>rfl
  .rcases cG hdb with⟨rfl,rfl,_⟩|⟨hne,h'⟩
   .have:=hi.own _ (.arr k es false) g' h0 rfl hg';exact this
   .exact hi.own i db g' h' hl hg'
  .rcases cG hdb with⟨rfl,rfl,_⟩|⟨hne,h1'⟩<;>rcases cG hdb' with⟨rfl,rfl,_⟩|⟨hne',h2'⟩
   .rfl
   .exact hi.inj i _ i' db' g1 g2 h0 rfl rfl h2' hl' hg1 hg2 he
   .exact hi.inj i db i' _ g1 g2 h1' hl hf h0 rfl hg1 hg2 he
   .exact hi.inj i db i' db' g1 g2 h1' hl hf h2' hl' hg1 hg2 he
 exact h gd ⟨X.w,X.S,X.G,X.h.set id (.arr k es' false)⟩ a (by simp only[hh]) hi' (hs.trans hi st) ⟨ht.size,λj=>(ht.rel j).step st,ht.defs⟩
theorem VL:∀e:List PV,zK6 e e
 | []=>True.intro
 | _::e=>⟨.inl rfl,VL e⟩
theorem EB:∀e:List (List PV),lC e e
 | []=>True.intro
 | e::es=>⟨VL e,EB es⟩
theorem JG:∀{a b c d:List (List PV)},lC a b->lC c d->lC (a++c) (b++d)
 | [],[],_,_,_,h=>h
 | _::_,_::_,_,_,h1,h2=>⟨h1.1,JG h1.2 h2⟩
 | [],_::_,_,_,h,_=>h.elim
 | _::_,[],_,_,h,_=>h.elim
end
end
end Go.Dm
end
section
namespace Go.Proofs.YtflcjdohmojepaaGreatDoor
open Go Go.Dm Go.Proofs Go.Proofs.Tryz
theorem zMV{p q:List UInt8}{k k' nk nk' nm nm':Int}{o o':Bool}{t t':Nat}{d d':List UInt8}:
  aA prog 72 [.agg [.p (.s p),.p (.i .i64 k),.p (.b o),.p (.i .i64 nk),.p (.i .i64 nm),.p (.f t),.p (.sl 1 (bU d))],.agg [.p (.s q),.p (.i .i64 k'),.p (.b o'),.p (.i .i64 nk'),.p (.i .i64 nm'),.p (.f t'),.p (.sl 1 (bU d'))]] [] λr h=>r=.c (.p (.i .i64 (ED p q)))/\h=[]:=by
 refine eT func72 λX0 hX=>?_;simp only[f72,go_sem]
 repeat' (first|exact⟨⟩|refine sp ?_|refine uF (lV) ?_)
theorem zNs{h:aD}{id:Nat}{l:List En}(hu:∀x∈l,∀y∈l,x.p=y.p->x=y)(hid:h[id]?=some (.arr 7 (gG l) false))(hsz:l.length<4611686018427387904):
  aA prog 71 [.c (.own id 0 l.length),.c (.clo 72 [])] h λd h'=>d=.tup []/\h'=h.set id (.arr 7 (gG (FB l)) false):=by
 have:=lO (P:=prog) (f:=71) (g:=72) 7 (by decide) cfI ZF
  (enters Tryz.func71 rfl rfl) (enters_of func72 (by kernel_rfl) rfl)
  (λenc hk h1 c hO blk off cap d w hcmp hH hblk hsz=>Tryz.slices_SortFunc_f71 7 Tryz.isAgg135 Tryz.sizeOf135 enc hk h1 c hO 72 #[] blk off cap d w (enters_of func72 (by kernel_rfl) rfl) hcmp hH hblk hsz)
  (λp cap fv w=>Tryz.slices_SortFunc_none_f71 (α:=Nat) p cap fv w)
  (h:=h) (i0:=id) (es:=gG l) (λx hx y hy=>by
   obtain⟨a,_,rfl⟩:=List.mem_map.1 hx;obtain⟨b,_,rfl⟩:=List.mem_map.1 hy;exact zMV) (zDD hu) hid (by rw[KE];exact hsz)
 rw[zEu,KE] at this;exact this
theorem zNt{h:aD}{id n:Nat}{l:List En}{K:DV->aD->Prop}(hu:∀x∈l,∀y∈l,x.p=y.p->x=y)(hsz:l.length<4611686018427387904)(hn:n=l.length)(hid:h[id]?=some (.arr 7 (gG l) false))(hk:K (.tup []) (h.set id (.arr 7 (gG (FB l)) false))):
  aA prog 71 [.c (.own id 0 n),.c (.clo 72 [])] h K:=by
 subst hn;exact aA.mono (zNs hu hid hsz) (by rintro _ _ ⟨rfl,rfl⟩;exact hk)
def mR(t w:List It)(k:Nat):List En:=((t.take k).filter λy=>!(aM w y.p).isSome && !NG w (lD t w) y.p).map λy=>mB y.p
theorem XD{t w:List It}{k:Nat}{x:It}(h:t[k]?=some x):mR t w (k+1)=mR t w k++(if !(aM w x.p).isSome && !NG w (lD t w) x.p then [mB x.p] else []):=by
 unfold mR;rw[fJ h,List.map_append];split<;>rfl
theorem zBR(t w:List It)(k:Nat):(mR t w k).length<=t.length:=by
 unfold mR;rw[List.length_map];have:=List.length_filter_le (λy:It=>!(aM w y.p).isSome && !NG w (lD t w) y.p) (t.take k);rw[List.length_take] at this;omega
theorem zMW{t w:List It}{k:Nat}(hk:t.length<=k):oE t w=jE t (lD t w) w++mR t w k:=by
 unfold mR;rw[List.take_of_length_le hk];rfl
theorem zJn(out:List En)(p:List UInt8):lC (gG out++[[.s p,.i .i64 2,.b false,.i .i64 0,.i .i64 0,.f 0,.nil]]) (gG (out++[mB p])):=by
 rw[<- zAj];exact JG (EB _) ⟨⟨.inl rfl,.inl rfl,.inl rfl,.inl rfl,.inl rfl,.inl rfl,.inr ⟨rfl,1,rfl⟩,True.intro⟩,True.intro⟩
theorem oB{t w:List It}(ht:OkT t)(hw:OkT w):
  aA prog 21 [.c (.p (.sl 5 (aS t))),.c (.p (.sl 5 (aS w)))] [] λr h=>r=.c (.p (.sl 7 (gG (eF t w))))/\h=[]:=by
 have htl:=ht.len;have hwl:=hw.len;have hsrt:=zFS ht hw;have hinj:=RH ht hw;have hop:=λ(p:List UInt8) (hp:p.length<=1000000)=>zAM (p:=p) ht hw hp;have hhi:=λ(p:List UInt8) (hp:p.length<=1000000)=>zJp (p:=p) ht hw hp;have hgt:=λ(p:List UInt8)=>eV (t:=t) (p:=p) (by omega) ht.srt ht.ne (λx hx=>Nat.le_trans (ht.dlen x hx) (by decide));have hgw:=λ(p:List UInt8)=>eV (t:=w) (p:=p) (by omega) hw.srt hw.ne (λx hx=>Nat.le_trans (hw.dlen x hx) (by decide));have hiB:=λ(x:It) (hx:x∈w)=>GR (t:=t) hw hx;refine zOO aF func21 rfl rfl λX0 hX=>?_;simp only[f21,go_sem];refine bE aF aN ?_
 repeat' (first|exact⟨⟩|refine sp ?_)
 refine bE aF aN ?_
 repeat' (first|exact⟨⟩|refine sp ?_)
 refine bE aF aN ?_
 repeat' (first|exact⟨⟩|refine sp ?_)
 refine dQ aF aN 6 7 rfl ?_;refine oN aF aN (α:=Unit) (λ_=>⟨97,[(0,.c (.p (.sl 5 (aS t)))),(1,.c (.p (.sl 5 (aS w)))),(5,.c (.ptr 0 0)),(6,.c (.own 1 0 (jE t (lD t w) w).length))],[.box [.p (.sl 5 (aS t)),.p (.sl 5 (aS w))],.arr 7 (gG (jE t (lD t w) w)) false]⟩) (λ_=>True) ?_ ?_
 .repeat' (first|exact⟨⟩|refine sp ?_)
  refine pS (α:=Nat × List En) (λx=>⟨97,[(0,.c (.p (.sl 5 (aS t)))),(1,.c (.p (.sl 5 (aS w)))),(5,.c (.ptr 0 0)),(19,.c (.p (.sl 5 (aS w)))),(20,.c (.p (.i .i64 w.length))),(21,.c (.p (.i .i64 x.1))),(6,.c (.own 1 0 x.2.length))],[.box [.p (.sl 5 (aS t)),.p (.sl 5 (aS w))],.arr 7 (gG x.2) false]⟩)
   (λx=>x.1<=w.length/\jE t (lD t w) (w.take x.1)=x.2) (λx=>w.length-x.1) (0,[]) ⟨Nat.zero_le _,rfl⟩ (.inl (aB (by rw[hX];rfl) rfl rfl wkS)) ?_
  rintro ⟨k,out⟩ ⟨hk,hout⟩;simp only at hk hout;have hol:out.length<=120:=by
   have:=uX t (lD t w) (w.take k);rw[hout,List.length_take] at this;omega
  by_cases hlt:k<w.length
  .have hx:w[k]?=some w[k]:=List.getElem?_eq_getElem hlt;have hg:=bZ hx;have hib:=hiB _ (List.getElem_mem hlt);have hxl:=hw.plen _ (List.getElem_mem hlt);have hxd:=hw.dlen _ (List.getElem_mem hlt);have hxt:=hw.tlen _ (List.getElem_mem hlt);have hnx:=zCm (t:=t) (os:=lD t w) hx;rw[hout] at hnx;have h1:decide ((k:Int)<(w.length:Int))=true:=decide_eq_true (by omega);have hli:(k:Int)<(w.length:Int):=by omega
   have hk0:(0:Int)<=k:=by omega
   have w1:IntKind.i64.wrap ((k:Int)+1)=k+1:=wrap_i64 (by omega) (by omega);have hgx:=hgt w[k].p;have hox:=hop w[k].p (by omega);have hot:=ht.gett w[k].p;generalize w[k]=x at hx hg hib hxl hxd hxt hnx hgx hox hot;clear hop hhi hgt hgw hiB hinj hsrt hout hx;unfold YG at hnx;generalize isB (lD t w) x.p=b at hib hnx;generalize sY t w x.p=om at hib hox;have hnd:=mU (x:=(aM t x.p).getD nd0) (y:=x.n) hot hxt;generalize (aM t x.p).isSome=is at hgx hnx;generalize (aM t x.p).getD nd0=n at hgx hnx hnd;obtain⟨xp,⟨xk,xm,xt,xd⟩⟩:=x;obtain⟨nk,nm,nt,nd⟩:=n;unfold Nd.cv at hgx;simp only at *;have hns:=rG (k:=nk) (m:=nm) (t:=nt) (d:=nd) (k':=xk) (m':=xm) (t':=xt) (d':=xd);rw[hnd] at hns;generalize cH ⟨nk,nm,nt,nd⟩ ⟨xk,xm,xt,xd⟩=sm at hns hnx;have hcp:=rW (k:=xk) (m:=xm) (t:=xt) (d:=xd) (by omega);have hb1:(out.length+1)*80<=140737488355328:=by omega
   have hb2:out.length+1<=9223372036854775807:=by omega
   refine bE aF aN ?_
   repeat' (first|exact⟨⟩|refine sp ?_)
   refine bE aF aN ?_
   repeat' (first|exact⟨⟩|refine sp ?_)
   refine iB ?_;refine bE aF aN ?_
   repeat' (first|exact⟨⟩|refine sp ?_)
   refine oN aF aN (α:=Unit) (λ_=>⟨97,[(0,.c (.p (.sl 5 (aS t)))),(1,.c (.p (.sl 5 (aS w)))),(5,.c (.ptr 0 0)),(19,.c (.p (.sl 5 (aS w)))),(20,.c (.p (.i .i64 w.length))),(21,.c (.p (.i .i64 k))),(6,.c (.own 1 0 out.length)),(8,.c (.ptr 2 0)),(9,.c (.p (.b b)))],[.box [.p (.sl 5 (aS t)),.p (.sl 5 (aS w))],.arr 7 (gG out) false,.box [.p (.s xp),.p (.i .i64 xk),.p (.i .i64 xm),.p (.f xt),.p (.sl 1 (bU xd))]]⟩) (λ_=>True) ?_ ?_
   .clear hnx hgx hns hcp;cases hk2:(xk==2)
    .rw[hk2,Bool.false_and] at hib;subst hib
     repeat' (first|exact⟨⟩|refine sp ?_)
     exact zOd () trivial (aB (by first|rfl|(rw[hX];rfl)) rfl rfl wkS)
    .rw[hk2,Bool.true_and] at hib;subst hib
     repeat' (first|exact⟨⟩|refine sp ?_|refine uF (hox) ?_)
     exact zOd () trivial (aB (by first|rfl|(rw[hX];rfl)) rfl rfl wkS)
   rintro - -;clear hox hib;by_cases hp:b=true∨is=false∨sm=false
   .have hnw:(if b=true then [(⟨xp,1,true,⟨xk,xm,xt,xd⟩⟩:En)] else if (!is || !sm)=true then [⟨xp,1,false,⟨xk,xm,xt,xd⟩⟩] else [])=[⟨xp,1,b,⟨xk,xm,xt,xd⟩⟩]:=by
     cases b
     .rcases hp with hp|rfl|rfl
      .cases hp
      .rfl
      .simp
     .rfl
    rw[hnw] at hnx;have hJ:k+1<=w.length/\jE t (lD t w) (w.take (k+1))=out++[⟨xp,1,b,⟨xk,xm,xt,xd⟩⟩]:=⟨by omega,hnx⟩
    have hP:=PLift.up hJ;clear hJ hnx hnw;refine fE aF aN ?_;cases b<;>cases is<;>cases sm
    case false.true.true=>exact absurd hp (by decide)
    all_goals clear hp
    all_goals repeat' (first|exact⟨⟩|refine sq ?_|refine uN (hgx) ?_|refine uF (hns) ?_|((refine aG (id:=9) aF aN [8,9] [1,2,3,4,5,6,7,8,0,9,10] (by decide +kernel) ?_);(repeat' (first|(refine aT ?_)|((refine cK ?_ ?_ rfl rfl rfl ?_ ?_);(rotate_left 2);(focus ((repeat' (first|exact⟨⟩|refine sp ?_|refine ai ?_));((refine And.intro ?_ ?_<;>exact rfl))));(simp only[aC]))|((refine cJ ?_ rfl rfl rfl ?_ ?_);(rotate_left 1);(focus ((repeat' (first|exact bA|refine aW ?_ ?_));(all_goals ((repeat' (first|exact⟨⟩|refine sp ?_|refine uN (hcp) ?_));(try (exact rfl))))));(simp only[aC]))))))
    all_goals refine fE aF aN ?_
    all_goals repeat' (first|exact⟨⟩|refine sp ?_)
    all_goals exact dN (k+1,out++[⟨xp,1,_,⟨xk,xm,xt,xd⟩⟩]) 1 5 hP.down (by simp only;omega) (by first|rfl|(rw[hX];rfl)) rfl (aB (by first|rfl|(rw[hX];rfl)) rfl rfl wkS)
   .have hb:b=false:=by cases b;rfl;exact absurd (.inl rfl) hp
    have hi:is=true:=by cases is;exact absurd (.inr (.inl rfl)) hp;rfl
    have hs:sm=true:=by cases sm;exact absurd (.inr (.inr rfl)) hp;rfl
    subst hb;subst hi;subst hs;have hJ:k+1<=w.length/\jE t (lD t w) (w.take (k+1))=out:=⟨by omega,by rw[hnx];simp⟩
    have hP:=PLift.up hJ;clear hJ hnx hp;refine fE aF aN ?_
    repeat' (first|exact⟨⟩|refine sq ?_|refine uN (hgx) ?_|refine uF (hns) ?_)
    refine fE aF aN ?_
    repeat' (first|exact⟨⟩|refine sp ?_)
    exact dE (k+1,out) hP.down (by simp only;omega) (aB (by first|rfl|(rw[hX];rfl)) rfl rfl wkS)
  .have h1:decide ((k:Int)<(w.length:Int))=false:=decide_eq_false (by omega);rw[List.take_of_length_le (by omega)] at hout;clear hop hhi hgt hgw hiB hinj hsrt;have hP:=PLift.up hout;clear hout;refine bE aF aN ?_
   repeat' (first|exact⟨⟩|refine sp ?_)
   refine bE aF aN ?_
   repeat' (first|exact⟨⟩|refine sp ?_)
   exact zOd () trivial (aB (by rw[hX];rfl) (by rw[<- hP.down];rfl) rfl (by simp[aQ,aX,aI,aL,aJ,hP.down]))
 rintro - -;generalize hpu:jE t (lD t w) w=pu;have hpl:pu.length<=120:=by
  have:=uX t (lD t w) w;rw[hpu] at this;omega
 refine oN aF aN (α:=Unit) (λ_=>⟨97,[(6,.c (.own 1 0 (oE t w).length))],[.box [.p (.sl 5 (aS t)),.p (.sl 5 (aS w))],.arr 7 (gG (oE t w)) false]⟩) (λ_=>True) ?_ ?_
 .have hpu2:=PLift.up hpu;clear hpu
  repeat' (first|exact⟨⟩|refine sp ?_)
  refine pS (α:=Nat × List En) (λx=>⟨97,[(0,.c (.p (.sl 5 (aS t)))),(1,.c (.p (.sl 5 (aS w)))),(5,.c (.ptr 0 0)),(65,.c (.p (.sl 5 (aS t)))),(66,.c (.p (.i .i64 t.length))),(67,.c (.p (.i .i64 x.1))),(6,.c (.own 1 0 x.2.length))],[.box [.p (.sl 5 (aS t)),.p (.sl 5 (aS w))],.arr 7 (gG x.2) false]⟩)
   (λx=>x.1<=t.length/\pu++mR t w x.1=x.2) (λx=>t.length-x.1) (0,pu) ⟨Nat.zero_le _,by simp[mR]⟩ (.inl (aB (by rw[hX];rfl) rfl rfl wkS)) ?_
  rintro ⟨k,out⟩ ⟨hk,hout⟩;simp only at hk hout;have hol:out.length<=240:=by
   rw[<- hout,List.length_append];have:=zBR t w k;omega
  by_cases hlt:k<t.length
  .have hx:t[k]?=some t[k]:=List.getElem?_eq_getElem hlt;have hg:=bZ hx;have hxl:=ht.plen _ (List.getElem_mem hlt);have hnx:=XD (w:=w) hx;have h1:decide ((k:Int)<(t.length:Int))=true:=decide_eq_true (by omega);have hli:(k:Int)<(t.length:Int):=by omega
   have hk0:(0:Int)<=k:=by omega
   have w1:IntKind.i64.wrap ((k:Int)+1)=k+1:=wrap_i64 (by omega) (by omega);have hgx:=hgw t[k].p;have hhx:=hhi t[k].p (by omega);generalize t[k]=x at hx hg hxl hnx hgx hhx;have hnx2:pu++mR t w (k+1)=out++(if !(aM w x.p).isSome && !NG w (lD t w) x.p then [mB x.p] else []):=by
    rw[hnx,<- hout,List.append_assoc]
   clear hop hhi hgt hgw hiB hinj hsrt hout hx hnx;generalize (aM w x.p).isSome=is at hgx hnx2;generalize NG w (lD t w) x.p=hid at hhx hnx2;generalize (aM w x.p).getD nd0=n at hgx;obtain⟨xp,⟨xk,xm,xt,xd⟩⟩:=x;obtain⟨nk,nm,nt,nd⟩:=n;unfold Nd.cv at hgx;simp only at *;have hb1:(out.length+1)*80<=140737488355328:=by omega
   have hb2:out.length+1<=9223372036854775807:=by omega
   refine bE aF aN ?_
   repeat' (first|exact⟨⟩|refine sp ?_)
   refine bE aF aN ?_
   repeat' (first|exact⟨⟩|refine sp ?_)
   refine iB ?_;refine bE aF aN ?_
   repeat' (first|exact⟨⟩|refine sp ?_)
   cases is
   .cases hid
    .have hJ:k+1<=t.length/\pu++mR t w (k+1)=out++[mB xp]:=⟨by omega,by rw[hnx2];rfl⟩
     have hP:=PLift.up hJ;clear hJ hnx2;refine fE aF aN ?_
     repeat' (first|exact⟨⟩|refine sq ?_|refine uN (hgx) ?_|refine uF (hhx) ?_|refine ai ?_)
     refine zNF 5 (gG (out++[mB xp])) rfl (zJn out xp) ?_;refine fE aF aN ?_
     repeat' (simp only[*,go_sem,Nat.reduceLT,Nat.reduceEqDiff,↓reduceIte,List.set_cons_succ,List.set_cons_zero])
     exact dN (k+1,out++[mB xp]) 1 5 hP.down (by simp only;omega) (by first|rfl|(rw[hX];rfl)) rfl (aB (by first|rfl|(rw[hX];rfl)) rfl rfl wkS)
    .have hJ:k+1<=t.length/\pu++mR t w (k+1)=out:=⟨by omega,by rw[hnx2];simp⟩
     have hP:=PLift.up hJ;clear hJ hnx2;refine fE aF aN ?_
     repeat' (first|exact⟨⟩|refine sq ?_|refine uN (hgx) ?_|refine uF (hhx) ?_)
     refine fE aF aN ?_
     repeat' (first|exact⟨⟩|refine sp ?_)
     exact dE (k+1,out) hP.down (by simp only;omega) (aB (by first|rfl|(rw[hX];rfl)) rfl rfl wkS)
   .have hJ:k+1<=t.length/\pu++mR t w (k+1)=out:=⟨by omega,by rw[hnx2];simp⟩
    have hP:=PLift.up hJ;clear hJ hnx2;refine fE aF aN ?_
    repeat' (first|exact⟨⟩|refine sq ?_|refine uN (hgx) ?_)
    refine fE aF aN ?_
    repeat' (first|exact⟨⟩|refine sp ?_)
    exact dE (k+1,out) hP.down (by simp only;omega) (aB (by first|rfl|(rw[hX];rfl)) rfl rfl wkS)
  .have h1:decide ((k:Int)<(t.length:Int))=false:=decide_eq_false (by omega);have hE:out=oE t w:=by rw[zMW (k:=k) (by omega),hpu2.down];exact hout.symm
   clear hop hhi hgt hgw hiB hinj hsrt;have hP:=PLift.up hE;clear hout hE;refine bE aF aN ?_
   repeat' (first|exact⟨⟩|refine sp ?_)
   refine bE aF aN ?_
   repeat' (first|exact⟨⟩|refine sp ?_)
   exact zOd () trivial (aB (by rw[hX];rfl) (by rw[hP.down];rfl) rfl (by simp[aQ,aX,aI,aL,aJ,hP.down]))
 rintro - -;have hml:(oE t w).length<=1000:=by
  unfold oE zAs;rw[List.length_append,List.length_map,hpu];have:=List.length_filter_le (λy:It=>!(aM w y.p).isSome && !NG w (lD t w) y.p) t;omega
 have hsl:=zG4 (oE t w);have hml2:(eF t w).length=(oE t w).length:=by rw[<- hsrt];exact hsl
 refine fE aF aN ?_
 repeat' (first|simp only[*,go_sem,Nat.reduceLT,Nat.reduceEqDiff,↓reduceIte,List.set_cons_succ,List.set_cons_zero]|refine zNt (id:=1) (l:=oE t w) hinj (by omega) rfl (by rfl) ?_)
 all_goals rw[List.take_of_length_le (by omega)]
end Go.Proofs.YtflcjdohmojepaaGreatDoor
end
section
namespace Go.Dm
open Go
def TM(x y:En):Bool:=x.p==y.p && (x.k==y.k && (x.o==y.o && mT x.n y.n))
def nB:List En->List En->Bool
 | [],[]=>true
 | x::a,y::b=>TM x y && nB a b
 | _,_=>false
theorem YW{a b:List En}{k:Nat}{x y:En}(ha:a[k]?=some x)(hb:b[k]?=some y):nB (a.drop k) (b.drop k)=(TM x y && nB (a.drop (k+1)) (b.drop (k+1))):=by
 obtain⟨h1,rfl⟩:=List.getElem?_eq_some_iff.1 ha;obtain⟨h2,rfl⟩:=List.getElem?_eq_some_iff.1 hb;rw[List.drop_eq_getElem_cons h1,List.drop_eq_getElem_cons h2,nB]
theorem HN:∀{a b:List En},a.length≠b.length->nB a b=false
 | [],[],h=>absurd rfl h
 | [],_::_,_=>rfl
 | _::_,[],_=>rfl
 | x::a,y::b,h=>by
  rw[nB,HN (a:=a) (b:=b) λe=>h (by simp[e]),Bool.and_false]
theorem DH:∀{a:List En},(∀x∈a,x.n.wf)->nB a a=true
 | [],_=>rfl
 | x::a,h=>by
  rw[nB,DH λy hy=>h y (List.mem_cons_of_mem _ hy),TM,sV (h x List.mem_cons_self)];simp
end Go.Dm
end
section
namespace Go.Proofs.YtflcjdohmojepaaGreatDoor
open Go Go.Dm Go.Proofs Go.Proofs.Tryz
theorem zKt{p q:List UInt8}{k k' nk nk' nm nm':Int}{o o':Bool}{t t':Nat}{d d':List UInt8}:
  aA prog 111 [.agg [.p (.s p),.p (.i .i64 k),.p (.b o),.p (.i .i64 nk),.p (.i .i64 nm),.p (.f t),.p (.sl 1 (bU d))],.agg [.p (.s q),.p (.i .i64 k'),.p (.b o'),.p (.i .i64 nk'),.p (.i .i64 nm'),.p (.f t'),.p (.sl 1 (bU d'))]] []
   λr h=>r=.c (.p (.b (TM ⟨p,k,o,⟨nk,nm,t,d⟩⟩ ⟨q,k',o',⟨nk',nm',t',d'⟩⟩)))/\h=[]:=by
 refine eT func111 λX0 hX=>?_;simp only[f111,go_sem]
 repeat' (first|exact⟨⟩|refine sp ?_|refine uF (rG) ?_|refine aY (λ_=>?_) (λ_=>?_))
 all_goals ((simp_all[TM];done))
theorem zQr{a b:List En}(ha:a.length<=1000000)(hb:b.length<=1000000):
  aA prog 110 [.c (.p (.sl 7 (gG a))),.c (.p (.sl 7 (gG b))),.c (.clo 111 [])] [] λr h=>r=.c (.p (.b (nB a b)))/\h=[]:=by
 by_cases hl:b.length=a.length
 .have q1:((a.length:Int) != a.length)=false:=by simp
  refine eT func110 λX0 hX=>?_;simp only[f110,go_sem]
  repeat' (first|exact⟨⟩|refine sp ?_)
  refine aP aF aN (α:=Nat) (λk=>⟨32,[(1,.c (.p (.sl 7 (gG b)))),(2,.c (.clo 111 [])),(15,.c (.p (.sl 7 (gG a)))),(16,.c (.p (.i .i64 a.length))),(17,.c (.p (.i .i64 k)))],[]⟩)
   (λk=>k<=a.length/\nB (a.drop k) (b.drop k)=nB a b) (λk=>a.length-k) 0 ⟨Nat.zero_le _,rfl⟩ (.inl (aB (by rw[hX];rfl) rfl rfl wkS)) ?_
  rintro k ⟨hk,hs⟩;by_cases hlt:k<a.length
  .have hx:a[k]?=some a[k]:=List.getElem?_eq_getElem hlt;have hy:b[k]?=some (b[k]'(by omega)):=List.getElem?_eq_getElem (by omega);have hg:=sJ hx;have hg2:=sJ hy;have h1:decide ((k:Int)<(a.length:Int))=true:=decide_eq_true (by omega);have hd:=YW hx hy;generalize a[k]=x at hx hg hd;generalize (b[k]'(by omega))=y at hy hg2 hd;have w1:IntKind.i64.wrap ((k:Int)+1)=k+1:=wrap_i64 (by omega) (by omega);rw[hd] at hs;clear hd
   repeat' (first|exact⟨⟩|refine sp ?_|refine uF (zKt) ?_|refine aH (λ_=>?_) (λ_=>?_)|refine ai ?_)
   .rename_i hb;rw[Bool.not_eq_true'] at hb;rw[hb,Bool.false_and] at hs;rw[<- hs]
   .rename_i hb;rw[Bool.not_eq_false'] at hb;rw[hb,Bool.true_and] at hs;exact dE (k+1) ⟨by omega,hs⟩ (by omega) (aB rfl rfl rfl wkS)
  .have h1:decide ((k:Int)<(a.length:Int))=false:=decide_eq_false (by omega);rw[List.drop_of_length_le (by omega),List.drop_of_length_le (by omega)] at hs;have hs2:nB a b=true:=hs.symm;clear hs
   repeat' (first|exact⟨⟩|refine sp ?_)
 .have q1:((a.length:Int) != b.length)=true:=by simpa[bne] using λh=>hl (by omega)
  rw[HN λh=>hl h.symm];refine eT func110 λX0 hX=>?_;simp only[f110,go_sem]
  repeat' (first|exact⟨⟩|refine sp ?_)
theorem XO{a b:List En}(ha:a.length<=1000000)(hb:b.length<=1000000):aA prog 64 [.c (.p (.sl 7 (gG a))),.c (.p (.sl 7 (gG b)))] [] λr h=>r=.c (.p (.b (nB a b)))/\h=[]:=by
 refine eT func64 λX0 hX=>?_;simp only[f64,go_sem]
 repeat' (first|exact⟨⟩|refine sp ?_|refine uF (zQr ha hb) ?_)
end Go.Proofs.YtflcjdohmojepaaGreatDoor
end
section
namespace Go.Dm
open Go
section
variable {P:Program}{T:Tab}{X0:Ctx}{Q:Exit->DS->Prop}
theorem zAQ{α:Type}{I:α->DS}{J:α->Prop}{s:DS}(y:α)(i id off len i2 id2 off2 len2:Nat){x x2:PV}(h1:J y)(hl:look s.t i=.c (.own id off len))(hp:SK s.h (.own id off len)=some x)
  (hl2:look ((i,.c (.p x))::s.t) i2=.c (.own id2 off2 len2))(hp2:SK (sN s.h [id]) (.own id2 off2 len2)=some x2)
  (h3:FE X0.h.length ⟨s.n,(i2,.c (.p x2))::(i,.c (.p x))::s.t,sN (sN s.h [id]) [id2]⟩ (I y)):zCn P X0 I J Q .normal s :=
 ⟨y,h1,λ_ _ h=>zA3 i id off len hl hp (zA3 i2 id2 off2 len2 hl2 hp2 (zA4 h3 h))⟩
section
variable {P:Program}{T:Tab}{X0:Ctx}{Q:Exit->DS->Prop}
theorem zNG{c:Code}{s:DS}(p q:Nat){kb:Nat}{eb:List (List PV)}(hc:(!(Nat.beq p q) && Nat.ble X0.h.length p && Nat.ble X0.h.length q && Nat.blt p s.h.length)=true)
  (hb:s.h[q]?=some (.arr kb eb false))(h:SWP P X0 c (s.ren p q) Q):SWP P X0 c s Q:=by
 simp only[Bool.and_eq_true,Bool.not_eq_true'] at hc;have hab:p≠q:=λe=>by
  have:=hc.1.1.1;subst e;rw[Nat.beq_refl] at this;cases this
 have h0:=Nat.le_of_ble_eq_true hc.1.1.2;have h1:=Nat.le_of_ble_eq_true hc.1.2;have hp:=Nat.blt_eq.mp hc.2;intro gd X a hh hi hs ht;rw[<- hh] at hb hp;refine h gd (X.ren p q) a (by simp only[Ctx.ren,DS.ren,hh]) (hi.ren hab hb hp) (hs.ren hab (by omega) (by omega)) ⟨ht.size,λi=>?_,ht.defs⟩;simp only[DS.ren];rw[zM];exact(ht.rel i).ren hab hb hp
end
end
end Go.Dm
end
