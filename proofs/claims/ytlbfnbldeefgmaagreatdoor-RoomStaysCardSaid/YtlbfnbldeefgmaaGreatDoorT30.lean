/- Part 31 of the proof of roomStays_card, set without needless blanks. No condition. -/
import Derived.Test.YtlbfnbldeefgmaaGreatDoorT29
set_option linter.all false
set_option maxRecDepth 100000
set_option maxHeartbeats 16000000
section
namespace Go.Proofs.YtlbfnbldeefgmaaGreatDoor
open Go Go.Dm Go.Proofs Go.Proofs.Tryz
section
abbrev plc(t:List It)(p:List UInt8)(is:Bool)(k m:Int)(tt:Nat)(d:List UInt8):List CV:=[.p (.sl 5 (aQ t)),.p (.s p),.p (.b is),.p (.i .i64 k),.p (.i .i64 m),.p (.f tt),.p (.sl 1 (bJ d))]
abbrev clc(k:Int)(p q:List UInt8)(m:Int)(tt:Nat)(a n:Int)(d:List UInt8):List CV:=[.p (.i .i64 k),.p (.s p),.p (.s q),.p (.i .i64 m),.p (.f tt),.p (.i .i64 a),.p (.i .i64 n),.p (.sl 1 (bJ d))]
abbrev anc(e:Int)(k m:Int)(tt:Nat)(d b:List UInt8)(l:List (List UInt8)):List CV:=[.p (.i .i64 e),.p (.i .i64 k),.p (.i .i64 m),.p (.f tt),.p (.sl 1 (bJ d)),.p (.sl 1 (bJ b)),.p (.sl 1 (Go.Dm.encS l))]
theorem zCg{k:Int}:aA prog 33 [.c (.p (.i .i64 k))] [] λr h=>r=.c (.p (.b (mZ k)))/\h=[]:=by
 unfold mZ;refine eT func33 λX0 hX=>?_;simp only[f33,go_sem]
 repeat' (first|exact⟨⟩|refine sp ?_|with_reducible refine bM (λ_=>?_) (λ_=>?_))
 all_goals first|(simp_all;done)|(simp_all;rfl)
theorem zEc{k:Int}:aA prog 101 [.c (.p (.i .i64 k))] [] λr h=>r=.c (.p (.b (gY k)))/\h=[]:=by
 unfold gY;refine eT func101 λX0 hX=>?_;simp only[f101,go_sem]
 repeat' (first|exact⟨⟩|refine sp ?_|with_reducible refine aK (λ_=>?_) (λ_=>?_))
 all_goals simp_all
theorem fI{m:Int}:aA prog 240 [.c (.p (.i .i64 m))] [] λr h=>r=.c (.p (.b (kX m)))/\h=[]:=by
 unfold kX;refine eT func240 λX0 hX=>?_;simp only[f240,go_sem]
 repeat' (first|exact⟨⟩|refine sp ?_|with_reducible refine bM (λ_=>?_) (λ_=>?_))
 all_goals simp_all
section places
variable {t:List It}{p:List UInt8}{is:Bool}{k m:Int}{tt:Nat}{d:List UInt8}
theorem kZ:aA prog 243 [.agg (plc t p is k m tt d)] [] λr h=>r=.c (.p (.b (p == [])))/\h=[]:=by
 refine eT func243 λX0 hX=>?_;simp only[f243,go_sem]
 repeat' (first|exact⟨⟩|refine sp ?_)
theorem dS:aA prog 178 [.agg (plc t p is k m tt d)] [] λr h=>r=.c (.p (.b (is && k==2)))/\h=[]:=by
 refine eT func178 λX0 hX=>?_;simp only[f178,go_sem]
 repeat' (first|exact⟨⟩|refine sp ?_|with_reducible refine bM (λ_=>?_) (λ_=>?_))
 all_goals simp_all
theorem iO{k' m':Int}{tt':Nat}{d':List UInt8}(h:OkT t)(hp:p.length<=1000000000)(hd:d'.length<=140737488355328)(ht:tt'<18446744073709551616):
  aA prog 242 [.agg (plc t p is k m tt d),.agg (ndc k' m' tt' d')] [] λr h=>r=.tup [.c (.p (.sl 5 (aQ (wR t p ⟨k',m',tt',d'⟩).1))),.c (.p (.i .i64 (wR t p ⟨k',m',tt',d'⟩).2))]/\h=[]:=by
 have hput:=zPD (p:=p) (k:=k') (m:=m') (d:=d') h hp hd ht;refine eT func242 λX0 hX=>?_;simp only[f242,go_sem]
 repeat' (first|exact⟨⟩|refine sp ?_|refine uN (hput) ?_)
theorem zKi:aA prog 184 [.agg (plc t p is k m tt d)] [] λr h=>r=.c (.p (.i .i64 (vJ is ⟨k,m,tt,d⟩)))/\h=[]:=by
 unfold vJ XV;cases is
 ·
  refine eT func184 λX0 hX=>?_;simp only[f184,go_sem]
  repeat' (first|exact⟨⟩|refine sq ?_)
  all_goals rfl
 .cases hk:(k==2)
  ·
   refine eT func184 λX0 hX=>?_;simp only[f184,go_sem]
   repeat' (first|exact⟨⟩|refine sq ?_|refine uF (dS) ?_)
  ·
   refine eT func184 λX0 hX=>?_;simp only[f184,go_sem]
   repeat' (first|exact⟨⟩|refine sq ?_|refine uF (dS) ?_)
theorem zP9(h:OkT t)(hp:p.length<=1000000000):aA prog 102 [.c (.p (.sl 5 (aQ t))),.c (.p (.s p)),.c (.p (.b is))] [] λr h=>r=.agg (plc t p is (nodeAt t p).k (nodeAt t p).m (nodeAt t p).t (nodeAt t p).d)/\h=[]:=by
 have htl:=h.len;have hget:=eW (t:=t) (p:=p) (by omega) h.srt h.ne λx hx=>Nat.le_trans (h.dlen x hx) (by decide);refine aI ?_;unfold nodeAt;generalize (aN t p).getD nd0=n at hget ⊢;generalize (aN t p).isSome=b at hget;obtain⟨k,m,tt,d⟩:=n;cases hpz:(p == [])
 ·
  refine eT func102 λX0 hX=>?_;simp only[f102,go_sem]
  repeat' (first|exact⟨⟩|refine sp ?_|refine uN (hget) ?_)
 ·
  refine eT func102 λX0 hX=>?_;simp only[f102,go_sem]
  repeat' (first|exact⟨⟩|refine sp ?_|refine uN (hget) ?_)
  all_goals exact .inr ⟨_,rfl⟩
end places
end
theorem zKC{n how:Int}{s:List UInt8}(hs:s.length<=9223372036854775807):aA prog 47 [.c (.p (.i .i64 n)),.c (.p (.i .i64 how)),.c (.p (.s s))] [] λr h=>r=.c (.p (.s (QV n how s)))/\h=[]:=by
 have hp:=tU n;have hn:=iC n;have hn2:=iC (IntKind.i64.wrap (n.tdiv 6));have hpc:=zJ8 (n:=n);have hnc:=yN (n:=n);have hnc2:=yN (n:=IntKind.i64.wrap (n.tdiv 6));have hpk:=lK (n:=how) (m:=24) (by decide) (by decide);unfold QV;generalize tT n=P at hp hpc ⊢;generalize vN n=A at hn hnc ⊢;generalize vN (IntKind.i64.wrap (n.tdiv 6))=B at hn2 hnc2 ⊢;have e0:=Int.emod_nonneg how (show (24:Int)≠0 by decide)
 have e1:=Int.emod_lt_of_pos how (show (0:Int)<24 by decide)
 generalize how % 24=q at hpk e0 e1 ⊢;refine eT func47 λX0 hX=>?_;simp only[f47,go_sem]
 repeat' (first|exact⟨⟩|refine sp ?_|refine uF (hpc) ?_|refine uF (hnc) ?_|refine uF (hnc2) ?_|refine uF (hpk) ?_|refine aK (λ_=>?_) (λ_=>?_)|refine ai ?_)
 all_goals omega
theorem sv_i(n:Int):(SV.i n).pv=.i .i64 n:=rfl
theorem zMB(l:List Int)(n:Nat):∃k,(l.map SV.i).getD n (.i 0)=.i k:=by
 rw[List.getD_eq_getElem?_getD,List.getElem?_map];cases l[n]? with
 | none=>exact⟨0,rfl⟩
 | some k=>exact⟨k,rfl⟩
abbrev rcv(x:RC):List CV:=[.p (.i .i64 x.k),.p (.i .i64 x.p),.p (.i .i64 x.to'),.p (.i .i64 x.m),.p (.i .i64 x.t),.p (.i .i64 x.at'),.p (.i .i64 x.n),.p (.i .i64 x.how),.p (.f x.x),.p (.sl 1 (bJ x.d)),.p (.s x.s)]
abbrev clv(c:Cl):List CV:=clc c.k c.p c.to' c.m c.t c.at' c.n c.d
theorem zA0{m:Int}:∃(m':Int) (t':Nat),aA prog 50 [.agg [.p (.i .i64 2),.p (.i .i64 m),.p (.i .i64 0),.p (.f 0),.p .nil]] [] λr h=>r=.agg (ndc 3 m' t' (JG m))/\h=[] :=
 ⟨m % 4096,dC (CI 0 0),by
  have h:aA prog 50 [.agg (rnc 2 m 0 0 [])] [] λr h=>r=.agg (ndc 3 (m % 4096) (dC (CI 0 0)) (JG m))/\h=[]:=by
   have e:(zI3 ⟨2,m,0,0,[]⟩).cv=ndc 3 (m % 4096) (dC (CI 0 0)) (JG m):=by simp[zI3,zL9,Nd.cv]
   have:=zMa (k:=2) (m:=m) (t:=0) (x:=0) (d:=[]) (by simp);rw[e] at this;exact this
  refine aA.wkargs ?_ h;simp[zGV,wkD,zGK,wkC,wkP,lQ]⟩
theorem zNk{x:RC}(hs:x.s.length<=9223372036854775807)(hd:x.d.length<=9223372036854775807):
  ∃k:Int,aA prog 11 [.agg (rcv x)] [] λr h=>r=.agg (clv (HB k x))/\h=[]:=by
 obtain⟨xk,xp,xq,xm,xt,xa,xn,xh,xx,xd,xs⟩:=x;simp only at hs hd;have hsd:=zKC (n:=xp) (how:=xh) hs;have hsq:=zKC (n:=xq) (how:=IntKind.i64.wrap (xh.tdiv 24)) hs;have hti:=zJ9 (n:=xt) (x:=xx);have hf1:=zKR (b:=xd) (n:=60) (by decide) (by decide) hd;have hf2:=zKR (b:=xd) (n:=200) (by decide) (by decide) hd;have hpk:=lK (n:=xk) (m:=24) (by decide) (by decide);have hpm:=lK (n:=xm) (m:=4099) (by decide) (by decide);have hp4:=lK (n:=xa) (m:=40) (by decide) (by decide);have hp3:=lK (n:=xa) (m:=30) (by decide) (by decide);have hpn:=lK (n:=xn) (m:=40) (by decide) (by decide);obtain⟨lm,lt,hnd⟩:=zA0 (m:=xq);have b1:=Int.emod_nonneg xk (show (24:Int)≠0 by decide)
 have b2:=Int.emod_lt_of_pos xk (show (0:Int)<24 by decide)
 have b3:=Int.emod_nonneg xm (show (4099:Int)≠0 by decide)
 have b4:=Int.emod_lt_of_pos xm (show (0:Int)<4099 by decide)
 have b5:=Int.emod_nonneg xa (show (40:Int)≠0 by decide)
 have b6:=Int.emod_lt_of_pos xa (show (0:Int)<40 by decide)
 have b7:=Int.emod_nonneg xa (show (30:Int)≠0 by decide)
 have b8:=Int.emod_lt_of_pos xa (show (0:Int)<30 by decide)
 have b9:=Int.emod_nonneg xn (show (40:Int)≠0 by decide)
 have b10:=Int.emod_lt_of_pos xn (show (0:Int)<40 by decide)
 have hsl:((said 0).length:Int)=24:=rfl;have key:∀(k:Int),(xh.tmod 41==40)=true/\k=xk∨(xh.tmod 41==40)=false/\(said 0).getD (xk % 24).toNat (.i 0)=.i k ->
   aA prog 11 [.agg (rcv ⟨xk,xp,xq,xm,xt,xa,xn,xh,xx,xd,xs⟩)] [] λr h=>r=.agg (clv (HB k ⟨xk,xp,xq,xm,xt,xa,xn,xh,xx,xd,xs⟩))/\h=[]:=by
  intro k hk;refine aI ?_;unfold HB;simp only;generalize QV xp xh xs=P at hsd ⊢;generalize QV xq (IntKind.i64.wrap (xh.tdiv 24)) xs=Q at hsq ⊢;generalize CI xt xx=TT at hti ⊢;generalize JG xq=LL at hnd ⊢;generalize xk % 24=q at hpk hk b1 b2;generalize xm % 4099=pm at hpm b3 b4 ⊢;generalize xa % 40=p4 at hp4 b5 b6 ⊢;generalize xa % 30=p3 at hp3 b7 b8 ⊢;generalize xn % 40=pn at hpn b9 b10 ⊢;obtain⟨j,rfl⟩:∃j:Nat,p4=j:=⟨p4.toNat,by omega⟩
  have w1:IntKind.i64.wrap (pm-1)=pm-1:=wrap_i64 (by omega) (by omega);have w2:IntKind.i64.wrap (p3-1)=p3-1:=wrap_i64 (by omega) (by omega);have w3:IntKind.i64.wrap (pn-1)=pn-1:=wrap_i64 (by omega) (by omega);have w4:IntKind.i64.wrap (1980+(j:Int))=(1980+j:Nat):=by rw[wrap_i64 (by omega) (by omega)];omega
  have hq:q<((said 0).length:Int):=by rw[hsl];exact b2
  have hj:((1980+j:Nat):Int)<=9223372036854775807:=by omega
  have hj2:((1980+j:Nat):Int)<=140737488355328:=by omega
  have hj0:(0:Int)<=((1980+j:Nat):Int):=by omega
  have hrep:List.replicate (1980+j) [PV.i .u8 0]=bJ (List.replicate (1980+j) 0):=by simp[bJ]
  have hjt:((j:Int)).toNat=j:=Int.toNat_natCast j;clear hs hd hsl b3 b4 b5 b6 b7 b8 b9 b10;rcases hk with⟨h41,rfl⟩|⟨h41,hk⟩
  .rcases zKm k with rfl|rfl|rfl|rfl|rfl|rfl|rfl|rfl|rfl|⟨k1,k2,k3,k4,k7,k9,k10,k11,k14⟩
   all_goals
    refine eT func11 λX0 hX=>?_;simp only[f11,go_sem]
    repeat' (first|exact⟨⟩|refine sp ?_|((refine aG (id:=1) aD aL [13,14] [13,0,1,2,3,4,5,6,7,8,9,10,11,12,14] (by decide +kernel) ?_);(repeat' (first|(refine aO ?_)|((refine cR ?_ ?_ rfl rfl rfl ?_ ?_);(rotate_left 2);(focus ((repeat' (first|exact⟨⟩|refine sp ?_));((refine And.intro ?_ ?_<;>exact rfl))));(simp only[aC,bE]))|((refine cQ ?_ rfl rfl rfl ?_ ?_);(rotate_left 1);(focus ((repeat' (first|exact bB|refine aR ?_ ?_));(all_goals ((repeat' (first|exact⟨⟩|refine sp ?_|refine uF (hpk) ?_|refine uN (hsd) ?_));(try (exact rfl))))));(simp only[aC])))))|refine uN (hsq) ?_|refine uF (hti) ?_|refine uN (hf1) ?_|refine uN (hf2) ?_|refine uF (hpm) ?_|refine uF (hp4) ?_|refine uF (hp3) ?_|refine uF (hpn) ?_|refine uN (hnd) ?_|refine aK (λ_=>?_) (λ_=>?_)|refine ai ?_)
   all_goals first|exact .inr ⟨_,rfl⟩|(rw[List.take_of_length_le (by simp)])
  .rcases zKm k with rfl|rfl|rfl|rfl|rfl|rfl|rfl|rfl|rfl|⟨k1,k2,k3,k4,k7,k9,k10,k11,k14⟩
   all_goals
    refine eT func11 λX0 hX=>?_;simp only[f11,go_sem]
    repeat' (first|exact⟨⟩|refine sp ?_|((refine aG (id:=1) aD aL [13,14] [13,0,1,2,3,4,5,6,7,8,9,10,11,12,14] (by decide +kernel) ?_);(repeat' (first|(refine aO ?_)|((refine cR ?_ ?_ rfl rfl rfl ?_ ?_);(rotate_left 2);(focus ((repeat' (first|exact⟨⟩|refine sp ?_));((refine And.intro ?_ ?_<;>exact rfl))));(simp only[aC,bE]))|((refine cQ ?_ rfl rfl rfl ?_ ?_);(rotate_left 1);(focus ((repeat' (first|exact bB|refine aR ?_ ?_));(all_goals ((repeat' (first|simp only[*,go_sem,Nat.reduceLT,Nat.reduceLeDiff,Nat.reduceEqDiff,↓reduceIte,Nat.reduceAdd,sv_i]|refine uF (hpk) ?_|refine uN (hsd) ?_));(try (exact rfl))))));(simp only[aC])))))|refine uN (hsq) ?_|refine uF (hti) ?_|refine uN (hf1) ?_|refine uN (hf2) ?_|refine uF (hpm) ?_|refine uF (hp4) ?_|refine uF (hp3) ?_|refine uF (hpn) ?_|refine uN (hnd) ?_|refine aK (λ_=>?_) (λ_=>?_)|refine ai ?_)
   all_goals first|exact .inr ⟨_,rfl⟩|(rw[List.take_of_length_le (by simp)])
 cases h41:(xh.tmod 41==40)
 .obtain⟨k,hk⟩:=zMB zFZ (xk % 24).toNat;exact⟨_,key k (.inr ⟨h41,hk⟩)⟩
 .exact⟨_,key _ (.inl ⟨h41,rfl⟩)⟩
end Go.Proofs.YtlbfnbldeefgmaaGreatDoor
end
section
namespace Go.Dm
open Go
section
variable {P:Program}{f:FuncId}{h:aB}{i:Nat}{c0 c1:List CV}{a r:DV}{K:DV->aB->Prop}
theorem aA.boxA
 (hc:aA P f [a,.c (.ptr 0 0)] [.box c0] λd h'=>d=r/\h'=[.box c1])
 (ha:zCN a=true)(h0:h[i]?=some (.box c0))(hd:(c0.all HF && (c1.all HF && zCN r))=true)(hk:K r (h.set i (.box c1))):
  aA P f [a,.c (.ptr i 0)] h K:=by
 simp only[Bool.and_eq_true] at hd;obtain⟨hd0,hd1,hdr⟩:=hd;intro X vals hh hi gd hr;subst hh;have hlt:=aH h0;obtain⟨g,arr,el,fz,hg,hb1,hb2,hb3,hb4⟩:=hi.blk i _ h0
 let Y:Ctx:=⟨X.w,X.S,λj=>if j=0 then some g else none,[.box c0]⟩
 have hiY:HInv Y:=by
  refine⟨hi.slt,λid db hdb=>?_,λid db g' hdb hl hg'=>?_,λid db id' db' g1 g2 hdb _ _ hdb' _ _ _ _=>?_⟩
  .cases id with
   | zero =>
    simp only[Y,List.getElem?_cons_zero,Option.some.injEq] at hdb;subst hdb;exact⟨g,arr,el,fz,rfl,hb1,hb2,hb3,sV hd0 hb4⟩
   | succ n=>simp[Y] at hdb
  .cases id with
   | zero =>
    simp only[Y,List.getElem?_cons_zero,Option.some.injEq,if_true] at hdb hg';subst hdb;subst hg';exact hi.own i _ g h0 rfl hg
   | succ n=>simp[Y] at hdb
  .have e1:=aH hdb;have e2:=aH hdb';simp only[Y,List.length_cons,List.length_nil] at e1 e2;omega
 match vals,hr with
 | [va,v0],hr =>
  obtain ⟨hra,⟨_,hv1,hv2⟩,_⟩:=hr;obtain⟨g',hg',rfl⟩:=hv2 _ h0;rw[hg] at hg';cases hg';have hrY:dL Y [a,.c (.ptr 0 0)] [va,.pointer (some ⟨g.1,g.2+0,none⟩)] :=
   ⟨xR (X:=X) (Y:=Y) rfl rfl ha hra,⟨Nat.zero_lt_one,rfl,λcells hcells=>⟨g,rfl,rfl⟩⟩,True.intro⟩
  have key:∀v w',Ret Y (λd h'=>d=r/\h'=[.box c1]) v w'->Ret X K v w':=by
   rintro v w' ⟨d,Z,h1,h2,h3,h4,rfl,h5⟩;have hZ0:Z.h[0]?=some (.box c1):=by rw[h5];rfl
   obtain ⟨db,e1,e2,e3,e4⟩:=h3.ids 0 _ (by simp[Y]) hZ0 rfl;have hGZ:Z.G 0=some g:=e3;have e4:=e4 g rfl;have hfr:∀b,b<X.w.heap.size->b≠g.1->Z.w.heap[b]?=X.w.heap[b]? := λb hb hne=>h3.frame b hb λid db g' hdb hl hf hg'=>by
    have e1:=aH hdb;simp only[Y,List.length_cons,List.length_nil] at e1;have:id=0:=by omega
    subst this;simp only[Y,if_true,Option.some.injEq] at hg';subst hg';exactλe=>hne e.symm
   have hst:Step X ⟨Z.w,Z.S,X.G,X.h.set i (.box c1)⟩:=by
    refine⟨h3.size,h3.os,h3.tape,h3.output,h3.kept,by simp,λid db' hl' hdb' hlv=>?_,λb hb hno=>?_,λid db g' hdb hl hf hg'=>?_,λb hb=>?_⟩
    .rcases bZ hdb' with⟨rfl,rfl,_⟩|⟨hne,h'⟩
     .exact⟨_,h0,True.intro,rfl,λg' hg'=>by rw[hg] at hg';cases hg';exact e4⟩
     .refine⟨db',h',cG.refl hlv,rfl,λg' hg'=>?_⟩;rw[show Z.w.heap[g'.1]?=X.w.heap[g'.1]? from hfr _ (hi.block_lt h' hlv hg') λe=>hne (hi.inj i _ id db' g g' h0 rfl rfl h' hlv hg hg' e.symm).symm]
      exact(hi.blk id db' h').same hlv g' hg'
    .exact hfr b hb λe=>hno i _ g h0 rfl rfl hg e.symm
    .rcases bZ hdb with⟨rfl,rfl,_⟩|⟨hne,h'⟩
     .exact .inr ⟨id,_,g',h0,rfl,rfl,hg',rfl⟩
     .exact .inr ⟨id,db,g',h',hl,hf,hg',rfl⟩
    .rcases h3.upper b hb with h|h|⟨id,db,g',hdb,hl,hg',e⟩
     .exact .inl h
     .exact .inr (.inl h)
     .have e1:=aH hdb;simp only[Y,List.length_cons,List.length_nil] at e1;have:id=0:=by omega
      subst this;simp only[Y,if_true,Option.some.injEq] at hg';subst hg';exact .inr (.inr ⟨i,_,g,h0,rfl,hg,e⟩)
   refine⟨d,⟨Z.w,Z.S,X.G,X.h.set i (.box c1)⟩,h1,⟨h2.slt,λid db hdb=>?_,λid db g' hdb hl hg'=>?_,λid db id' db' g1 g2 hdb hl hf hdb' hl' hg1 hg2 he=>?_⟩,hst,TD hdr h4,hk⟩
   .rcases bZ hdb with⟨rfl,rfl,_⟩|⟨hne,h'⟩
    .obtain⟨g',arr',el',fz',k1,k2,k3,k4,k5⟩:=h2.blk 0 _ hZ0;rw[hGZ] at k1;cases k1;exact⟨g,arr',el',fz',hg,k2,k3,k4,sV hd1 k5⟩
    .by_cases hl:db.live=true
     .exact(hi.blk id db h').move hst rfl λg' hg'=>hfr _ (hi.block_lt h' hl hg') λe=>hne (hi.inj i _ id db g g' h0 rfl rfl h' hl hg hg' e.symm).symm
     .cases db<;>simp_all[DB.live,eC]
   .rcases bZ hdb with⟨rfl,rfl,_⟩|⟨hne,h'⟩
    .have hgg:g'=g:=by
      have:X.G id=some g':=hg';rw[hg] at this;cases this;rfl
     subst hgg;exact h2.own 0 _ g' hZ0 rfl hGZ
    .have ho:=hi.own id db g' h' hl hg';refine⟨λhf hS=>?_,λhf=>(h3.kept _ (ho.2 hf)).1⟩;rcases h3.upper _ hS with h|h|⟨j,d',g2,hdb2,hl2,hg2,e⟩
     .exact ho.1 hf h
     .have:=hi.block_lt h' hl hg';have hYw:Y.w.heap.size=X.w.heap.size:=rfl;omega
     .have e1:=aH hdb2;simp only[Y,List.length_cons,List.length_nil] at e1;have:j=0:=by omega
      subst this;simp only[Y,if_true,Option.some.injEq] at hg2;subst hg2;exact hne (hi.inj i _ id db g g' h0 rfl rfl h' hl hg hg' e).symm
   .rcases bZ hdb with⟨rfl,rfl,_⟩|⟨hne,h1'⟩<;>rcases bZ hdb' with⟨rfl,rfl,_⟩|⟨hne',h2'⟩
    .rfl
    .exact hi.inj id _ id' db' g1 g2 h0 rfl rfl h2' hl' hg1 hg2 he
    .exact hi.inj id db id' _ g1 g2 h1' hl hf h0 rfl hg1 hg2 he
    .exact hi.inj id db id' db' g1 g2 h1' hl hf h2' hl' hg1 hg2 he
  have gdY:Gnd P Y:=gd;rcases hc Y _ rfl hiY gdY hrY with⟨h1,h2⟩|⟨v,w',h1,h2⟩
  .exact .inl ⟨h1,h2.mono λe w' ⟨v,he,hv⟩=>⟨v,he,key v w' hv⟩⟩
  .exact .inr ⟨v,w',h1,key v w' h2⟩
theorem zOE
 (hc:aA P f [a,.c (.ptr 0 0)] [.box c0] λd h'=>d=r/\h'=[.box c1])(ha:zCN a=true)
 (h0:h[i]?=some (.box c0))(hd:(c0.all HF && (c1.all HF && zCN r))=true)(hk:K r (h.set i (.box c1))):
  aA P f [a,.c (.ptr i 0)] h K:=aA.boxA hc ha h0 hd hk
end
section
section
variable {P:Program}{T:Tab}{X0:Ctx}{c:Code}{Q:Exit->DS->Prop}
def zKV(n0:Nat)(s s':DS):Prop:=xA n0 s s'∨∃i id off len x,look s.t i=.c (.own id off len)/\PT s.h (.own id off len)=some x/\DR n0 ⟨s.n,(i,.c (.p x))::s.t,rL s.h [id]⟩ s'
theorem zKV.use{n0:Nat}{s s':DS}(h:zKV n0 s s'){X0 X:Ctx}{a:Act}(hn:X0.h.length=n0)(hh:X.h=s.h)(hi:HInv X)(hs:Step X0 X)(ht:TInv X s a):∃X',X'.w=X.w/\X'.h=s'.h/\HInv X'/\Step X0 X'/\TInv X' s' a:=by
 rcases h with h|⟨i,id,off,len,x,hl,hp,hw⟩
 .exact h.use hn hh hi hs ht
 .obtain ⟨X',h1,h2,h3,h4,h5,h6⟩:=jJ [id] hi;obtain⟨X2,e1,e2,e3,e4,e5⟩:=hw.use (X:=X') hn (by rw[h2,hh]) h5 (hs.trans hi h4) ⟨ht.size,λj=>by
   simp only[look];split
   .rename_i hij;subst hij;have:=ht.rel j;rw[hl] at this;simp only[bA] at this;simp only[bA,bV];exact qK hi h4 h1 this (by rw[hh];exact hp) h6
   .exact(ht.rel j).step h4,ht.defs⟩
  exact⟨X2,e1.trans h1,e2,e3,e4,e5⟩
def zKv{α:Type}(n0:Nat)(I:α->DS)(J:α->Prop)(μ:α->Nat)(x:α)(Q:Exit->DS->Prop):Exit->DS->Prop:=λe s'=>match e with
 | .normal=>∃y,J y/\μ y < μ x/\zKV n0 s' (I y)
 | e=>Q e s'
theorem qd_e{α:Type}{n0:Nat}{I:α->DS}{J:α->Prop}{μ:α->Nat}{x:α}{id:Nat}{s:DS}:zKv n0 I J μ x Q (.exit id) s=Q (.exit id) s:=nr rfl
theorem qd_r{α:Type}{n0:Nat}{I:α->DS}{J:α->Prop}{μ:α->Nat}{x:α}{s:DS}:zKv n0 I J μ x Q .ret s=Q .ret s:=nr rfl
attribute [go_sem] qd_e qd_r
end
end
end Go.Dm
end
section
namespace Go.Proofs.YtlbfnbldeefgmaaGreatDoor
open Go Go.Dm Go.Proofs Go.Proofs.Tryz
theorem wK{a i p s:Int}{f:Bool}:aA prog 170 [.agg [.p (.i .i64 i),.p (.i .i64 p),.p (.i .i64 s),.p (.b f)],.c (.ptr 0 0)] [.box [.p (.i .i64 a)]] λr h=>r=.c (.p (.b (i==a)))/\h=[.box [.p (.i .i64 a)]]:=by
 refine eT func170 λX0 hX=>?_;simp only[f170,go_sem]
 repeat' (first|exact⟨⟩|refine sp ?_)
theorem zIC{l:List Ly}{a:Int}(hl:l.length<=1000000):aA prog 118 [.c (.p (.sl 4 (cM l))),.c (.clo 170 [.ptr 0 0])] [.box [.p (.i .i64 a)]]
  λr h=>r=.c (.p (.i .i64 (zEk l a)))/\h=[.box [.p (.i .i64 a)]]:=by
 refine eT func118 λX0 hX=>?_;simp only[f118,go_sem]
 repeat' (first|exact⟨⟩|refine sp ?_)
 refine aY aD aL (α:=Nat) (λk=>⟨19,[(0,.c (.p (.sl 4 (cM l)))),(1,.c (.clo 170 [.ptr 0 0])),(7,.c (.p (.i .i64 l.length))),(8,.c (.p (.i .i64 k)))],[.box [.p (.i .i64 a)]]⟩)
  (λk=>k<=l.length/\∀(j:Nat) (y:Ly),j<k->l[j]?=some y->(y.i==a)=false) (λk=>l.length-k) 0 ⟨Nat.zero_le _,λj y h=>by omega⟩ (.inl (aF (by rw[hX];rfl) rfl rfl wkS)) ?_
 rintro k ⟨hk,hs⟩;by_cases hlt:k<l.length
 .have hx:l[k]?=some l[k]:=List.getElem?_eq_getElem hlt;have hg:=lZ hx;have h1:decide ((k:Int)<(l.length:Int))=true:=decide_eq_true (by omega);have w1:IntKind.i64.wrap ((k:Int)+1)=k+1:=wrap_i64 (by omega) (by omega);generalize l[k]=x at hx hg;cases hb:(x.i==a)
  .have hJ:PLift (k+1<=l.length/\∀(j:Nat) (y:Ly),j<k+1->l[j]?=some y->(y.i==a)=false):=⟨by omega,λj y hj hy=>by
    rcases Nat.lt_or_ge j k with h|h
    .exact hs j y h hy
    .have:j=k:=by omega
     subst this;rw[hx] at hy;cases hy;exact hb⟩
   clear hs hx
   repeat' (first|exact⟨⟩|refine sp ?_|refine zOE wK rfl rfl rfl ?_|refine ai ?_)
   exact gZ (k+1) hJ.down (by omega) (aF rfl rfl rfl wkS)
  .have hJ:=PLift.up (VI hs hx hb).1;clear hs hx
   repeat' (first|exact⟨⟩|refine sp ?_|refine zOE wK rfl rfl rfl ?_|refine ai ?_)
   all_goals rw[hJ.down]
 .have h1:decide ((k:Int)<(l.length:Int))=false:=decide_eq_false (by omega);have hJ:=PLift.up (NI (l:=l) (a:=a) λj y hj=>hs j y (by have:=(List.getElem?_eq_some_iff.1 hj).1;omega) hj);clear hs
  repeat' (first|exact⟨⟩|refine sp ?_)
  all_goals rw[hJ.down]
theorem HP{l:List Ly}{a:Int}(hl:l.length<=1000000):aA prog 97 [.c (.p (.sl 4 (cM l))),.c (.p (.i .i64 a))] []
  λr h=>r=.tup [.agg ((dR l a).getD ly0).cv,.c (.p (.b (dR l a).isSome))]/\h=[]:=by
 have hc:=zIC (a:=a) hl;rcases zIm l a with⟨h1,h2⟩|⟨k,x,h1,h2,h3⟩
 .rw[h2] at hc;rw[h1];clear h1 h2;refine eT func97 λX0 hX=>?_;simp only[f97,go_sem]
  repeat' (first|exact⟨⟩|refine sp ?_|refine uS [0] (hc) ?_)
  all_goals simp[ly0]
 .rw[h2] at hc;rw[h1];have hlt:=(List.getElem?_eq_some_iff.1 h3).1;have hg:=lZ h3;have k1:decide ((k:Int)<0)=false:=decide_eq_false (by omega);have k2:(0:Int)<=(k:Int):=by omega
  have k3:(k:Int)<(l.length:Int):=by omega
  clear h1 h2 h3;refine eT func97 λX0 hX=>?_;simp only[f97,go_sem]
  repeat' (first|exact⟨⟩|refine sp ?_|refine uS [0] (hc) ?_)
  all_goals simp[Ly.cv]
end Go.Proofs.YtlbfnbldeefgmaaGreatDoor
end
section
namespace Go.Dm
open Go
section
variable {n0:Nat}{s s':DS}
def KQ(n0:Nat)(s s':DS):Prop:=∀(X0 X:Ctx) (a:Act),X0.h.length=n0->X.h=s.h->HInv X->Step X0 X->TInv X s a->∃X',X'.w=X.w/\X'.h=s'.h/\HInv X'/\Step X0 X'/\TInv X' s' a
theorem KQ.trans{t u:DS}(h:KQ n0 s t)(k:KQ n0 t u):KQ n0 s u:=λX0 X a hn hh hi hs ht=>by
 obtain⟨Y,h1,h2,h3,h4,h5⟩:=h X0 X a hn hh hi hs ht;obtain⟨Z,k1,k2,k3,k4,k5⟩:=k X0 Y a hn h2 h3 h4 h5;exact⟨Z,k1.trans h1,k2,k3,k4,k5⟩
theorem cJ(h:DR n0 s s'):KQ n0 s s':=λ_ _ _ hn hh hi hs ht=>h.use hn hh hi hs ht
theorem cF(h:zCh n0 s s'):KQ n0 s s':=λ_ _ _ hn hh hi hs ht=>h.use hn hh hi hs ht
theorem zEI(i id off len:Nat){x:PV}(hl:look s.t i=.c (.own id off len))(hp:PT s.h (.own id off len)=some x):KQ n0 s ⟨s.n,(i,.c (.p x))::s.t,rL s.h [id]⟩:=by
 intro X0 X a hn hh hi hs ht;obtain⟨X',h1,h2,h3,h4,h5,h6⟩:=jJ [id] hi;refine⟨X',h1,by rw[h2,hh],h5,hs.trans hi h4,ht.size,λj=>?_,ht.defs⟩
 simp only[look];split
 .rename_i hij;subst hij;have:=ht.rel j;rw[hl] at this;simp only[bA] at this;simp only[bA,bV];exact qK hi h4 h1 this (by rw[hh];exact hp) h6
 .exact(ht.rel j).step h4
theorem pA(i k:Nat)(hl:look s.t i=.c (.p .nil)):KQ n0 s ⟨s.n,(i,.c (.own s.h.length 0 0))::s.t,s.h++[.arr k [] false]⟩:=by
 intro X0 X a hn hh hi hs ht;obtain⟨h1,h2⟩:=virt hi k;refine⟨X.virt k,rfl,by simp[Ctx.virt,hh],h2,hs.trans hi h1,ht.size,λj=>?_,ht.defs⟩
 simp only[look];split
 .rename_i hij;subst hij;have:=ht.rel j;rw[hl] at this;rw[<- hh];exact qZ (iY (X:=X) (k:=k) this)
 .exact(ht.rel j).step h1
theorem AJ(i id off len:Nat){k:Nat}{es:List (List PV)}(hl:look s.t i=.c (.own id off len))(hd:s.h[id]?=some (.arr k es false)):
  KQ n0 s ⟨s.n,(i,.c (.own s.h.length 0 len))::s.t,s.h.set id .dead++[.arr k ((es.drop off).take len) false]⟩:=by
 intro X0 X a hn hh hi hs ht;rw[<- hh] at hd;have hsl:=ht.rel i;rw[hl] at hsl;simp only[bA,bV] at hsl;obtain⟨q1,q2,q3⟩:=hsl;obtain⟨q4,q5⟩:=q3 _ _ _ hd;have hb:=hi.blk id _ hd;cases hG:X.G id with
 | none =>
  rw[hG] at q5;simp only[eC] at hb;rcases hb with⟨_,rfl⟩|⟨g,_,_,_,hg,_⟩
  .simp only[List.length_nil] at q4;have hlen:len=0:=by omega
   subst hlen;obtain⟨v1,v2⟩:=virt hi k;have hk:=Step.kill v2 id;refine⟨(X.virt k).kill id,rfl,?_,v2.kill id,hs.trans hi (v1.trans v2 hk),ht.size,λj=>?_,ht.defs⟩
   .show (X.h++[_]).set id .dead=_
    rw[List.set_append_left _ _ q1,hh];simp
   .simp only[look];split
    .rename_i hij;subst hij;rw[<- hh];refine bA.step hk (qZ (x:=.own X.h.length 0 0) ?_);exact iY (X:=X) (k:=k) (v:=a.tmps.getD j undef) (by simp only[bV,dF];exact q5)
    .exact((ht.rel j).step v1).step hk
  .rw[hG] at hg;cases hg
 | some g =>
  rw[hG] at q5;obtain⟨cap,o,arr,el,fz,r1,r2,r3,r4,r5,r6⟩:=q5;obtain⟨k1,k2⟩:=KC (off:=off) (len:=len) hi hd hG q4;refine⟨X.rebase id (g.1,g.2+off*k) k ((es.drop off).take len),rfl,by simp only[Ctx.rebase,hh],k2,hs.trans hi k1,ht.size,λj=>?_,ht.defs⟩
  simp only[look];split
  .rename_i hij;subst hij;rw[<- hh];refine qZ (x:=.own X.h.length 0 len) ⟨by simp[Ctx.rebase],q2,λk' es' ro' he=>?_⟩
   simp only[Ctx.rebase] at he ⊢;rw[List.getElem?_append_right (by simp)] at he;simp only[List.length_set,Nat.sub_self,List.getElem?_cons_zero,Option.some.injEq,DB.arr.injEq] at he;obtain⟨rfl,rfl,rfl⟩:=he;refine⟨by simp;omega,?_⟩
   rw[if_pos trivial];refine⟨cap,o,arr,el,fz,r1,r2,r3.imp (λh=>h) λh=>by rw[h];simp,r4,r5,?_⟩
   have:(off+cap)*k=off*k+cap*k:=Nat.add_mul _ _ _;simp only[Nat.zero_add];omega
  .exact(ht.rel j).step k1
section
variable {P:Program}{T:Tab}{X0:Ctx}{s:DS}{Q:Exit->DS->Prop}
variable {c:Code}{n0:Nat}{s:DS}
theorem zJE{s':DS}(hw:KQ X0.h.length s s')(h:SWP P X0 c s' Q):SWP P X0 c s Q:=by
 intro gd X a hh hi hs ht;obtain⟨X',h1,h2,h3,h4,h5⟩:=hw X0 X a rfl hh hi hs ht;rw[<- h1];exact h gd X' a h2 h3 h4 h5
def FK{α:Type}(n0:Nat)(I:α->DS)(J:α->Prop)(μ:α->Nat)(x:α)(Q:Exit->DS->Prop):Exit->DS->Prop:=λe s'=>match e with
 | .normal=>∃y,J y/\μ y < μ x/\KQ n0 s' (I y)
 | e=>Q e s'
theorem zEO{α:Type}(I:α->DS)(J:α->Prop)(μ:α->Nat)(x0:α)(hJ:J x0)(hw:KQ X0.h.length s (I x0))
 (h:∀x,J x->SWP P X0 c (I x) (FK X0.h.length I J μ x Q)):SWP P X0 (.loop c) s Q:=by
 intro gd X a hh hi hs ht;obtain⟨X',h1,h2,h3,h4,h5⟩:=hw X0 X a rfl hh hi hs ht;rw[<- h1];refine wp_loop_ghost (λn a w=>∃x X,μ x=n/\J x/\X.w=w/\X.h=(I x).h/\HInv X/\Step X0 X/\TInv X (I x) a) (μ x0) ⟨x0,X',rfl,hJ,rfl,h2,h3,h4,h5⟩ ?_;rintro n a' w' ⟨x,Y,rfl,k1,rfl,k2,k3,k4,k5⟩;refine wp_mono (h x k1 gd Y a' k2 k3 k4 k5) λe a w hp=>?_;obtain⟨s',Z,p1,rfl,p3,p4,p5,p6⟩:=hp;cases e<;>simp only[Exit.then,FK] at p1 ⊢
 case normal =>
  obtain⟨y,q1,q2,q3⟩:=p1;obtain⟨Z',r1,r2,r3,r4,r5⟩:=q3 X0 Z a rfl p3 p4 p5 p6;exact⟨μ y,q2,y,Z',rfl,q1,r1,r2,r3,r4,r5⟩
 all_goals exact⟨s',Z,p1,rfl,p3,p4,p5,p6⟩
theorem dE(hT:bF P T)(hm:P.follows .mixedOrders=true){α:Type}(I:α->DS)(J:α->Prop)(μ:α->Nat)(x0:α)(hJ:J x0)(hw:KQ X0.h.length s (I x0))
 (h:∀x,J x->vc P T X0 c (I x) (FK X0.h.length I J μ x Q)):SWP P X0 (.loop c) s Q :=
 zEO I J μ x0 hJ hw λx hx=>dX hT hm c (h x hx)
theorem zPJ{α:Type}{I:α->DS}{J:α->Prop}{μ:α->Nat}{x:α}{id:Nat}:FK n0 I J μ x Q (.exit id) s=Q (.exit id) s:=nr rfl
theorem zPK{α:Type}{I:α->DS}{J:α->Prop}{μ:α->Nat}{x:α}:FK n0 I J μ x Q .ret s=Q .ret s:=nr rfl
theorem kT{α:Type}{I:α->DS}{J:α->Prop}{μ:α->Nat}{x:α}(y:α)(h1:J y)(h2:μ y < μ x)(h3:KQ n0 s (I y)):FK n0 I J μ x Q .normal s:=⟨y,h1,h2,h3⟩
end
attribute [go_sem] zPJ zPK
end
theorem aA.rowR{P:Program}{f:FuncId}{args:List DV}{k:Nat}{es:List (List PV)}(hc:aA P f args [] λd h'=>(d=.c (.p .nil)/\es=[])∨∃j,d=.c (.own j 0 es.length)/\h'[j]?=some (.arr k es false)):
  aA P f args [] λd h'=>d=.c (.own 0 0 es.length)/\h'=[.arr k es false]:=by
 intro X vals hh hi gd hr;have key:∀v w',Ret X (λd h'=>(d=.c (.p .nil)/\es=[])∨∃j,d=.c (.own j 0 es.length)/\h'[j]?=some (.arr k es false)) v w'->Ret X (λd h'=>d=.c (.own 0 0 es.length)/\h'=[.arr k es false]) v w':=by
  rintro v w' ⟨d,Z,k1,k2,k3,k4,k5⟩;rcases k5 with⟨rfl,rfl⟩|⟨j,rfl,hj⟩
  .have hc1:HInv (Z.cut 0):=k2.cut (by simp);have hc2:Step X (Z.cut 0):=k3.cut (by rw[hh];exact Nat.zero_le _);obtain⟨v1,v2⟩:=virt hc1 k;have hz:(Z.cut 0).h=[]:=by simp[Ctx.cut]
   refine⟨.c (.own 0 0 0),(Z.cut 0).virt k,k1,v2,hc2.trans hc1 v1,?_,rfl,by simp[Ctx.virt,hz]⟩
   have hn:bV (Z.cut 0) (.p .nil) v:=k4;have:=iY (X:=Z.cut 0) (k:=k) hn;rw[hz] at this;exact this
  .have h4:CU [j] 0 Z.h 0 [.arr k es false]:=⟨⟨by simp[rn,DB.rn,hj],rfl⟩,True.intro⟩
   obtain⟨g1,g2,g3⟩:=JU (X0:=X) (h:=[.arr k es false]) (tb:=[j]) (by rw[hh];rfl) k2 k3 (Nat.zero_le _) rfl rfl h4 rfl;refine⟨.c (.own 0 0 es.length),Dm.perm Z [j] [.arr k es false],k1,g1,g2,?_,rfl,rfl⟩;exact bA.pull g3 (c:=.c (.own 0 0 es.length)) rfl (by simpa[DV.rn,CV.rn,rn] using k4)
 rcases hc X vals hh hi gd hr with⟨h1,h2⟩|⟨v,w',h1,h2⟩
 .exact .inl ⟨h1,h2.mono λe w' ⟨v,he,hv⟩=>⟨v,he,key v w' hv⟩⟩
 .exact .inr ⟨v,w',h1,key v w' h2⟩
end Go.Dm
end
