/- Part 39 of the proof of roomMerges_card, set without needless blanks. No condition. -/
import Derived.Test.YtflcjdohmojepaaGreatDoorM37
set_option linter.all false
set_option maxRecDepth 100000
set_option maxHeartbeats 16000000
section
namespace Go.Proofs.YtflcjdohmojepaaGreatDoor
open Go Go.Dm Go.Proofs Go.Proofs.Tryz
abbrev zPV(t:List It)(c:List UInt8)(ps:List (List UInt8))(hops:Nat):DB:=.box [.p (.sl 5 (aS t)),.p (.s c),.p (.sl 1 (Go.Dm.encS ps)),.p (.i .i64 hops)]
theorem zHl{t:List It}{c:List UInt8}{ps:List (List UInt8)}{hops:Nat}{d:List UInt8}(hd:d.length<=1000000)(hps:ps.length<=50000)(hh:hops<=1000):
  aA prog 238 [.c (.ptr 0 0),.c (.p (.sl 1 (bU d)))] [zPV t c ps hops] λr h=>r=.c (.p (.i .i64 (zQe d hops)))/\h=[zPV t (zQd d hops c) (zQf d hops ps) (hops+1)]:=by
 have w1:IntKind.i64.wrap ((hops:Int)+1)=((hops+1:Nat):Int):=by rw[wrap_i64 (by omega) (by omega)];omega
 have hsp:=CC (s:=d) (by omega);have hle:=wY (s:=d);unfold zQe zQd zQf;cases q0:decide (8<=hops)
 .have h1:decide ((8:Int)<((hops+1:Nat):Int))=false:=decide_eq_false (by simp at q0;omega);generalize fY d=S at hsp hle ⊢;obtain⟨more,e⟩:=S;simp only at hsp hle ⊢;cases q1:(e==0)
  .have q2:(e != 0)=true:=by rw[bne,q1];rfl
   refine eT func238 λX0 hX=>?_;simp only[f238,go_sem]
   repeat' (first|exact⟨⟩|refine sp ?_|refine uN (hsp) ?_)
  .have he:e=0:=eq_of_beq q1;subst he;have hcc:=zDL (a:=more) (b:=ps) (by omega) (by omega);cases d with
   | nil =>
    refine eT func238 λX0 hX=>?_;simp only[f238,go_sem]
    repeat' (first|simp only[*,go_sem,Nat.reduceLT,Nat.reduceLeDiff,Nat.reduceEqDiff,↓reduceIte,Nat.reduceAdd,Int.reduceLT,bne_self_eq_false,AD]|refine uN (hsp) ?_|refine uN (hcc) ?_|((with_reducible apply aA.frz);exact rfl;exact rfl)|refine ai ?_)
    all_goals rfl
   | cons b d =>
    have hg:(bU (b::d)).getD 0 []=[.i .u8 b.toNat]:=rfl;have h2:decide ((0:Int)<((d.length+1:Nat):Int))=true:=decide_eq_true (by omega);have h3:(0:Int)<((d.length+1:Nat):Int):=by omega
    cases hb:((b.toNat:Int)==47)
    ·
     refine eT func238 λX0 hX=>?_;simp only[f238,go_sem]
     repeat' (first|exact⟨⟩|refine sp ?_|refine uN (hsp) ?_|refine uN (hcc) ?_|((with_reducible apply aA.frz);exact rfl;exact rfl)|refine ai ?_)
     all_goals (simp only[MT,hb];rfl)
    ·
     refine eT func238 λX0 hX=>?_;simp only[f238,go_sem]
     repeat' (first|exact⟨⟩|refine sp ?_|refine uN (hsp) ?_|refine uN (hcc) ?_|((with_reducible apply aA.frz);exact rfl;exact rfl)|refine ai ?_)
     all_goals (simp only[MT,hb];rfl)
 .have h1:decide ((8:Int)<((hops+1:Nat):Int))=true:=decide_eq_true (by simp at q0;omega);refine eT func238 λX0 hX=>?_;simp only[f238,go_sem]
  repeat' (first|exact⟨⟩|refine sp ?_)
theorem zOI{t:List It}{c s:List UInt8}{ps:List (List UInt8)}{hops:Nat}{fo:Bool}(h:OkT t)(hc:c.length<=1000)(hs:s.length<=1000)(hps:ps.length<=50000)(hh:hops<=1000):
  aA prog 179 [.c (.ptr 0 0),.c (.p (.s s)),.c (.p (.b fo))] [zPV t c ps hops] λr h =>
   r=.tup [.c (.p (.b (wA t fo c s ps hops).1.1)),.c (.p (.i .i64 (wA t fo c s ps hops).1.2))]/\h=[zPV t (wA t fo c s ps hops).2.1 (wA t fo c s ps hops).2.2.1 (wA t fo c s ps hops).2.2.2]:=by
 have hj:=zB8 (d:=c) (s:=s) (by omega) (by omega);have htl:=h.len;have hdir:=eR (t:=t) (p:=c) (by omega) h.srt;have hget:=eV (t:=t) (p:=kI c s) (by omega) h.srt h.ne λx hx=>Nat.le_trans (h.dlen x hx) (by decide);have hgl:=h.getd (kI c s);have hnil:(ps == [])=true∨(ps == [])=false:=by cases (ps == [])<;>simp
 have hpd:decide ((0:Int)<(ps.length:Int)) = !(ps == []):=by
  cases ps with
  | nil=>rfl
  | cons p l=>exact decide_eq_true (by simp only[List.length_cons];omega)
 unfold wA;have hjl:(kI c s).length<=2001:=by
  unfold kI;split
  .omega
  .simp only[List.length_append,List.length_cons];omega
 generalize kI c s=q at hj hget hgl hjl ⊢;generalize (ps == [])=pz at hnil hpd ⊢;cases q0:bC t c
 .rw[q0] at hdir;refine eT func179 λX0 hX=>?_;simp only[f179,go_sem]
  repeat' (first|exact⟨⟩|refine sp ?_|refine uF (hj) ?_|((refine aG (id:=2) aF aN [] [0,1,2,3,4,5,6,7,8,9,10] (by decide +kernel) ?_);(repeat' (first|(refine aT ?_)|((refine bL ?_ rfl rfl ?_ ?_);(rotate_left 1);(focus ((repeat' (first|exact⟨⟩|refine sq ?_|refine uF (hdir) ?_));exact rfl));(simp only[aC]))))))
 .rw [q0] at hdir;cases q1:decide ((120:Int)<(q.length:Int))
  .cases hg:aM t q with
   | none =>
    rw[hg] at hget;simp only[Option.getD_none,Option.isSome_none,nd0] at hget;cases pz
    ·
     refine eT func179 λX0 hX=>?_;simp only[f179,go_sem]
     repeat' (first|exact⟨⟩|refine sq ?_|refine uF (hj) ?_|((refine aG (id:=2) aF aN [] [0,1,2,3,4,5,6,7,8,9,10] (by decide +kernel) ?_);(repeat' (first|(refine aT ?_)|((refine bL ?_ rfl rfl ?_ ?_);(rotate_left 1);(focus ((repeat' (first|exact⟨⟩|refine sq ?_|refine uF (hdir) ?_));exact rfl));(simp only[aC])))))|refine uN (hget) ?_)
    ·
     refine eT func179 λX0 hX=>?_;simp only[f179,go_sem]
     repeat' (first|exact⟨⟩|refine sq ?_|refine uF (hj) ?_|((refine aG (id:=2) aF aN [] [0,1,2,3,4,5,6,7,8,9,10] (by decide +kernel) ?_);(repeat' (first|(refine aT ?_)|((refine bL ?_ rfl rfl ?_ ?_);(rotate_left 1);(focus ((repeat' (first|exact⟨⟩|refine sq ?_|refine uF (hdir) ?_));exact rfl));(simp only[aC])))))|refine uN (hget) ?_)
   | some n =>
    rw[hg] at hget hgl;simp only[Option.getD_some,Option.isSome_some] at hget hgl;have hth:=zHl (t:=t) (c:=c) (ps:=ps) (hops:=hops) (d:=n.d) (by omega) hps hh;obtain⟨k,m,tt,d⟩:=n;cases hk:(k==3)
    ·
     refine eT func179 λX0 hX=>?_;simp only[f179,go_sem]
     repeat' (first|exact⟨⟩|refine sq ?_|refine uF (hj) ?_|((refine aG (id:=2) aF aN [] [0,1,2,3,4,5,6,7,8,9,10] (by decide +kernel) ?_);(repeat' (first|(refine aT ?_)|((refine bL ?_ rfl rfl ?_ ?_);(rotate_left 1);(focus ((repeat' (first|exact⟨⟩|refine sq ?_|refine uF (hdir) ?_));exact rfl));(simp only[aC])))))|refine uN (hget) ?_)
    .cases pz
     ·
      refine eT func179 λX0 hX=>?_;simp only[f179,go_sem]
      repeat' (first|exact⟨⟩|refine sq ?_|refine uF (hj) ?_|((refine aG (id:=2) aF aN [] [0,1,2,3,4,5,6,7,8,9,10] (by decide +kernel) ?_);(repeat' (first|(refine aT ?_)|((refine bL ?_ rfl rfl ?_ ?_);(rotate_left 1);(focus ((repeat' (first|exact⟨⟩|refine sq ?_|refine uF (hdir) ?_));exact rfl));(simp only[aC])))))|refine uN (hget) ?_|((with_reducible refine zPE (hth) ?_ ?_ ?_);exact rfl;exact rfl))
     .cases fo
      ·
       refine eT func179 λX0 hX=>?_;simp only[f179,go_sem]
       repeat' (first|exact⟨⟩|refine sq ?_|refine uF (hj) ?_|((refine aG (id:=2) aF aN [] [0,1,2,3,4,5,6,7,8,9,10] (by decide +kernel) ?_);(repeat' (first|(refine aT ?_)|((refine bL ?_ rfl rfl ?_ ?_);(rotate_left 1);(focus ((repeat' (first|exact⟨⟩|refine sq ?_|refine uF (hdir) ?_));exact rfl));(simp only[aC])))))|refine uN (hget) ?_)
      ·
       refine eT func179 λX0 hX=>?_;simp only[f179,go_sem]
       repeat' (first|exact⟨⟩|refine sq ?_|refine uF (hj) ?_|((refine aG (id:=2) aF aN [] [0,1,2,3,4,5,6,7,8,9,10] (by decide +kernel) ?_);(repeat' (first|(refine aT ?_)|((refine bL ?_ rfl rfl ?_ ?_);(rotate_left 1);(focus ((repeat' (first|exact⟨⟩|refine sq ?_|refine uF (hdir) ?_));exact rfl));(simp only[aC])))))|refine uN (hget) ?_|((with_reducible refine zPE (hth) ?_ ?_ ?_);exact rfl;exact rfl))
  ·
   refine eT func179 λX0 hX=>?_;simp only[f179,go_sem]
   repeat' (first|exact⟨⟩|refine sp ?_|refine uF (hj) ?_|((refine aG (id:=2) aF aN [] [0,1,2,3,4,5,6,7,8,9,10] (by decide +kernel) ?_);(repeat' (first|(refine aT ?_)|((refine bL ?_ rfl rfl ?_ ?_);(rotate_left 1);(focus ((repeat' (first|exact⟨⟩|refine sq ?_|refine uF (hdir) ?_));exact rfl));(simp only[aC]))))))
theorem zLL{t:List It}{s:List UInt8}{fo:Bool}(h:OkT t)(hs:s.length<=9223372036854775807):
  aA prog 124 [.c (.p (.sl 5 (aS t))),.c (.p (.s s)),.c (.p (.b fo))] [] λr h=>r=.tup [.c (.p (.s (cR t s fo).1)),.c (.p (.b (cR t s fo).2.1)),.c (.p (.i .i64 (cR t s fo).2.2))]/\h=[]:=by
 have hsp:=CC (s:=s) hs;have hle:=wY (s:=s);have hme:=HW (s:=s);unfold cR;generalize fY s=S at hsp hle hme ⊢;obtain⟨P,e⟩:=S;simp only at hsp hle hme ⊢;generalize hW:(if (e==0)=true then oP t fo 1400 [] P 0 else ([],false,e))=W
 refine eT func124 λX0 hX=>?_;simp only[f124,go_sem]
 repeat' (first|exact⟨⟩|refine sp ?_|refine uN (hsp) ?_)
 refine aP aF aN (α:=Nat × List UInt8 × List (List UInt8) × Nat × Bool × Int) (λx=>⟨75,[(2,.c (.p (.b fo))),(10,.c (.p (.i .i64 x.2.2.2.2.2))),(11,.c (.ptr 0 0)),(12,.c (.p (.b x.2.2.2.2.1)))],[zPV t x.2.1 x.2.2.1 x.2.2.2.1]⟩)
  (λx=>WI t fo W x.1 x.2.1 x.2.2.1 x.2.2.2.1 x.2.2.2.2.1 x.2.2.2.2.2) (λx=>x.1) (1400,[],P,0,true,e) ⟨by simp,hme,by simp,by simp,λh0=>?_,λh0=>?_⟩ (.inl (aB (by rw[hX];rfl) rfl rfl wkS)) ?_
 .subst h0;refine⟨by simp,by simp only;omega,λ_=>⟨rfl,hW⟩,λh0=>?_⟩
  subst h0;exact hW.symm
 .rw[if_neg (by simpa using h0)] at hW;exact hW.symm
 rintro⟨f,c,ps,hops,there,e⟩ hI;simp only at hI;clear hW hsp hle hme;cases q0:(e==0)
 .have he:e≠0:=by simpa using q0
  have hw:=hI.no he;rw[hw];have q1:(e != 0)=true:=by rw[bne,q0];rfl
  have hc:decide ((0:Int)<(ps.length:Int))=true∨decide ((0:Int)<(ps.length:Int))=false:=by cases decide ((0:Int)<(ps.length:Int))<;>simp
  generalize decide ((0:Int)<(ps.length:Int))=b at hc
  repeat' (first|exact⟨⟩|refine sp ?_|refine aY (λ_=>?_) (λ_=>?_))
 .have he:e=0:=eq_of_beq q0;subst he;cases ps with
  | nil =>
   obtain⟨_,_,_,hw⟩:=hI.go rfl;rw[hw rfl]
   repeat' (first|exact⟨⟩|refine sp ?_)
  | cons p ps =>
   obtain⟨k,rfl⟩:∃k,f=k+1:=⟨f-1,by have:=(hI.go rfl).2.1;omega⟩
   have hfl:=hI.fl;obtain rfl:=hI.there_true;obtain⟨hh8,hb,_,_⟩:=hI.go rfl;simp only[List.length_cons] at hb;have h1:decide ((0:Int)<((ps.length+1:Nat):Int))=true:=decide_eq_true (by omega);have h2:(0:Int)<((ps.length+1:Nat):Int):=by omega
   have h3:(1:Int)<=((ps.length+1:Nat):Int):=by omega
   have hg:(Go.Dm.encS (p::ps)).getD 0 []=[.s p]:=rfl;have hdr:(Go.Dm.encS (p::ps)).drop 1=Go.Dm.encS ps:=rfl;have hpl:=hI.pl p List.mem_cons_self;have hcl:=hI.cl;cases q1:(p == [46])
   .cases q2:(p == [46,46])
    .have hdn:=hI.down q1 q2;have hdc:=zOI (t:=t) (c:=c) (s:=p) (ps:=ps) (hops:=hops) (fo:=fo) h (by omega) (by omega) (by omega) (by omega);generalize wA t fo c p ps hops=D at hdn hdc;obtain⟨⟨th,e'⟩,c',ps',h'⟩:=D;simp only at hdn hdc;clear hI
     repeat' (first|exact⟨⟩|refine sp ?_|refine zQ4 hdc rfl rfl ?_|refine ai ?_)
     exact dE (k,c',ps',h',th,e') hdn (by simp only;omega) (aB rfl rfl rfl wkS)
    .have hdt:=hI.dots q1 q2;clear hI
     repeat' (first|exact⟨⟩|refine sp ?_|refine uF (dV (p:=c) (by omega)) ?_|refine ai ?_)
     exact dE (k,aU c,ps,hops,true,0) hdt (by simp only;omega) (aB rfl rfl rfl wkS)
   .have hdt:=hI.dot q1;clear hI
    repeat' (first|exact⟨⟩|refine sp ?_|refine ai ?_)
    exact dE (k,c,ps,hops,true,0) hdt (by simp only;omega) (aB rfl rfl rfl wkS)
def VU(a b:List UInt8)(t:List It)(k:Nat):List It:=(t.take k).map (tO a b)++t.drop k
theorem zJP(a b:List UInt8)(t:List It)(k:Nat):(VU a b t k).length=t.length:=by
 simp only[VU,List.length_append,List.length_map,List.length_take,List.length_drop];omega
theorem zF2{a b:List UInt8}{t:List It}{k:Nat}{x:It}(hx:t[k]?=some x):(VU a b t k)[k]?=some x:=by
 have hk:=(List.getElem?_eq_some_iff.1 hx).1;have hl:((t.take k).map (tO a b)).length=k:=by rw[List.length_map,List.length_take];omega
 unfold VU;rw[List.getElem?_append_right (by omega),hl,Nat.sub_self,List.getElem?_drop,Nat.add_zero];exact hx
theorem zJQ{a b:List UInt8}{t:List It}{k:Nat}{x:It}(hx:t[k]?=some x):(VU a b t k).set k (tO a b x)=VU a b t (k+1):=by
 have hk:=(List.getElem?_eq_some_iff.1 hx).1;have hl:((t.take k).map (tO a b)).length=k:=by rw[List.length_map,List.length_take];omega
 unfold VU;rw[List.set_append_right _ _ (by omega),hl,Nat.sub_self,drop_at hx,List.set_cons_zero,List.take_add_one,hx,List.map_append];simp
theorem zG0{l:List (List PV)}{k:Nat}{e:List PV}(h:k<l.length):(l.set k e).getD k []=e:=by
 rw[List.getD_eq_getElem?_getD,List.getElem?_set_self h];rfl
theorem zPc{t:List It}{a b:List UInt8}(h:OkT t)(ha:a.length<=1000000000)(hb:b.length<=1000000000):
  aA prog 244 [.c (.p (.sl 5 (aS t))),.c (.p (.s a)),.c (.p (.s b))] [] λr h =>
   r=.tup [.c (.p (.sl 5 (aS (jQ t a b).1))),.c (.p (.i .i64 (jQ t a b).2))]/\h=[]:=by
 have htl:=h.len;have hdl:∀x∈t,x.n.d.length<=140737488355328:=λx hx=>Nat.le_trans (h.dlen x hx) (by decide);have hmay:=zFT (t:=t) (a:=a) (b:=b) (by omega) h.srt ha hb;refine aV ?_;by_cases h0:zJK t a b=0
 .have hpre:a≠[]/\b≠[]/\bW b=true/\(aM t b).isSome=false/\jQ t a b=eN a b (bR t a) t:=by
   unfold zJK at h0;unfold jQ;split at h0
   .cases h0
   .rename_i h1;rw[if_neg h1];split at h0
    .cases h0
    .rename_i h2;rw[if_neg h2];split at h0
     .cases h0
     .rename_i h3;rw[if_neg h3];split at h0
      .cases h0
      .rename_i h4;rw[if_neg h4];split at h0
       .cases h0
       .rename_i h5;rw[if_neg h5];simp only[Bool.or_eq_true,not_or,beq_iff_eq,Bool.not_eq_true',Bool.not_eq_false] at h1;exact⟨h1.1.1.1,h1.1.1.2,h1.2,by simpa using h4,rfl⟩
  obtain⟨p1,p2,p3,p4,p5⟩:=hpre;rw[p5,zM3 h p1 p2 p3 p4];have hnd:=BZ h p1 p2 p4;rw[h0] at hmay;have hpl:=h.plen;have hle0:t.length<=(aS t).length:=Nat.le_of_eq (cN t).symm;clear p5 p2 p3 p4 h0;have hR:∃R,(if (NH t a b).all fD then (gN (NH t a b),0) else (([],12):List It × Int))=R:=⟨_,rfl⟩
  obtain⟨R,hR⟩:=hR;rw[hR];have hRP:=PLift.up hR;clear hR;refine eT func244 λX0 hX=>?_;simp only[f244,go_sem]
  repeat' (first|exact⟨⟩|refine sp ?_|refine uF (hmay) ?_|refine AK (by omega) hdl ?_)
  refine aP aF aN (α:=Nat) (λk=>⟨60,[(1,.c (.p (.s a))),(2,.c (.p (.s b))),(9,.c (.own 0 0 t.length)),(21,.c (.own 0 0 t.length)),(22,.c (.p (.i .i64 t.length))),(23,.c (.p (.i .i64 k)))],[.arr 5 (aS (VU a b t k)) false]⟩)
   (λk=>k<=t.length/\((t.take k).map (tO a b)).all fD=true) (λk=>t.length-k) 0 ⟨Nat.zero_le _,rfl⟩ (.inl (aB (by rw[hX];rfl) rfl rfl wkS)) ?_
  rintro k ⟨hk,hs⟩;by_cases hlt:k<t.length
  .have hx:t[k]?=some t[k]:=List.getElem?_eq_getElem hlt;have hg:=bZ (zF2 (a:=a) (b:=b) hx);have hst:=zJQ (a:=a) (b:=b) hx;have hml:=zJP a b t k;have h1:decide ((k:Int)<(t.length:Int))=true:=decide_eq_true (by omega);have w1:IntKind.i64.wrap ((k:Int)+1)=k+1:=wrap_i64 (by omega) (by omega);have hxl:=hpl _ (List.getElem_mem hlt);have hnx:((t.take (k+1)).map (tO a b)).all fD=fD (tO a b t[k]):=by
    rw[List.take_add_one,hx,List.map_append,List.all_append,hs,Bool.true_and];simp
   have hbad:fD (tO a b t[k])=false->(NH t a b).all fD=false:=λhb=>by
    rw[Bool.eq_false_iff];intro h2;have:=List.all_eq_true.1 h2 _ (List.mem_map_of_mem (f:=tO a b) (List.getElem_mem hlt));rw[hb] at this;cases this
   generalize t[k]=x at hx hg hst hxl hnx hbad;cases q1:(x.p==a)<;>cases q2:aO a x.p
   case false.false =>
    have hmi:tO a b x=x:=by unfold tO mvd;rw[q1,q2];rfl
    have hsx:fD x=true:=by
     simp only[fD,Bool.not_eq_true',decide_eq_false_iff_not];omega
    have hx120:decide ((120:Int)<(x.p.length:Int))=false:=by simpa[fD] using hsx
    rw [hmi] at hst hnx;have hst2:VU a b t k=VU a b t (k+1):=by
     rw [<- hst];exact(List.ext_getElem? λj=>by
      rw[List.getElem?_set];split
      .rename_i e;subst e;rw[zF2 hx];split
       .rfl
       .rename_i hh;rw[hml] at hh;exact absurd hlt hh
      .rfl)
    have hJ:k+1<=t.length/\((t.take (k+1)).map (tO a b)).all fD=true:=⟨by omega,by rw[hnx];exact hsx⟩
    have hS:=PLift.up hst2;have hlr:k<(VU a b t k).length:=by omega
    clear hbad hmi hst hnx hx hst2 hml
    repeat' (first|exact⟨⟩|refine sp ?_|refine uF (cQ ha) ?_|refine ai ?_)
    exact dE (k+1) hJ (by omega) (aB rfl (by rw[hS.down];rfl) rfl wkS)
   all_goals
    have hmi:tO a b x=⟨b++x.p.drop a.length,x.n⟩:=by unfold tO mvd;rw[q1,q2];rfl
    rw [hmi] at hst hnx hbad;have hla:a.length<=x.p.length:=by
     first|(rw[eq_of_beq q1];exact Nat.le_refl _)|exact dR q2
    cases q3:fD ⟨b++x.p.drop a.length,x.n⟩
   all_goals have hlr:k<(VU a b t k).length:=by omega
   all_goals have hse:=uE (VU a b t k) k ⟨b++x.p.drop a.length,x.n⟩
   all_goals simp only at hse
   all_goals rw[hst] at hse
   all_goals have hS:=PLift.up hse
   all_goals have hlr2:k<(aS (VU a b t k)).length:=by rw[cN];exact hlr
   all_goals have hdp:b.length+(x.p.drop a.length).length<=9223372036854775807:=by rw[List.length_drop];omega
   all_goals have hki:(k:Int)<(t.length:Int):=by omega
   all_goals have hk0:(0:Int)<=(k:Int):=by omega
   all_goals have hq:decide ((120:Int)<((b.length+(x.p.drop a.length).length:Nat):Int)) = !(fD ⟨b++x.p.drop a.length,x.n⟩):=by unfold fD;rw[Bool.not_not,List.length_append]
   all_goals rw[q3] at hq hnx
   all_goals simp only[Bool.not_true,Bool.not_false] at hq
   case' false.true.false|true.false.false|true.true.false =>
    obtain rfl:(([],12):List It × Int)=R:=by rw[<- hRP.down,hbad q3];rfl
    clear hbad hmi hst hnx hx hml hse
    repeat' (first|simp only[*,go_sem,Nat.reduceLT,Nat.reduceLeDiff,Nat.reduceEqDiff,↓reduceIte,Nat.reduceAdd,zG0 hlr2,List.length_set,List.length_append]|refine uF (cQ ha) ?_|refine ai ?_)
   case' false.true.true|true.false.true|true.true.true =>
    have hJ:k+1<=t.length/\((t.take (k+1)).map (tO a b)).all fD=true:=⟨by omega,hnx⟩
    clear hbad hmi hst hnx hx hml hse
    repeat' (first|simp only[*,go_sem,Nat.reduceLT,Nat.reduceLeDiff,Nat.reduceEqDiff,↓reduceIte,Nat.reduceAdd,zG0 hlr2,List.length_set,List.length_append]|refine uF (cQ ha) ?_|refine ai ?_)
   all_goals first|exact .inr ⟨_,rfl⟩|exact dE (k+1) hJ (by omega) (aB rfl (by rw[<- hS.down];rfl) rfl wkS)
  .have h1:decide ((k:Int)<(t.length:Int))=false:=decide_eq_false (by omega);have hk2:k=t.length:=by omega
   subst hk2;have hmt:VU a b t t.length=NH t a b:=by
    unfold VU NH;rw[List.take_length,List.drop_length,List.append_nil]
   rw [List.take_length] at hs;obtain rfl:(gN (NH t a b),(0:Int))=R:=by
    rw[<- hRP.down];have:(NH t a b).all fD=true:=hs;rw[this];rfl
   rw[hmt];have hml:(NH t a b).length=t.length:=List.length_map _;have hu:=pO hnd;rw[<- hml];have hsl:(NH t a b).length<4611686018427387904:=by omega
   have hml2:=DP (NH t a b);clear hRP hs hnd hpl hmt hlt hml;clear h1;generalize NH t a b=q at hu hsl hml2 ⊢;have h1:decide ((q.length:Int)<(q.length:Int))=false:=decide_eq_false (by omega)
   repeat' (first|simp only[*,go_sem,Nat.reduceLT,Nat.reduceEqDiff,↓reduceIte,List.set_cons_zero]|refine zNy (id:=0) (l:=q) hu hsl rfl ?_)
   all_goals rw[List.take_of_length_le (by rw[hml2];exact Nat.le_refl _)]
 .have hne:(zJK t a b==0)=false:=by simpa using h0
  have hme:jQ t a b=([],zJK t a b):=by
   unfold zJK at h0 ⊢;unfold jQ;split
   .rfl
   .rename_i h1;rw[if_neg h1] at h0;split
    .rfl
    .rename_i h2;rw[if_neg h2] at h0;split
     .rfl
     .rename_i h3;rw[if_neg h3] at h0;split
      .rfl
      .rename_i h4;rw[if_neg h4] at h0;split
       .rfl
       .rename_i h5;rw[if_neg h5] at h0;exact absurd rfl h0
  rw[hme];have hne2:(zJK t a b != 0)=true:=by rw[bne,hne];rfl
  generalize zJK t a b=e at *;clear hme;refine eT func244 λX0 hX=>?_;simp only[f244,go_sem]
  repeat' (first|exact⟨⟩|refine sp ?_|refine uF (hmay) ?_)
  all_goals exact .inr ⟨_,rfl⟩
section
abbrev plc(t:List It)(p:List UInt8)(is:Bool)(k m:Int)(tt:Nat)(d:List UInt8):List CV:=[.p (.sl 5 (aS t)),.p (.s p),.p (.b is),.p (.i .i64 k),.p (.i .i64 m),.p (.f tt),.p (.sl 1 (bU d))]
abbrev clc(k:Int)(p q:List UInt8)(m:Int)(tt:Nat)(a n:Int)(d:List UInt8):List CV:=[.p (.i .i64 k),.p (.s p),.p (.s q),.p (.i .i64 m),.p (.f tt),.p (.i .i64 a),.p (.i .i64 n),.p (.sl 1 (bU d))]
abbrev anc(e:Int)(k m:Int)(tt:Nat)(d b:List UInt8)(l:List (List UInt8)):List CV:=[.p (.i .i64 e),.p (.i .i64 k),.p (.i .i64 m),.p (.f tt),.p (.sl 1 (bU d)),.p (.sl 1 (bU b)),.p (.sl 1 (Go.Dm.encS l))]
theorem zDi{k:Int}:aA prog 74 [.c (.p (.i .i64 k))] [] λr h=>r=.c (.p (.b (nH k)))/\h=[]:=by
 unfold nH;refine eT func74 λX0 hX=>?_;simp only[f74,go_sem]
 repeat' (first|exact⟨⟩|refine sp ?_|with_reducible refine aY (λ_=>?_) (λ_=>?_))
 all_goals first|(simp_all;done)|(simp_all;rfl)
theorem zFe{k:Int}:aA prog 125 [.c (.p (.i .i64 k))] [] λr h=>r=.c (.p (.b (gU k)))/\h=[]:=by
 unfold gU;refine eT func125 λX0 hX=>?_;simp only[f125,go_sem]
 repeat' (first|exact⟨⟩|refine sp ?_|with_reducible refine aH (λ_=>?_) (λ_=>?_))
 all_goals simp_all
theorem fN{m:Int}:aA prog 239 [.c (.p (.i .i64 m))] [] λr h=>r=.c (.p (.b (kS m)))/\h=[]:=by
 unfold kS;refine eT func239 λX0 hX=>?_;simp only[f239,go_sem]
 repeat' (first|exact⟨⟩|refine sp ?_|with_reducible refine aY (λ_=>?_) (λ_=>?_))
 all_goals simp_all
section places
variable {t:List It}{p:List UInt8}{is:Bool}{k m:Int}{tt:Nat}{d:List UInt8}
theorem kV:aA prog 242 [.agg (plc t p is k m tt d)] [] λr h=>r=.c (.p (.b (p == [])))/\h=[]:=by
 refine eT func242 λX0 hX=>?_;simp only[f242,go_sem]
 repeat' (first|exact⟨⟩|refine sp ?_)
theorem dS:aA prog 181 [.agg (plc t p is k m tt d)] [] λr h=>r=.c (.p (.b (is && k==2)))/\h=[]:=by
 refine eT func181 λX0 hX=>?_;simp only[f181,go_sem]
 repeat' (first|exact⟨⟩|refine sp ?_|with_reducible refine aY (λ_=>?_) (λ_=>?_))
 all_goals simp_all
theorem iL{k' m':Int}{tt':Nat}{d':List UInt8}(h:OkT t)(hp:p.length<=1000000000)(hd:d'.length<=140737488355328)(ht:tt'<18446744073709551616):
  aA prog 241 [.agg (plc t p is k m tt d),.agg (ndc k' m' tt' d')] [] λr h=>r=.tup [.c (.p (.sl 5 (aS (mE t p ⟨k',m',tt',d'⟩).1))),.c (.p (.i .i64 (mE t p ⟨k',m',tt',d'⟩).2))]/\h=[]:=by
 have hput:=zQN (p:=p) (k:=k') (m:=m') (d:=d') h hp hd ht;refine eT func241 λX0 hX=>?_;simp only[f241,go_sem]
 repeat' (first|exact⟨⟩|refine sp ?_|refine uN (hput) ?_)
theorem zLj:aA prog 186 [.agg (plc t p is k m tt d)] [] λr h=>r=.c (.p (.i .i64 (wC is ⟨k,m,tt,d⟩)))/\h=[]:=by
 unfold wC zAh;cases is
 ·
  refine eT func186 λX0 hX=>?_;simp only[f186,go_sem]
  repeat' (first|exact⟨⟩|refine sq ?_)
  all_goals rfl
 .cases hk:(k==2)
  ·
   refine eT func186 λX0 hX=>?_;simp only[f186,go_sem]
   repeat' (first|exact⟨⟩|refine sq ?_|refine uF (dS) ?_)
  ·
   refine eT func186 λX0 hX=>?_;simp only[f186,go_sem]
   repeat' (first|exact⟨⟩|refine sq ?_|refine uF (dS) ?_)
theorem zRh(h:OkT t)(hp:p.length<=1000000000):aA prog 126 [.c (.p (.sl 5 (aS t))),.c (.p (.s p)),.c (.p (.b is))] [] λr h=>r=.agg (plc t p is (nodeAt t p).k (nodeAt t p).m (nodeAt t p).t (nodeAt t p).d)/\h=[]:=by
 have htl:=h.len;have hget:=eV (t:=t) (p:=p) (by omega) h.srt h.ne λx hx=>Nat.le_trans (h.dlen x hx) (by decide);refine aV ?_;unfold nodeAt;generalize (aM t p).getD nd0=n at hget ⊢;generalize (aM t p).isSome=b at hget;obtain⟨k,m,tt,d⟩:=n;cases hpz:(p == [])
 ·
  refine eT func126 λX0 hX=>?_;simp only[f126,go_sem]
  repeat' (first|exact⟨⟩|refine sp ?_|refine uN (hget) ?_)
 ·
  refine eT func126 λX0 hX=>?_;simp only[f126,go_sem]
  repeat' (first|exact⟨⟩|refine sp ?_|refine uN (hget) ?_)
  all_goals exact .inr ⟨_,rfl⟩
end places
end
end Go.Proofs.YtflcjdohmojepaaGreatDoor
end
