/- Part 49 of the proof of roomMerges_card, set without needless blanks. No condition. -/
import Derived.Test.YtflcjdohmojepaaGreatDoorM47
set_option linter.all false
set_option maxRecDepth 100000
set_option maxHeartbeats 16000000
section
namespace Go.Proofs.YtflcjdohmojepaaGreatDoor
open Go Go.Dm Go.Proofs.Tryz
theorem zOn(b:UInt8):((b.toNat:Int)==47)=(b==47):=by
 rw[Bool.eq_iff_iff];simp only[beq_iff_eq];constructor
 .intro h;have h2:b.toNat=47:=by omega
  exact UInt8.toNat_inj.1 h2
 .rintro rfl;rfl
theorem zNP{l:List RI}(hl:l.length<=9223372036854775807)(hd:∀x∈l,x.n.d.length<=9223372036854775807)(hdx:∀x∈l,x.n.x<18446744073709551616):
  aA prog 6 [.c (.p (.sl 6 (Go.Dm.encI l)))] [] λr h=>r=.c (.p (.sl 5 (aS (ZI l))))/\h=[]:=by
 refine aV ?_;refine eT func6 λX0 hX=>?_;simp only[Tryz.f6,go_sem]
 repeat' (first|exact⟨⟩|refine sp ?_)
 refine zNW 3 5 rfl ?_;refine aP aF aN (α:=Nat × List It) (λx=>⟨105,[(0,.c (.p (.sl 6 (Go.Dm.encI l)))),(3,.c (.p (.sl 5 (aS x.2)))),(4,.c (.p (.i .i64 x.1)))],[]⟩)
  (λx=>x.1<=l.length/\x.1<=30/\(l.take x.1).foldl DU []=x.2) (λx=>l.length-x.1) (0,[]) ⟨Nat.zero_le _,Nat.zero_le _,rfl⟩ (.inl (aB (by rw[hX];rfl) rfl rfl wkS)) ?_
 rintro⟨i,t⟩ ⟨hi,hi2,htq⟩;simp only at hi hi2 htq;have ht:OkT t:=htq▸MY OkT.nil λx hm=>hdx x (List.take_subset _ _ hm);by_cases hlt:i<l.length
 .by_cases hl2:i<30
  .have hx:l[i]?=some l[i]:=List.getElem?_eq_getElem hlt;have hstep:=zC2 (t:=[]) hx;rw[htq] at hstep;clear htq;have hg:=zMq hx;have h1:decide ((i:Int)<(l.length:Int))=true:=decide_eq_true (by omega);have h30:decide ((i:Int)<30)=true:=decide_eq_true (by omega);have w1:IntKind.i64.wrap ((i:Int)+1)=i+1:=wrap_i64 (by omega) (by omega);have hxd:=hd _ (List.mem_of_getElem? hx);have hxx:=hdx _ (List.mem_of_getElem? hx);generalize l[i]=x at hx hg hstep hxd hxx;have hpl:=mY x.p;rw[show DU t x=zHn (xD (tE x.p) (tE x.p).length 0 t) (tE x.p) (EX x.n) from rfl] at hstep
   obtain ⟨nn,hnq,⟨hnn,hnt⟩,hnc⟩:∃nn:Nd,EX x.n=nn/\(nn.d.length<=60/\nn.t<18446744073709551616)/\aA prog 29 [.agg (rnc x.n.k x.n.m x.n.t x.n.x x.n.d)] [] λr h=>r=.agg (ndc nn.k nn.m nn.t nn.d)/\h=[] :=
    ⟨EX x.n,rfl,⟨RT x.n,zQ hxx⟩,zGf hxd⟩
   rw[hnq] at hstep;clear hnq;have hSP:=PLift.up hstep;clear hstep
   repeat' (first|exact⟨⟩|refine sp ?_|refine uF (ZR) ?_|refine ai ?_)
   have hstep:=hSP.down;clear hSP;generalize tE x.p=p at hpl hstep ⊢;obtain⟨U,hUq⟩:∃U,xD p p.length 0 t=U:=⟨_,rfl⟩;rw[hUq] at hstep;have hSP:=PLift.up hstep;clear hstep;refine aP aF aN (α:=Nat × List It) (λx=>⟨105,[(0,.c (.p (.sl 6 (Go.Dm.encI l)))),(3,.c (.p (.sl 5 (aS x.2)))),(4,.c (.p (.i .i64 i))),(5,.c (.p (.s p))),(6,.c (.p (.i .i64 x.1)))],[]⟩)
    (λx=>x.1<=p.length/\OkT x.2/\xD p (p.length-x.1) x.1 x.2=U) (λx=>p.length-x.1) (0,t) ⟨Nat.zero_le _,ht,hUq⟩ (.inl (aB (by rw[hX];rfl) rfl rfl wkS)) ?_
   clear ht hUq hi2;rintro⟨k,u⟩ ⟨hk,hu,hU⟩;simp only at hk hu hU;have hul:=hu.len;have hup:∀x∈u,x.p.length<=9223372036854775807:=λx hx=>Nat.le_trans (hu.plen x hx) (by decide);by_cases hlk:k<p.length
   .have hpx:p[k]?=some p[k]:=List.getElem?_eq_getElem hlk;have hs:=zC1 (u:=u) hpx;rw[hU] at hs;clear hU;have hg2:=XB hpx;have h2:decide ((k:Int)<(p.length:Int))=true:=decide_eq_true (by omega);have w2:IntKind.i64.wrap ((k:Int)+1)=k+1:=wrap_i64 (by omega) (by omega);have htk:(p.take k).length<=11:=Nat.le_trans (List.length_take_le ..) (Nat.le_trans hk hpl);have h47:=zOn p[k];generalize p[k]=b at hpx hg2 hs h47;cases c1:(b==47)
    .rw[c1] at hs h47;rw[if_neg (by simp)] at hs;have hQ:=PLift.up hs;clear hs c1
     repeat' (first|exact⟨⟩|refine sp ?_|refine ai ?_)
     exact dE (k+1,u) ⟨by omega,hu,hQ.down.symm⟩ (by simp only;omega) (aB rfl rfl rfl wkS)
    .rw [c1] at hs h47;cases c2:bC u (p.take k)
     .rw [c2] at hs;rw[if_pos (by simp)] at hs;cases c3:(aM u (p.take k)).isSome
      .rw [c3,if_neg (by simp)] at hs;cases c4:((mE u (p.take k) ⟨2,493,0,[]⟩).2==0)
       .rw[show mK u (mE u (p.take k) ⟨2,493,0,[]⟩)=u by unfold mK;rw[c4];rfl] at hs
        have hQ:=PLift.up hs;clear hs c1
        repeat' (first|exact⟨⟩|refine sp ?_|refine uN (oA (t:=u) (by omega)) ?_|refine uN (mQ (t:=u) (by omega)) ?_|refine uN (zGD (t:=u) (by omega) (by omega) hup) ?_|refine ai ?_)
        exact dE (k+1,u) ⟨by omega,hu,hQ.down.symm⟩ (by simp only;omega) (aB rfl rfl rfl wkS)
       .rw[show mK u (mE u (p.take k) ⟨2,493,0,[]⟩)=(mE u (p.take k) ⟨2,493,0,[]⟩).1 by unfold mK;rw[c4];rfl] at hs
        have hQ:=PLift.up hs;have hpk:=hu.put (p:=p.take k) (n:=⟨2,493,0,[]⟩) (show (0:Nat)<18446744073709551616 by decide) (eq_of_beq c4)
        clear hs c1
        repeat' (first|exact⟨⟩|refine sp ?_|refine uN (oA (t:=u) (by omega)) ?_|refine uN (mQ (t:=u) (by omega)) ?_|refine uN (zGD (t:=u) (by omega) (by omega) hup) ?_|refine ai ?_)
        exact dE (k+1,_) ⟨by omega,hpk,hQ.down.symm⟩ (by simp only;omega) (aB rfl rfl rfl wkS)
      .rw[c3,if_pos rfl] at hs
       replace hs:=hs.symm
       subst hs;clear c1
       repeat' (first|exact⟨⟩|refine sp ?_|refine uN (oA (t:=u) (by omega)) ?_|refine uN (mQ (t:=u) (by omega)) ?_|refine uN (hnc) ?_|refine uN (SI (t:=u) (by omega) (by omega) hup (by omega)) ?_|refine aH (λ_=>?_) (λ_=>?_)|refine aY (λ_=>?_) (λ_=>?_)|refine ai ?_)
       all_goals (have hstep:=hSP.down;simp only[zHn,mK,Bool.and_true,Bool.and_false,Bool.false_and,Bool.false_eq_true,if_true,if_false, *] at hstep)
       all_goals (refine dE (i+1,_) ⟨?_,?_,hstep⟩ ?_ (aB rfl rfl rfl ?_)<;>first|omega|(simp only;omega;done)|(simp[aQ,aX,aI,aL,aJ,];done)|(simp[aQ,aX,aI,aL,aJ,EI,CY,EH,gI,nT,zD];rfl))
     .rw[c2] at hs;rw[if_neg (by simp)] at hs;have hQ:=PLift.up hs;clear hs c1
      repeat' (first|exact⟨⟩|refine sp ?_|refine uN (oA (t:=u) (by omega)) ?_|refine ai ?_)
      exact dE (k+1,u) ⟨by omega,hu,hQ.down.symm⟩ (by simp only;omega) (aB rfl rfl rfl wkS)
   .have h2:decide ((k:Int)<(p.length:Int))=false:=decide_eq_false (by omega);rw[show p.length-k=0 by omega,xD] at hU
    subst hU
    repeat' (first|exact⟨⟩|refine sp ?_|refine uN (mQ (t:=u) (by omega)) ?_|refine uN (hnc) ?_|refine uN (SI (t:=u) (by omega) (by omega) hup (by omega)) ?_|refine aH (λ_=>?_) (λ_=>?_)|refine aY (λ_=>?_) (λ_=>?_)|refine ai ?_)
    all_goals (have hstep:=hSP.down;simp only[zHn,mK,Bool.and_true,Bool.and_false,Bool.false_and,Bool.false_eq_true,if_true,if_false, *] at hstep)
    all_goals (refine dE (i+1,_) ⟨?_,?_,hstep⟩ ?_ (aB rfl rfl rfl ?_)<;>first|omega|(simp only;omega;done)|(simp[aQ,aX,aI,aL,aJ,];done)|(simp[aQ,aX,aI,aL,aJ,EI,CY,EH,gI,nT,zD];rfl))
  .have h1:decide ((i:Int)<30)=false:=decide_eq_false (by omega);have h0:decide ((i:Int)<(l.length:Int))=true:=decide_eq_true (by omega);rw[VD (.inr (by omega)) hi2] at htq;subst htq
   repeat' (first|exact⟨⟩|refine sp ?_)
 .have h1:decide ((i:Int)<(l.length:Int))=false:=decide_eq_false (by omega);rw[VD (.inl (by omega)) hi2] at htq;subst htq
  repeat' (first|exact⟨⟩|refine sp ?_)
theorem zHp{t0:List It}{l:List RU}(ht0:OkT t0)(hl:l.length<=9223372036854775807)(hd:∀x∈l,x.n.d.length<=9223372036854775807)(hdx:∀x∈l,x.n.x<18446744073709551616):
  aA prog 7 [.c (.p (.sl 5 (aS t0))),.c (.p (.sl 8 (encU l)))] [] λr h=>r=.c (.p (.sl 5 (aS (zC3 t0 l))))/\h=[]:=by
 refine aV ?_;refine eT func7 λX0 hX=>?_;simp only[Tryz.f7,go_sem]
 repeat' (first|exact⟨⟩|refine sp ?_)
 refine aP aF aN (α:=Nat × List It) (λx=>⟨141,[(0,.c (.p (.sl 5 (aS x.2)))),(1,.c (.p (.sl 8 (encU l)))),(5,.c (.p (.i .i64 x.1)))],[]⟩)
  (λx=>x.1<=l.length/\x.1<=14/\(l.take x.1).foldl yS t0=x.2) (λx=>l.length-x.1) (0,t0) ⟨Nat.zero_le _,Nat.zero_le _,rfl⟩ (.inl (aB (by rw[hX];rfl) rfl rfl wkS)) ?_
 rintro⟨i,t⟩ ⟨hi,hi2,htq⟩;simp only at hi hi2 htq;have ht:OkT t:=htq▸MZ ht0 λx hm=>hdx x (List.take_subset _ _ hm);by_cases hlt:i<l.length
 .by_cases hl2:i<14
  .have hx:l[i]?=some l[i]:=List.getElem?_eq_getElem hlt;have hstep:=zC4 (t:=t0) hx;rw[htq] at hstep;have hg:=zMt hx;have h1:decide ((i:Int)<(l.length:Int))=true:=decide_eq_true (by omega);have h14:decide ((i:Int)<14)=true:=decide_eq_true (by omega);have w1:IntKind.i64.wrap ((i:Int)+1)=i+1:=wrap_i64 (by omega) (by omega);have hxd:=hd _ (List.mem_of_getElem? hx);have hxx:=hdx _ (List.mem_of_getElem? hx);generalize l[i]=x at hx hg hstep hxd hxx;have hpl:=mY x.at';have hul:=ht.len;have hup:∀x∈t,x.p.length<=9223372036854775807:=λx hx=>Nat.le_trans (ht.plen x hx) (by decide);have huq:∀x∈t,x.p.length<=1000000000:=λx hx=>Nat.le_trans (ht.plen x hx) (by decide);have hgd:=ht.getd;have hgt:=ht.gett;obtain⟨nn,hnq,⟨hnn,hnt⟩,hnc⟩:∃nn:Nd,Nonempty (PLift (EX x.n=nn))/\(nn.d.length<=60/\nn.t<18446744073709551616)/\aA prog 29 [.agg (rnc x.n.k x.n.m x.n.t x.n.x x.n.d)] [] λr h=>r=.agg (ndc nn.k nn.m nn.t nn.d)/\h=[] :=
    ⟨EX x.n,⟨⟨rfl⟩⟩,⟨RT x.n,zQ hxx⟩,zGf hxd⟩
   have key:∃j:Nat,0<t.length->(IntKind.i64.wrap (x.at'.tdiv 3)) % (t.length:Int)=(j:Int)/\j<t.length:=by
    refine⟨((IntKind.i64.wrap (x.at'.tdiv 3)) % (t.length:Int)).toNat,λh0=>?_⟩;have:=Int.emod_nonneg (IntKind.i64.wrap (x.at'.tdiv 3)) (show (t.length:Int)≠0 by omega)
    have:=Int.emod_lt_of_pos (IntKind.i64.wrap (x.at'.tdiv 3)) (show (0:Int)<t.length by omega)
    omega
   obtain⟨j,hj⟩:=key;by_cases htl:0<t.length
   .obtain⟨hj,hjl⟩:=hj htl;have hy:t[j]?=some t[j]:=List.getElem?_eq_getElem hjl;have hgy:=bZ hy;have h2:decide ((0:Int)<(t.length:Int))=true:=decide_eq_true (by omega);have hyq:t.getD ((IntKind.i64.wrap (x.at'.tdiv 3)) % (t.length:Int)).toNat ⟨[],nd0⟩=t[j]:=by rw[hj,Int.toNat_natCast];simp[List.getD,hy]
    have hyq2:t.getD (j:Int).toNat ⟨[],nd0⟩=t[j]:=by rw[Int.toNat_natCast];simp[List.getD,hy]
    generalize t[j]=y at hy hgy hyq hyq2;have hyp:=ht.plen y (List.mem_of_getElem? hy)
    repeat' (first|exact⟨⟩|refine sp ?_|refine uF (ZR) ?_|refine uF (xG (by omega) (by omega)) ?_|refine uN (mQ (t:=t) (by omega)) ?_|refine uN (CW (t:=t) (by omega) (by omega) hup) ?_|refine uF (zDh) ?_|refine uF (sC _) ?_|refine uN (zLO (by omega) (by omega) hxd) ?_|refine uN (hnc) ?_|refine uN (SI (t:=t) (by omega) (by omega) hup (by first|omega|exact Nat.le_trans (hgd _) (by decide)|exact Nat.le_trans (List.length_take_le ..) (by decide))) ?_|refine uN (zF3 (t:=t) (by omega) (by omega) (by first|omega|exact Nat.le_trans (mY _) (by decide)) huq) ?_|refine aH (λ_=>?_) (λ_=>?_)|refine aY (λ_=>?_) (λ_=>?_)|refine ai ?_)
    all_goals (obtain⟨⟨hnq'⟩⟩:=hnq;simp only[yS,mK,mD,Bool.true_and,Bool.and_true,Bool.and_false,Bool.false_and,Bool.false_eq_true,if_true,if_false, *] at hstep)
    all_goals (refine dE (i+1,_) ⟨?_,?_,hstep⟩ ?_ (aB rfl rfl rfl ?_)<;>first|omega|(simp only;omega;done)|(simp[aQ,aX,aI,aL,aJ,];done)|(simp[aQ,aX,aI,aL,aJ,];rfl))
   .have h2:decide ((0:Int)<(t.length:Int))=false:=decide_eq_false (by omega);clear hj
    repeat' (first|exact⟨⟩|refine sp ?_|refine uF (ZR) ?_|refine uF (xG (by omega) (by omega)) ?_|refine uN (mQ (t:=t) (by omega)) ?_|refine uN (CW (t:=t) (by omega) (by omega) hup) ?_|refine uF (zDh) ?_|refine uF (sC _) ?_|refine uN (zLO (by omega) (by omega) hxd) ?_|refine uN (hnc) ?_|refine uN (SI (t:=t) (by omega) (by omega) hup (by first|omega|exact Nat.le_trans (hgd _) (by decide)|exact Nat.le_trans (List.length_take_le ..) (by decide))) ?_|refine uN (zF3 (t:=t) (by omega) (by omega) (by first|omega|exact Nat.le_trans (mY _) (by decide)) huq) ?_|refine aH (λ_=>?_) (λ_=>?_)|refine aY (λ_=>?_) (λ_=>?_)|refine ai ?_)
    all_goals (obtain⟨⟨hnq'⟩⟩:=hnq;simp only[yS,mK,mD,Bool.true_and,Bool.and_true,Bool.and_false,Bool.false_and,Bool.false_eq_true,if_true,if_false, *] at hstep)
    all_goals (refine dE (i+1,_) ⟨?_,?_,hstep⟩ ?_ (aB rfl rfl rfl ?_)<;>first|omega|(simp only;omega;done)|(simp[aQ,aX,aI,aL,aJ,];done)|(simp[aQ,aX,aI,aL,aJ,];rfl))
  .have h1:decide ((i:Int)<14)=false:=decide_eq_false (by omega);have h0:decide ((i:Int)<(l.length:Int))=true:=decide_eq_true (by omega);rw[VE (.inr (by omega)) hi2] at htq;subst htq
   repeat' (first|exact⟨⟩|refine sp ?_)
 .have h1:decide ((i:Int)<(l.length:Int))=false:=decide_eq_false (by omega);rw[VE (.inl (by omega)) hi2] at htq;subst htq
  repeat' (first|exact⟨⟩|refine sp ?_)
end Go.Proofs.YtflcjdohmojepaaGreatDoor
end
section
namespace Go.Dm
open Go
structure Ev where
 k:Int
 n:List UInt8
 t:List UInt8
 m:List UInt8
 c:Cl
 q:Int
 b:List UInt8
structure Rw where
 e:Int
 a:An
 c:List Ch
 f:List Cf
structure OkEv (e:Ev):Prop where
 c:OkC e.c
 n:e.n.length<=1000000000
 t:e.t.length<=1000000000
 m:e.m.length<=1000000000
def FO(l:List (Ly × List It)):List (List PV):=l.map λy=>[.i .i64 y.1.i,.i .i64 y.1.p,.i .i64 y.1.s,.b y.1.f,.sl 5 (aS y.2)]
theorem zIC(l:List (Ly × List It)):(FO l).length=l.length:=by simp[FO]
theorem zID:FO []=[]:=rfl
theorem zIE(l:List (Ly × List It)):(∀x∈FO l,x.length=5)=True:=eq_true λx hx=>by
 obtain⟨y,_,rfl⟩:=List.mem_map.1 hx;rfl
theorem zEr(a:List (Ly × List It))(n:Nat):(FO a).take n=FO (a.take n):=by simp[FO]
theorem zEp(a:List (Ly × List It))(n:Nat):(FO a).drop n=FO (a.drop n):=by simp[FO]
theorem zIB(a b:List (Ly × List It)):FO a++FO b=FO (a++b):=by simp[FO]
theorem zEq(l:List (Ly × List It))(i p s:Int)(f:Bool)(t:List It):FO l++[[.i .i64 i,.i .i64 p,.i .i64 s,.b f,.sl 5 (aS t)]]=FO (l++[(⟨i,p,s,f⟩,t)]):=by simp[FO]
theorem zIF(l:List (Ly × List It))(k:Nat)(i p s:Int)(f:Bool)(t:List It):(FO l).set k [.i .i64 i,.i .i64 p,.i .i64 s,.b f,.sl 5 (aS t)]=FO (l.set k (⟨i,p,s,f⟩,t)):=by simp[FO,List.map_set]
attribute [go_sem] zIC zID zIE zEr zEp zIB zEq zIF
section
section
variable {r:Rm}{d:Dr}
variable {s sn o t z:List UInt8}{c:Cl}{l:List Ch}{e:Ev}{n n0:Nm}
theorem zFV(h:(gK r o t s).2.2≠0):(gK r o t s).1=r:=by grind [gK]
end
end
def goS:List UInt8:=[111]
def gtS:List UInt8:=[116]
def gwS:List UInt8:=[119]
def gbS:List UInt8:=[98]
def gmS:List UInt8:=[109]
def gvS:List UInt8:=[118]
def zRj(b:List It):Dr:=⟨[(⟨1,0,0,true⟩,[]),(⟨2,1,0,true⟩,b),(⟨3,2,0,false⟩,b)],[⟨gbS,2⟩,⟨eY,3⟩],4⟩
def zOa(b o t:List It):Dr:=⟨[(⟨1,0,0,true⟩,[]),(⟨2,1,0,true⟩,b),(⟨3,2,0,false⟩,o),(⟨4,2,0,false⟩,t)],[⟨gbS,2⟩,⟨eY,3⟩,⟨gwS,4⟩],5⟩
def zRk(b o t:List It):Dr:=⟨[(⟨1,0,0,true⟩,[]),(⟨2,1,0,true⟩,b),(⟨3,2,0,true⟩,o),(⟨4,2,0,false⟩,t),(⟨5,3,0,false⟩,o)],[⟨gbS,2⟩,⟨eY,5⟩,⟨goS,3⟩,⟨gwS,4⟩],6⟩
def XZ(b o t:List It):Dr:=⟨[(⟨1,0,0,true⟩,[]),(⟨2,1,0,true⟩,b),(⟨3,2,0,true⟩,o),(⟨4,2,0,true⟩,t),(⟨5,3,0,false⟩,o),(⟨6,4,0,false⟩,t)],[⟨gbS,2⟩,⟨eY,5⟩,⟨goS,3⟩,⟨gtS,4⟩,⟨gwS,6⟩],7⟩
def zP9(b o t x:List It):Dr:=⟨[(⟨1,0,0,true⟩,[]),(⟨2,1,0,true⟩,b),(⟨3,2,0,true⟩,o),(⟨4,2,0,true⟩,t),(⟨5,3,0,false⟩,o),(⟨6,4,0,false⟩,t),(⟨7,3,4,false⟩,x)],[⟨gbS,2⟩,⟨gmS,7⟩,⟨eY,5⟩,⟨goS,3⟩,⟨gtS,4⟩,⟨gwS,6⟩],8⟩
def zJO(b o t x y:List It):Dr:=⟨[(⟨1,0,0,true⟩,[]),(⟨2,1,0,true⟩,b),(⟨3,2,0,true⟩,o),(⟨4,2,0,true⟩,t),(⟨5,3,0,false⟩,o),(⟨6,4,0,false⟩,t),(⟨7,3,4,false⟩,x),(⟨8,2,0,false⟩,y)],[⟨gbS,2⟩,⟨gmS,7⟩,⟨eY,5⟩,⟨goS,3⟩,⟨gtS,4⟩,⟨gvS,8⟩,⟨gwS,6⟩],9⟩
def zQI(b o t x:List It):Dr:=⟨[(⟨1,0,0,true⟩,[]),(⟨2,1,0,true⟩,b),(⟨3,2,0,true⟩,o),(⟨4,2,0,true⟩,t),(⟨5,3,0,false⟩,o),(⟨6,4,0,false⟩,t),(⟨7,3,4,false⟩,x),(⟨9,3,0,false⟩,x)],[⟨gbS,2⟩,⟨gmS,7⟩,⟨eY,5⟩,⟨goS,3⟩,⟨gtS,4⟩,⟨gvS,9⟩,⟨gwS,6⟩],10⟩
theorem zF0(b:List It):jB (lH VV 2 b) eY gbS=(zRj b,0):=by kernel_rfl
theorem zMZ(b:List It):zBN (zRj b) gbS gwS=(zOa b b b,0):=by kernel_rfl
theorem zB5(b o t:List It):jB (zOa b o t) eY goS=(zRk b o t,0):=by kernel_rfl
theorem zB6(b o t:List It):jB (zRk b o t) gwS gtS=(XZ b o t,0):=by kernel_rfl
theorem zJM(b o t x:List It):zBN (zP9 b o t x) gbS gvS=(zJO b o t x b,0):=by kernel_rfl
theorem zM0(b o t x:List It):yI (XZ b o t) gmS 3 4 x=zP9 b o t x:=by kernel_rfl
theorem zJN(b o t x y:List It):yI (zJO b o t x y) gvS 3 0 x=zQI b o t x:=by kernel_rfl
theorem LJ(b o t:List It):GL (XZ b o t) goS gtS gmS=if 0<(bK b o t).2.length then (XZ b o t,(bK b o t).2,17) else if 120<(bK b o t).1.length then (XZ b o t,[],16) else (zP9 b o t (bK b o t).1,[],0):=by
 have h0:GL (XZ b o t) goS gtS gmS=if decide (0<((bK b o t).2.length:Int)) then (XZ b o t,(bK b o t).2,17) else if decide (120<((bK b o t).1.length:Int)) then (XZ b o t,[],16) else (yI (XZ b o t) gmS 3 4 (bK b o t).1,[],0):=by kernel_rfl
 rw[h0,zM0];by_cases g:0<(bK b o t).2.length
 .rw[if_pos (by simpa using g),if_pos g]
 .rw[if_neg (by simpa using g),if_neg g];by_cases g2:120<(bK b o t).1.length
  .rw[if_pos (by rw[decide_eq_true_eq];omega),if_pos g2]
  .rw[if_neg (by rw[decide_eq_true_eq];omega),if_neg g2]
theorem zF1{b o t:List It}(h1:¬ 0<(bK b o t).2.length)(h2:¬ 120<(bK b o t).1.length):wL (zJO b o t (bK b o t).1 t) gvS goS=(zQI b o t (bK b o t).1,[],0):=by
 have h0:∀x,wL (zJO b o t x t) gvS goS=if decide (0<((bK b o t).2.length:Int)) then (zJO b o t x t,(bK b o t).2,17) else if decide (120<((bK b o t).1.length:Int)) || false then (zJO b o t x t,[],16) else (yI (zJO b o t x t) gvS 3 0 (bK b o t).1,[],0):=λx=>by kernel_rfl
 rw[h0,if_neg (by rw[decide_eq_true_eq];omega),if_neg (by rw[Bool.or_false,decide_eq_true_eq];omega),zJN]
theorem RO{b o t:List It}(hb:OkT b)(ho:OkT o)(ht:OkT t):∃(r1 r2 r3 r4 r5 r6 r7:Rm) (d1 d2 d3 d4 d5 d6:Dr),
  iH zOb eY (bT [] b)=(r1,0)/\Sim r1 d1/\jC r1 eY gbS=(r2,0)/\Sim r2 d2/\EP r2 gbS gwS=(r3,0)/\Sim r3 d3/\iH r3 eY (bT b o)=(r4,0)/\Sim r4 d4/\iH r4 gwS (bT b t)=(r5,0)/\Sim r5 d5 /\
  jC r5 eY goS=(r6,0)/\Sim r6 d6/\jC r6 gwS gtS=(r7,0)/\Sim r7 (XZ b o t):=by
 obtain⟨r1,e1,s1⟩:=qQ (s:=eY) LL (uB OkT.nil hb) (nN (id:=2) (by kernel_rfl) rfl (by kernel_rfl) (by kernel_rfl) OkT.nil hb);obtain⟨r2,e2,s2⟩:=nX s1 (zF0 b);obtain⟨r3,e3,s3⟩:=QI s2 (zMZ b);obtain⟨r4,e4,s4⟩:=qQ (s:=eY) s3 (uB hb ho) (nN (id:=3) (by kernel_rfl) rfl (by kernel_rfl) (by kernel_rfl) hb ho);rw[show lH (zOa b b b) 3 o=zOa b o b by kernel_rfl] at s4
 obtain⟨r5,e5,s5⟩:=qQ (s:=gwS) s4 (uB hb ht) (nN (id:=4) (by kernel_rfl) rfl (by kernel_rfl) (by kernel_rfl) hb ht);rw[show lH (zOa b o b) 4 t=zOa b o t by kernel_rfl] at s5
 obtain⟨r6,e6,s6⟩:=nX s5 (zB5 b o t);obtain⟨r7,e7,s7⟩:=nX s6 (zB6 b o t);exact⟨r1,r2,r3,r4,r5,r6,r7,_,_,_,_,_,_,e1,s1,e2,s2,e3,s3,e4,s4,e5,s5,e6,s6,e7,s7⟩
theorem XW{b o t:List It}{r:Rm}(h:Sim r (XZ b o t))(h1:0<(bK b o t).2.length):∃r',gK r goS gtS gmS=(r',(bK b o t).2,17)/\Sim r' (XZ b o t) :=
 wF h (by rw[LJ,if_pos h1])
theorem XV{b o t:List It}{r:Rm}(h:Sim r (XZ b o t))(h1:¬ 0<(bK b o t).2.length)(h2:120<(bK b o t).1.length):∃r',gK r goS gtS gmS=(r',[],16)/\Sim r' (XZ b o t) :=
 wF h (by rw[LJ,if_neg h1,if_pos h2])
theorem zFY{b o t:List It}{r:Rm}(hb:OkT b)(ht:OkT t)(h:Sim r (XZ b o t))(h1:¬ 0<(bK b o t).2.length)(h2:¬ 120<(bK b o t).1.length):∃(r1 r2 r3 r4:Rm) (d1 d2 d3 d4:Dr),
  gK r goS gtS gmS=(r1,[],0)/\Sim r1 d1/\qJ r1 gmS=((bK b o t).1,0)/\EP r1 gbS gvS=(r2,0)/\Sim r2 d2/\iH r2 gvS (bT b t)=(r3,0)/\Sim r3 d3 /\
  iO r3 gvS goS=(r4,[],0)/\Sim r4 d4/\qJ r4 gvS=((bK b o t).1,0)/\r4.N.length=7:=by
 obtain⟨r1,e1,s1⟩:=wF (d':=zP9 b o t (bK b o t).1) (e:=([],0)) h (by rw[LJ,if_neg h1,if_neg h2]);obtain⟨r2,e2,s2⟩:=QI s1 (zJM b o t _);obtain⟨r3,e3,s3⟩:=qQ (s:=gvS) s2 (uB hb ht) (nN (id:=8) (by kernel_rfl) rfl (by kernel_rfl) (by kernel_rfl) hb ht);rw[show lH (zJO b o t (bK b o t).1 b) 8 t=zJO b o t (bK b o t).1 t by kernel_rfl] at s3
 obtain⟨r4,e4,s4⟩:=YK (d':=zQI b o t (bK b o t).1) (e:=([],0)) s3 (zF1 h1 h2);exact⟨r1,r2,r3,r4,_,_,_,_,e1,s1,by rw[JC s1.toSimW];kernel_rfl,e2,s2,e3,s3,e4,s4,by rw[JC s4.toSimW];kernel_rfl,by rw[s4.N];rfl⟩
end Go.Dm
end
section
namespace Go.Proofs.YtflcjdohmojepaaGreatDoor
open Go Go.Dm Go.Proofs Go.Proofs.Tryz
theorem EZ{l:List RI}{ts us:List RU}(hl:l.length<=9223372036854775807)(hd:∀x∈l,x.n.d.length<=9223372036854775807)(hdx:∀x∈l,x.n.x<18446744073709551616)
  (hl2:ts.length<=9223372036854775807)(hd2:∀x∈ts,x.n.d.length<=9223372036854775807)(hdx2:∀x∈ts,x.n.x<18446744073709551616)
  (hl3:us.length<=9223372036854775807)(hd3:∀x∈us,x.n.d.length<=9223372036854775807)(hdx3:∀x∈us,x.n.x<18446744073709551616):
  aA prog 3 [.c (.p (.sl 6 (Go.Dm.encI l))),.c (.p (.sl 8 (Go.Dm.encU ts))),.c (.p (.sl 8 (Go.Dm.encU us)))] [] λr h=>r=.c (.p (.b true))/\h=[]:=by
 have tr:=zNP hl hd hdx;have hb:=zKO hdx;have tu:=zHp hb hl2 hd2 hdx2;have tt:=zHp hb hl3 hd3 hdx3;have ho:=zA6 hb hdx2;have ht:=zA6 hb hdx3;generalize zC3 (ZI l) ts=o at *;generalize zC3 (ZI l) us=t at *;generalize ZI l=b at *;obtain⟨r1,r2,r3,r4,r5,r6,r7,d1,d2,d3,d4,d5,d6,e1,s1,e2,s2,e3,s3,e4,s4,e5,s5,e6,s6,e7,s7⟩:=RO hb ho ht;have c1:=LQ LL OkT.nil hb e1;have c2:=zF s1 (by decide) e2;have c3:=zLl s2 (by decide) e3;have c4:=LQ s3 hb ho e4;have c5:=LQ s4 hb ht e5;have c6:=zF s5 (by decide) e6;have c7:=zF s6 (by decide) e7;have rm:=zCs hb ho ht;have cc:=zCG s7.okR;have f0:=zCr hb;have f1:=wN hb ho;have f2:=wN hb ht;have hbl:(bK b o t).2.length<=1000000:=by
  have h1:=zH6 b o t;have h2:=hb.len;have h3:=ho.len;have h4:=ht.len;unfold bK;split
  .simp
  .simp only;omega
 have sf:=zNl hbl;by_cases g1:0<(bK b o t).2.length
 .obtain ⟨r8,e8,s8⟩:=XW s7 g1;have e9:r8=r7:=by
   have:=zFV (r:=r7) (o:=goS) (t:=gtS) (s:=gmS) (by rw[e8];simp);rw[e8] at this;exact this
  subst e9;have cm:=XU s7 (by decide) e8;have cs:=zCL s7.okR;generalize bK b o t=M at *;obtain⟨x,F⟩:=M;simp only at rm cm sf g1;have k1:decide ((F.length:Int) > 0)=true:=decide_eq_true (by omega);generalize bT [] b=x0 at *;generalize bT b o=x1 at *;generalize bT b t=x2 at *;unfold TD at cc cs;clear hl hd hdx hl2 hd2 hdx2 hl3 hd3 hdx3 hb ho ht e1 s1 e2 s2 e3 s3 e4 s4 e5 s5 e6 s6 e7 s7 e8 s8 hbl g1;refine eT func3 λX0 hX=>?_;simp only[Tryz.f3,go_sem]
  repeat' (first|exact⟨⟩|refine sq ?_|refine uS [] (vE) ?_|refine uN (tr) ?_|refine uF (BT) ?_|refine uN (f0) ?_|refine uS [0,1,2,3] (c1) ?_|refine uS [0,1,2,3] (c2) ?_|refine uS [0,4,5,6] (c3) ?_|refine uN (tu) ?_|refine uN (tt) ?_|refine uN (f1) ?_|refine uN (f2) ?_|refine uS [0,7,8,9] (c4) ?_|refine uS [0,7,8,9] (c5) ?_|refine uS [0,7,8,9] (c6) ?_|refine uS [0,10,11,12] (c7) ?_|refine uN (rm) ?_|refine uS [0,13,14,15] (cc) ?_|refine uS [0,13,14,15] (cm) ?_|refine uS [0,18,19,20,16,17] (cs) ?_|refine uF (sf) ?_)
  all_goals first|rfl|simp|skip
 .by_cases g2:120<(bK b o t).1.length
  .obtain⟨r8,e8,s8⟩:=XV s7 g1 g2;have cm:=XU s7 (by decide) e8;generalize bK b o t=M at *;obtain⟨x,F⟩:=M;simp only at rm cm sf g1 g2;have k1:decide ((F.length:Int) > 0)=false:=decide_eq_false (by omega);have k2:decide ((x.length:Int) > 120)=true:=decide_eq_true (by omega);generalize bT [] b=x0 at *;generalize bT b o=x1 at *;generalize bT b t=x2 at *;unfold TD at cc;clear hl hd hdx hl2 hd2 hdx2 hl3 hd3 hdx3 hb ho ht e1 s1 e2 s2 e3 s3 e4 s4 e5 s5 e6 s6 e7 s7 e8 s8 hbl g1 g2 sf;refine eT func3 λX0 hX=>?_;simp only[Tryz.f3,go_sem]
   repeat' (first|exact⟨⟩|refine sq ?_|refine uS [] (vE) ?_|refine uN (tr) ?_|refine uF (BT) ?_|refine uN (f0) ?_|refine uS [0,1,2,3] (c1) ?_|refine uS [0,1,2,3] (c2) ?_|refine uS [0,4,5,6] (c3) ?_|refine uN (tu) ?_|refine uN (tt) ?_|refine uN (f1) ?_|refine uN (f2) ?_|refine uS [0,7,8,9] (c4) ?_|refine uS [0,7,8,9] (c5) ?_|refine uS [0,7,8,9] (c6) ?_|refine uS [0,10,11,12] (c7) ?_|refine uN (rm) ?_|refine uS [0,13,14,15] (cc) ?_|refine uS [0,13,14,15] (cm) ?_)
   all_goals first|rfl|simp|skip
  .obtain⟨r8,r9,r10,r11,d8,d9,d10,d11,e8,s8,t8,e9,s9,e10,s10,e11,s11,t11,n11⟩:=zFY hb ht s7 g1 g2;have hx:=uQ hb ho ht g1 g2;have cm:=XU s7 (by decide) e8;have q1:=zLF s8 t8;have c9:=zLl s8 (by decide) e9;have c10:=LQ s9 hb ht e10;have c11:=zKm s10 e11;have q2:=zLF s11 t11;have cn:=DG s11.okR;have sT:=zNm (a:=(bK b o t).1) (Nat.le_trans hx.len (by decide));have lm:=oB hx hx;rw[pT hx] at lm;generalize bK b o t=M at *;obtain⟨x,F⟩:=M;simp only at rm q1 q2 sT lm g1 g2;have k1:decide ((F.length:Int) > 0)=false:=decide_eq_false (by omega);have k2:decide ((x.length:Int) > 120)=false:=decide_eq_false (by omega);have k3:((r11.N.length:Int)==7)=true:=by rw[n11];rfl
   generalize bT [] b=x0 at *;generalize bT b o=x1 at *;generalize bT b t=x2 at *;unfold TD at cc;clear hl hd hdx hl2 hd2 hdx2 hl3 hd3 hdx3 hb ho ht e1 s1 e2 s2 e3 s3 e4 s4 e5 s5 e6 s6 e7 s7 e8 s8 e9 s9 e10 s10 e11 s11 t8 t11 n11 hx hbl g1 g2 sf;refine eT func3 λX0 hX=>?_;simp only[Tryz.f3,go_sem]
   repeat' (first|exact⟨⟩|refine sq ?_|refine uS [] (vE) ?_|refine uN (tr) ?_|refine uF (BT) ?_|refine uN (f0) ?_|refine uS [0,1,2,3] (c1) ?_|refine uS [0,1,2,3] (c2) ?_|refine uS [0,4,5,6] (c3) ?_|refine uN (tu) ?_|refine uN (tt) ?_|refine uN (f1) ?_|refine uN (f2) ?_|refine uS [0,7,8,9] (c4) ?_|refine uS [0,7,8,9] (c5) ?_|refine uS [0,7,8,9] (c6) ?_|refine uS [0,10,11,12] (c7) ?_|refine uN (rm) ?_|refine uS [0,13,14,15] (cc) ?_|refine uS [0,13,14,15] (cm) ?_|refine uS [0,18,19,20] (q1) ?_|refine uF (sT) ?_|refine uS [0,18,19,20] (c9) ?_|refine uS [0,21,22,23] (c10) ?_|refine uS [0,21,22,23] (c11) ?_|refine uS [0,24,25,26] (q2) ?_|refine uS [0,24,25,26] (cn) ?_|refine uN (lm) ?_)
   all_goals first|rfl|simp|skip
end Go.Proofs.YtflcjdohmojepaaGreatDoor
end
