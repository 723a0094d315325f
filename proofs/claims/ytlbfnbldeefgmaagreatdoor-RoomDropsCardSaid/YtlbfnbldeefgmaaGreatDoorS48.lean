/- Part 49 of the proof of roomDrops_card, set without needless blanks. No condition. -/
import Derived.Test.YtlbfnbldeefgmaaGreatDoorS45
import Derived.Test.YtlbfnbldeefgmaaGreatDoorS47
set_option linter.all false
set_option maxRecDepth 100000
set_option maxHeartbeats 16000000
section
namespace Go.Proofs.YtlbfnbldeefgmaaGreatDoor
open Go Go.Dm Go.Proofs Go.Proofs.Tryz
theorem JK{l:List RW}{ks:List Int}(hl:l.length<=9223372036854775807)(hx:∀x∈l,zMe x)(hl2:ks.length<=9223372036854775807):
  aA prog 6 [.c (.p (.sl 17 (LP l))),.c (.p (.sl 1 (cG ks)))] [] λr h=>r=.c (.p (.b true))/\h=[]:=by
 refine eT func6 λX0 hX=>?_;simp only[Tryz.f6,go_sem]
 repeat' (first|exact⟨⟩|refine sq ?_|refine uS [] (PQ) ?_|refine uF (zDO) ?_)
 refine bO aF aL (α:=Nat × Rm) (λx=>⟨187,[(0,.c (.p (.sl 17 (LP l)))),(1,.c (.p (.sl 1 (cG ks)))),(5,.c (.ptr 0 0)),(6,.c (.p (.i .i64 x.1)))],[.box [.own 1 0 x.2.N.length,.own 2 0 x.2.L.length,.mp 3,.p (.i .i64 x.2.x)],.arr 2 (bH x.2.N) false,.arr 4 (cN x.2.L) false,.mp (pP x.2.E)]⟩)
  (λx=>x.1<=25/\∃d,Sim x.2 d) (λx=>25-x.1) (0,zMi) ⟨Nat.zero_le _,_,TS⟩ (aS (aD (by rw[hX];rfl) rfl rfl wkK)) ?_
 rintro⟨i,r⟩ ⟨hi,d,hs⟩;simp only at hi hs ⊢;by_cases hgo:i<l.length/\i<25
 .have h1:decide ((i:Int)<25)=true:=decide_eq_true (by omega);have h3:(0:Int)<=i:=by omega
  have w1:IntKind.i64.wrap ((i:Int)+1)=i+1:=wrap_i64 (by omega) (by omega);have hxx:l[i]?=some l[i]:=List.getElem?_eq_getElem hgo.1;have hg:=zHg hxx;have h5:decide ((i:Int)<(l.length:Int))=true:=decide_eq_true (by omega);have h6:(i:Int)<(l.length:Int):=by omega
  obtain⟨e,hok,hmk⟩:=zHX (hx _ (List.getElem_mem hgo.1));generalize l[i]=x at hxx hg hmk;have hpl:=zIm hs hok;have hfin:PLift (∃d,Sim (AX r e).1 d):=⟨_,(zIn hs hok).2⟩;generalize AX r e=pr at *;obtain⟨r2,w⟩:=pr;obtain⟨ek,en,et,em,ec,eq,eb⟩:=e;simp only at *;have hlt:=hgo.2;clear hx hs hok hxx hgo
  repeat' (first|exact⟨⟩|refine sp ?_|refine uN (hmk) ?_|refine uS [0,1,2,3] (hpl) ?_)
  exact fL (i+1,r2) ⟨by simp only;omega,hfin.down⟩ (by simp only;omega) (cH (dQ [0,4,5,6] rfl hpK rfl wpK))
 have hend:PLift (decide ((i:Int)<(l.length:Int))=false∨decide ((i:Int)<25)=false):=⟨by
  by_cases h:i<l.length
  .exact .inr (decide_eq_false (by omega))
  .exact .inl (decide_eq_false (by omega))⟩
 clear hgo hx;have hend2:(decide ((i:Int)<(l.length:Int))=false)∨(decide ((i:Int)<(l.length:Int))=true/\decide ((i:Int)<25)=false):=by
  cases hq:decide ((i:Int)<(l.length:Int))
  .exact .inl rfl
  .refine .inr ⟨rfl,?_⟩;rcases hend.down with h|h
   .rw[hq] at h;cases h
   .exact h
 clear hend;rcases hend2 with hq|⟨hq,hq2⟩
 all_goals repeat' (first|exact⟨⟩|refine sp ?_)
 all_goals
  refine bO aF aL (α:=Nat × Rm) (λx=>⟨187,[(1,.c (.p (.sl 1 (cG ks)))),(5,.c (.ptr 0 0)),(7,.c (.p (.i .i64 x.1)))],[.box [.own 1 0 x.2.N.length,.own 2 0 x.2.L.length,.mp 3,.p (.i .i64 x.2.x)],.arr 2 (bH x.2.N) false,.arr 4 (cN x.2.L) false,.mp (pP x.2.E)]⟩)
   (λx=>x.1<=10/\∃d,Sim x.2 d) (λx=>10-x.1) (0,r) ⟨Nat.zero_le _,d,hs⟩ (by rw[hX];exact aS (aD rfl rfl rfl wkK)) ?_
  clear hs;rintro⟨m,q⟩ ⟨hm,d2,hs⟩;simp only at hm hs ⊢;by_cases hgo:m<=ks.length/\m<10;rotate_left 1
  .cases hq3:decide ((m:Int)<=(ks.length:Int))
   .repeat' (first|exact⟨⟩|refine sp ?_)
   .have hq4:decide ((m:Int)<10)=false:=by
     have hq5:=of_decide_eq_true hq3;refine decide_eq_false λh10=>hgo ⟨by omega,by omega⟩
    repeat' (first|exact⟨⟩|refine sp ?_)
  have q1:decide ((m:Int)<=(ks.length:Int))=true:=decide_eq_true (by omega);have q2:decide ((m:Int)<10)=true:=decide_eq_true (by omega);have q3:(0:Int)<=m:=by omega
  have q4:IntKind.i64.wrap ((m:Int)+1)=m+1:=wrap_i64 (by omega) (by omega);have cn:=rT hs.okR;have hnl:=hs.okR.nl;by_cases hz:q.N.length=0
  .have cl:=wN hs.okR;have hz2:=zAw hs hz;have z1:((q.N.length:Int)==0)=true:=by rw[hz];rfl
   have z2:((q.L.length:Int)==0)=true:=by rw[hz2];rfl
   clear hz hz2
   repeat' (first|exact⟨⟩|refine sp ?_|refine uS [0,1,2,3] (cn) ?_|refine uS [0,1,2,3] (cl) ?_)
  have z1:((q.N.length:Int)==0)=false:=beq_false_of_ne (by omega);have hkk:∃kk:Nat,kk<q.N.length/\((∃z:Int,ks[m]?=some z/\aA prog 22 [.c (.p (.i .i64 z)),.c (.p (.i .i64 q.N.length))] [] λr h=>r=.c (.p (.i .i64 (kk:Int)))/\h=[])∨(m=ks.length/\kk=0)):=by
   by_cases hmk:m<ks.length
   .have b1:=Int.emod_nonneg ks[m] (show (q.N.length:Int)≠0 by omega)
    have b2:=Int.emod_lt_of_pos ks[m] (show (0:Int)<(q.N.length:Int) by omega)
    refine⟨(ks[m] % (q.N.length:Int)).toNat,by omega,.inl ⟨ks[m],List.getElem?_eq_getElem hmk,?_⟩⟩
    rw[Int.toNat_of_nonneg b1];exact jU (by omega) (by omega)
   .exact⟨0,by omega,.inr ⟨by omega,rfl⟩⟩
  obtain⟨kk,hkl,hkc⟩:=hkk;have hxx:q.N[kk]?=some q.N[kk]:=List.getElem?_eq_getElem hkl;have hgx:=jK hxx;obtain⟨r2,d3,e1,s2,e2,hnl2,hN2,hgone,hstay,hkeep⟩:=zGD hs hxx;generalize q.N[kk]=x at hxx hgx e1 e2 hgone;have cd1:=zCv hs e1;have cn2:=rT s2.okR;have cd2:=zCv s2 e2;have cl2:=wN s2.okR;have ctg:=zFy s2 hgone;have hct:=λ{k:Nat} {n:Nm} (hn:q.N[k]?=some n)=>zFy hs (zBg hs hn);have hct2:=λ{j:Nat} {n:Nm} (hn:q.N[j]?=some n) (hj:j≠kk)=>zFy s2 (hstay j n hn hj);have hsT:=λ(a:Int)=>zLw (a:=cF d2 a) (Nat.le_trans (hs.toOkW.tree a).len (by decide));have hkp:=zK2 (l:=r2.L) (ids:=iK r2.N) (by have:=s2.okR.ll;omega) (by have:=s2.okR.nl;unfold iK;rw[List.length_map];omega);rw[hkeep] at hkp;have sg:=VL (l:=r2.L) (by have:=s2.okR.ll;omega);have hfin:PLift (∃d,Sim r2 d):=⟨_,s2⟩;have hll2:=s2.okR.ll;have hTl:=zBn d2 q.N;have hTa:=λ{k:Nat} {n:Nm} (hn:q.N[k]?=some n)=>zFz (d:=d2) hn;generalize hTT:QK d2 q.N=TT at *;have v1:IntKind.i64.wrap ((q.N.length:Int)-1)=(r2.N.length:Int):=by rw[wrap_i64 (by omega) (by omega)];omega
  have v2:(kk:Int)<(q.N.length:Int):=by omega
  have v3:(0:Int)<=kk:=by omega
  have hidx:=PLift.up hN2;clear hs s2 e1 e2 hgone hstay hkeep hTT hN2;have hkc2:(∃z:Int,((cG ks).getD m []=[.i .i64 z]/\decide ((m:Int)<(ks.length:Int))=true/\(m:Int)<(ks.length:Int))/\aA prog 22 [.c (.p (.i .i64 z)),.c (.p (.i .i64 q.N.length))] [] λr h=>r=.c (.p (.i .i64 (kk:Int)))/\h=[])∨(decide ((m:Int)<(ks.length:Int))=false/\∃_:PLift (kk=0),True):=by
   rcases hkc with⟨z,hzz,hpk⟩|⟨hmk,hkk⟩
   .have:=(List.getElem?_eq_some_iff.1 hzz).1;exact .inl ⟨z,⟨lO hzz,decide_eq_true (by omega),by omega⟩,hpk⟩
   .exact .inr ⟨decide_eq_false (by omega),⟨hkk⟩,trivial⟩
  clear hkc;rcases hkc2 with⟨z,⟨hgz,k1,k2⟩,hpk⟩|⟨k1,hk0,-⟩
  all_goals repeat' (first|exact⟨⟩|refine sp ?_|refine uS [0,1,2,3] (cn) ?_|refine uF (hpk) ?_)
  all_goals
   refine bO aF aL (α:=Nat) (λk=>⟨187,[(1,.c (.p (.sl 1 (cG ks)))),(5,.c (.ptr 0 0)),(7,.c (.p (.i .i64 m))),(8,.c (.own 4 0 q.N.length)),(9,.c (.p (.i .i64 (kk:Int)))),(10,.c (.own 5 0 k)),(11,.c (.p (.i .i64 k)))],[.box [.own 1 0 q.N.length,.own 2 0 q.L.length,.mp 3,.p (.i .i64 q.x)],.arr 2 (bH q.N) false,.arr 4 (cN q.L) false,.mp (pP q.E),.arr 2 (bH q.N) false,.arr 1 (vA (TT.take k)) false]⟩)
    (λk=>k<=q.N.length) (λk=>q.N.length-k) 0 (Nat.zero_le _) ((iV 10 1 rfl).trans (by rw[hX];first|(rw[hk0.down];exact aS (aD rfl rfl rfl wkK))|exact aS (aD rfl rfl rfl wkK))) ?_
   intro k hkl;by_cases hkn:k<q.N.length
   .have hn:q.N[k]?=some q.N[k]:=List.getElem?_eq_getElem hkn;have hgn:=jK hn;have ct:=hct hn;have ht:=hTa hn;generalize q.N[k]=n at hn hgn ct ht;have hsn:TT.take (k+1)=TT.take k++[cF d2 n.l]:=by rw[List.take_add_one,ht];rfl
    have htl:(TT.take k).length=k:=by rw[List.length_take];omega
    have hLl:(vA (TT.take k)).length=k:=by rw[LS,htl]
    have u1:decide ((k:Int)<(q.N.length:Int))=true:=decide_eq_true (by omega);have u2:(k:Int)<(q.N.length:Int):=by omega
    have u3:(0:Int)<=k:=by omega
    have u4:IntKind.i64.wrap ((k:Int)+1)=k+1:=wrap_i64 (by omega) (by omega);generalize cF d2 n.l=t at ct hsn;have hsn:=PLift.up hsn;generalize TT.take k=S at hsn htl hLl ⊢;clear hn hTl hTa hct hct2 hsT hkp sg hfin cd1 cd2 cn cn2 cl2 ctg ht hidx
    repeat' (first|exact⟨⟩|refine sp ?_|refine uS [0,1,2,3] (ct) ?_|((with_reducible refine And.intro ?_ ?_);((first|omega|decide))))
    exact fL (k+1) (by omega) (by omega) (by rw[hsn.down];exact cH (dQ [0,1,2,3,4,7] rfl hpK rfl wpK))
   have hke:k=q.N.length:=by omega
   subst hke;rw[show TT.take q.N.length=TT by rw[<- hTl];exact List.take_length]
   have u1:decide ((q.N.length:Int)<(q.N.length:Int))=false:=decide_eq_false (by omega);have u6:q.N.length<=TT.length:=by omega
   have hTl2:=PLift.up hTl;clear hct hTl
   repeat' (first|exact⟨⟩|refine sp ?_|refine uS [0,1,2,3] (cd1) ?_|refine uS [0,6,7,8] (cn2) ?_|refine uS [0,6,7,8] (cd2) ?_)
   refine bO aF aL (α:=Nat) (λk=>⟨187,[(1,.c (.p (.sl 1 (cG ks)))),(5,.c (.ptr 0 0)),(7,.c (.p (.i .i64 m))),(8,.c (.own 4 0 q.N.length)),(9,.c (.p (.i .i64 (kk:Int)))),(10,.c (.own 5 0 q.N.length)),(14,.c (.p (.i .i64 k)))],[.box [.own 1 0 r2.N.length,.own 2 0 r2.L.length,.mp 3,.p (.i .i64 r2.x)],.arr 2 (bH r2.N) false,.arr 4 (cN r2.L) false,.mp (pP r2.E),.arr 2 (bH q.N) false,.arr 1 (vA TT) false]⟩)
    (λk=>k<=q.N.length) (λk=>q.N.length-k) 0 (Nat.zero_le _) (by rw[hX];exact cH (dQ [0,10,11,12,4,5] rfl hpK rfl wpK)) ?_
   intro k hkl2;by_cases hkn:k<q.N.length
   .have hn:q.N[k]?=some q.N[k]:=List.getElem?_eq_getElem hkn;have hgn:=jK hn;have hgt:=zHl (hTa hn);have w1:decide ((k:Int)<(q.N.length:Int))=true:=decide_eq_true (by omega);have w2:(k:Int)<(q.N.length:Int):=by omega
    have w3:(0:Int)<=k:=by omega
    have w4:IntKind.i64.wrap ((k:Int)+1)=k+1:=wrap_i64 (by omega) (by omega);have w5:(k:Int)<(TT.length:Int):=by have:=hTl2.down;omega
    by_cases hjk:k=kk
    .have w6:((k:Int)==(kk:Int))=true:=by simp[hjk]
     have w7:((k:Int) != (kk:Int))=false:=by rw[bne,w6];rfl
     have hgn2:(bH q.N).getD k []=[.s x.n,.i .i64 x.l]:=by rw[hjk];exact hgx
     clear hjk hn hTa hct2 hsT hkp sg hfin cd1 cd2 cn cn2 cl2 hidx hgt hgn
     repeat' (first|exact⟨⟩|refine sp ?_|refine uS [0,1,2,3] (ctg) ?_)
     exact fL (k+1) (by omega) (by omega) (cH (dQ [0,1,2,3,4,5] rfl hpK rfl wpK))
    .have w6:((k:Int)==(kk:Int))=false:=beq_false_of_ne (by omega);have w7:((k:Int) != (kk:Int))=true:=by rw[bne,w6];rfl
     have ct2:=hct2 hn hjk;generalize q.N[k]=n at hn hgn hgt ct2;have cT:=hsT n.l;generalize cF d2 n.l=t at ct2 hgt cT;clear hjk hn hTa hct2 hsT hkp sg hfin cd1 cd2 cn cn2 cl2 hidx ctg
     repeat' (first|exact⟨⟩|refine sq ?_|refine uS [0,1,2,3] (ct2) ?_|refine uF (cT) ?_|refine ai ?_)
     exact fL (k+1) (by omega) (by omega) (cH (dQ [0,1,2,3,4,5] rfl hpK rfl wpK))
   have hke:k=q.N.length:=by omega
   subst hke;clear hTa hct2 hsT cd1 cd2 cn cn2 ctg
   repeat' (first|exact⟨⟩|refine sp ?_|refine uS [0,1,2,3] (cl2) ?_)
   refine bO aF aL (α:=Nat) (λk=>⟨187,[(1,.c (.p (.sl 1 (cG ks)))),(5,.c (.ptr 0 0)),(7,.c (.p (.i .i64 m))),(8,.c (.own 4 0 q.N.length)),(9,.c (.p (.i .i64 (kk:Int)))),(17,.c (.own 6 0 r2.L.length)),(18,.c (.own 7 0 (iK (RJ q.N kk k)).length)),(19,.c (.p (.i .i64 k)))],[.box [.own 1 0 r2.N.length,.own 2 0 r2.L.length,.mp 3,.p (.i .i64 r2.x)],.arr 2 (bH r2.N) false,.arr 4 (cN r2.L) false,.mp (pP r2.E),.arr 2 (bH q.N) false,.arr 1 (vA TT) false,.arr 4 (cN r2.L) false,.arr 1 (cG (iK (RJ q.N kk k))) false]⟩)
    (λk=>k<=q.N.length) (λk=>q.N.length-k) 0 (Nat.zero_le _) ((iV 18 1 rfl).trans (by rw[hX,zBN];exact aS (aD rfl rfl rfl wkK))) ?_
   intro k hkl3;have hbl:(iK (RJ q.N kk k)).length<=q.N.length:=by unfold iK;rw[List.length_map];exact zGe
   by_cases hkn:k<q.N.length
   .have hn:q.N[k]?=some q.N[k]:=List.getElem?_eq_getElem hkn;have hgn:=jK hn;have hsn:=zBM (k:=kk) hn;generalize q.N[k]=n at hn hgn hsn;have w1:decide ((k:Int)<(q.N.length:Int))=true:=decide_eq_true (by omega);have w2:(k:Int)<(q.N.length:Int):=by omega
    have w3:(0:Int)<=k:=by omega
    have w4:IntKind.i64.wrap ((k:Int)+1)=k+1:=wrap_i64 (by omega) (by omega);have hsn2:iK (RJ q.N kk (k+1))=iK (RJ q.N kk k)++(if (k:Int)==(kk:Int) then [] else [n.l]):=by rw[hsn];unfold iK;cases ((k:Int)==(kk:Int))<;>simp
    generalize iK (RJ q.N kk k)=S at hsn2 hbl ⊢;have hsn2:=PLift.up hsn2;clear hn hsn hkp sg hfin cl2 hidx;cases w6:((k:Int)==(kk:Int))
    .have w7:((k:Int) != (kk:Int))=true:=by rw[bne,w6];rfl
     repeat' (first|exact⟨⟩|refine sp ?_|((with_reducible refine And.intro ?_ ?_);((first|omega|decide))))
     exact fL (k+1) (by omega) (by omega) (by rw[hsn2.down,w6];simp only[Bool.false_eq_true,if_false,List.length_append,List.length_cons,List.length_nil];exact cH (dQ [0,1,2,3,4,5,6,9] rfl hpK rfl wpK))
    .have w7:((k:Int) != (kk:Int))=false:=by rw[bne,w6];rfl
     repeat' (first|exact⟨⟩|refine sp ?_)
     exact fL (k+1) (by omega) (by omega) (by rw[hsn2.down,w6];simp only[if_true,List.append_nil];exact cH (dQ [0,1,2,3,4,5,6,7] rfl hpK rfl wpK))
   have hke:k=q.N.length:=by omega
   subst hke;rw[WD,<- hidx.down];rw[WD,<- hidx.down] at hbl;clear cl2 hidx
   repeat' (first|exact⟨⟩|refine sq ?_|refine uN (hkp) ?_|refine uF (sg) ?_|((with_reducible apply aA.frz);exact rfl;exact rfl))
   exact fL (m+1,r2) ⟨by simp only;omega,hfin.down⟩ (by simp only;omega) (cH (dQ [0,1,2,3] rfl hpK rfl wpK))
end Go.Proofs.YtlbfnbldeefgmaaGreatDoor
end
