/- Part 47 of the proof of roomMerges_card, set without needless blanks. No condition. -/
import Derived.Test.YtflcjdohmojepaaGreatDoorM45
set_option linter.all false
set_option maxRecDepth 100000
set_option maxHeartbeats 16000000
section
namespace Go.Proofs.YtflcjdohmojepaaGreatDoor
open Go Go.Dm Go.Proofs.Tryz
theorem DI{k m:Int}{t:Nat}{d:List UInt8}:aA prog 42 [.agg (ndc k m t d),.agg [.p (.i .i64 0),.p (.i .i64 0),.p (.f 0),.p .nil]] [] λr h=>r=.c (.p (.b (cH ⟨k,m,t,d⟩ nd0)))/\h=[]:=by
 refine eT func42 λX0 hX=>?_;simp only[f42,go_sem]
 repeat' (first|simp only[*,go_sem,Nat.reduceLT,Nat.reduceEqDiff,↓reduceIte,]|((with_reducible refine mH (wM _ _) ?_ ?_ ?_);exact rfl;exact rfl)|with_reducible refine aY (λ_=>?_) (λ_=>?_))
 all_goals first|(simp_all[cH,nd0];done)|trace_state
theorem YM{l:List Ch}(hl:l.length<=1000000)(hp:∀x∈l,x.p.length<=1000000000/\x.o.d.length<=1000000000/\x.n.d.length<=1000000000):
  aA prog 105 [.c (.p (.sl 10 (lE l)))] [] λr h=>r=.c (.p (.b (zNe l)))/\h=[]:=by
 refine eT func105 λX0 hX=>?_;simp only[f105,go_sem]
 repeat' (simp only[*,go_sem,Nat.reduceLT,])
 refine aP aF aN (α:=Nat) (λk=>⟨104,[(0,.c (.p (.sl 10 (lE l)))),(3,.c (.p (.i .i64 k)))],[]⟩)
  (λk=>k<=l.length/\tH (lL l k) (l.drop k)=zNe l) (λk=>l.length-k) 0 ⟨Nat.zero_le _,rfl⟩ (.inl (aB (by rw[hX];rfl) rfl rfl (by simp[aQ,aX,aI,aL,aJ,]))) ?_
 rintro k ⟨hk,hgo⟩;by_cases hlt:k<l.length
 .have hx:l[k]?=some l[k]:=List.getElem?_eq_getElem hlt;have hg:=mA hx;have h1:decide ((k:Int)<(l.length:Int))=true:=decide_eq_true (by omega);have w1:IntKind.i64.wrap ((k:Int)+1)=k+1:=wrap_i64 (by omega) (by omega);have hki:(k:Int)<(l.length:Int):=by omega
  have hk0:(0:Int)<=k:=by omega
  have prev:(decide ((0:Int)<k)=false/\lX (lL l k) l[k].p=true)∨∃m:Nat,∃y:Ch,decide ((0:Int)<k)=true/\IntKind.i64.wrap ((k:Int)-1)=(m:Int)/\(m:Int)<l.length/\l[m]?=some y/\(cD l[k].p y.p || l[k].p==y.p) = !lX (lL l k) l[k].p:=by
   by_cases h0:0<k
   .have hmk:k-1<l.length:=by omega
    refine .inr ⟨k-1,l[k-1],decide_eq_true (by omega),?_,by omega,List.getElem?_eq_getElem hmk,?_⟩
    .rw[wrap_i64 (by omega) (by omega)];omega
    .rw [QZ];have e:lL l k=some l[k-1].p:=by
      have:=nM (List.getElem?_eq_getElem hmk);rw[show k-1+1=k by omega] at this
      exact this
     rw[e];rfl
   .refine .inl ⟨decide_eq_false (by omega),?_⟩;have:k=0:=by omega
    subst this;rfl
  have hdr:l.drop k=l[k]::l.drop (k+1):=List.drop_eq_getElem_cons hlt;have hnx:=nM hx;rw[hdr,tH,<- hnx] at hgo;obtain⟨p1,p2,p3⟩:=hp _ (List.getElem_mem hlt);clear hnx hdr hp;generalize lX (lL l k) l[k].p=a3 at prev hgo;generalize l[k]=x at hx hg prev hgo p1 p2 p3;clear hx;have c1:=DI (k:=x.o.k) (m:=x.o.m) (t:=x.o.t) (d:=x.o.d);have c2:=DI (k:=x.n.k) (m:=x.n.m) (t:=x.n.t) (d:=x.n.d);have c3:=qH (k:=x.o.k) (m:=x.o.m) (t:=x.o.t) (d:=x.o.d) (by omega);have c4:=qH (k:=x.n.k) (m:=x.n.m) (t:=x.n.t) (d:=x.n.d) (by omega);have c5:=uK (p:=x.p) (by omega);have c6:=nC (k:=x.o.k) (m:=x.o.m) (t:=x.o.t) (d:=x.o.d) (k':=x.n.k) (m':=x.n.m) (t':=x.n.t) (d':=x.n.d);have c7:=λp q=>CS (k:=x.o.k) (m:=x.o.m) (t:=x.o.t) (d:=x.o.d) (k':=x.n.k) (m':=x.n.m) (t':=x.n.t) (d':=x.n.d) p q;unfold zP7 at hgo;rw[GN] at c1 c2 c3 c4 c6;rw[GN] at c6;simp only[GN] at c7;generalize cH x.o nd0=z1 at c1 hgo;generalize cH x.n nd0=z2 at c2 hgo;generalize aR x.o=r1 at c3 hgo;generalize aR x.n=r2 at c4 hgo;generalize bW x.p=ip at c5 hgo;generalize cH x.o x.n=s at c6 hgo;generalize hp0:(x.p == [])=p0 at hgo;have hP:PLift _:=⟨hgo⟩;clear hgo;rcases prev with⟨b1,rfl⟩|⟨m,y,b1,b2,b3,b4,b5⟩
  .repeat' (first|simp only[*,go_sem,Nat.reduceLT,Nat.reduceLeDiff,Nat.reduceEqDiff,↓reduceIte,Nat.reduceAdd,Bool.not_true,Bool.not_false]|((with_reducible refine mH (c1) ?_ ?_ ?_);exact rfl;exact rfl)|((with_reducible refine mH (c2) ?_ ?_ ?_);exact rfl;exact rfl)|((refine aG (id:=8) aF aN [] [0,1,2,3,4,5,6,7,8,9,10,11,12,13,14,15,16,17,18,19,20,21,22,23,24,25,26,27,28,29,30,31,32,33,34,35,36,37,38,39,40,41,42,43,44,45,46,47,48,49,50,51,52,53,54,55,56,57,58,59,60,61,62,63,64,65,66,67,68,69,70,71,72,73,74] (by decide +kernel) ?_);(simp only[List.append_eq,List.cons_append,List.nil_append]);(repeat' (first|(refine aT ?_)|((refine bL ?_ rfl rfl ?_ ?_);(rotate_left 1);(focus ((repeat' (first|simp only[*,go_sem,Nat.reduceLT,Nat.reduceLeDiff,Nat.reduceEqDiff,↓reduceIte,Nat.reduceAdd,Bool.not_true,Bool.not_false]|((with_reducible refine mH (c3) ?_ ?_ ?_);exact rfl;exact rfl)|((with_reducible refine mH (c4) ?_ ?_ ?_);exact rfl;exact rfl)|((with_reducible refine mH (c5) ?_ ?_ ?_);exact rfl;exact rfl)|((with_reducible refine mH (c6) ?_ ?_ ?_);exact rfl;exact rfl)|((with_reducible refine mH (c7 _ _) ?_ ?_ ?_);exact rfl;exact rfl)|with_reducible refine aY (λ_=>?_) (λ_=>?_)));exact rfl));(simp only[aC]))|(cases p0)|(cases ip)|(cases z1)|(cases r1)|(cases z2)|(cases r2)|(cases s))))|with_reducible refine aH (λ_=>?_) (λ_=>?_))
   all_goals have hP2:=hP.down
   all_goals simp only[Bool.not_true,Bool.not_false,Bool.true_and,Bool.and_true,Bool.false_and,Bool.and_false,Bool.or_true,Bool.or_false] at hP2
   all_goals first
    | (rw[<- hP2];done)
    | (rename_i hh;simp only[bne,Bool.not_eq_true',Bool.not_eq_false'] at hh;simp only[hh,Bool.true_and,Bool.false_and] at hP2;first|(rw[<- hP2];done)|exact dE (k+1) ⟨by omega,hP2⟩ (by omega) (aB rfl rfl rfl (by simp[aQ,aX,aI,aL,aJ,])))
    | trace_state
  .have hgy:=mA b4;have hm0:(0:Int)<=(m:Int):=by omega
   clear b4
   repeat' (first|simp only[*,go_sem,Nat.reduceLT,Nat.reduceLeDiff,Nat.reduceEqDiff,↓reduceIte,Nat.reduceAdd,Bool.not_true,Bool.not_false]|((with_reducible refine mH (c1) ?_ ?_ ?_);exact rfl;exact rfl)|((with_reducible refine mH (c2) ?_ ?_ ?_);exact rfl;exact rfl)|((refine aG (id:=8) aF aN [] [0,1,2,3,4,5,6,7,8,9,10,11,12,13,14,15,16,17,18,19,20,21,22,23,24,25,26,27,28,29,30,31,32,33,34,35,36,37,38,39,40,41,42,43,44,45,46,47,48,49,50,51,52,53,54,55,56,57,58,59,60,61,62,63,64,65,66,67,68,69,70,71,72,73,74] (by decide +kernel) ?_);(simp only[List.append_eq,List.cons_append,List.nil_append]);(repeat' (first|(refine aT ?_)|((refine bL ?_ rfl rfl ?_ ?_);(rotate_left 1);(focus ((repeat' (first|simp only[*,go_sem,Nat.reduceLT,Nat.reduceLeDiff,Nat.reduceEqDiff,↓reduceIte,Nat.reduceAdd,Bool.not_true,Bool.not_false]|((with_reducible refine mH (c3) ?_ ?_ ?_);exact rfl;exact rfl)|((with_reducible refine mH (c4) ?_ ?_ ?_);exact rfl;exact rfl)|((with_reducible refine mH (c5) ?_ ?_ ?_);exact rfl;exact rfl)|((with_reducible refine mH (c6) ?_ ?_ ?_);exact rfl;exact rfl)|((with_reducible refine mH (c7 _ _) ?_ ?_ ?_);exact rfl;exact rfl)|with_reducible refine aY (λ_=>?_) (λ_=>?_)));exact rfl));(simp only[aC]))|(cases p0)|(cases ip)|(cases a3)|(cases z1)|(cases r1)|(cases z2)|(cases r2)|(cases s))))|with_reducible refine aH (λ_=>?_) (λ_=>?_))
   all_goals have hP2:=hP.down
   all_goals simp only[Bool.not_true,Bool.not_false,Bool.true_and,Bool.and_true,Bool.false_and,Bool.and_false,Bool.or_true,Bool.or_false] at hP2
   all_goals first
    | (rw[<- hP2];done)
    | (rename_i hh;simp only[bne,Bool.not_eq_true',Bool.not_eq_false'] at hh;simp only[hh,Bool.true_and,Bool.false_and] at hP2;first|(rw[<- hP2];done)|exact dE (k+1) ⟨by omega,hP2⟩ (by omega) (aB rfl rfl rfl (by simp[aQ,aX,aI,aL,aJ,])))
    | trace_state
 .have h1:decide ((k:Int)<(l.length:Int))=false:=decide_eq_false (by omega);rw[List.drop_of_length_le (by omega),tH] at hgo;rw[<- hgo];clear hgo
  repeat' (simp only[*,go_sem,Nat.reduceLT,Nat.reduceEqDiff,↓reduceIte,])
def vN(l:List Ch)(out:List Pr):List (List PV):=l.map λc=>[.b (jM out c.p)]
theorem zHu(l:List Ch)(out:List Pr):(vN l out).length=l.length:=by simp[vN]
theorem zKQ{l:List Ch}{out:List Pr}{k:Nat}{x:Ch}(h:l[k]?=some x):(vN l out).getD k []=[.b (jM out x.p)]:=by
 simp only[vN,List.getD_eq_getElem?_getD,List.getElem?_map,h];rfl
theorem zHw(l:List Ch)(out:List Pr):(∀x∈vN l out,x.length=1)=True:=eq_true λx hx=>by
 obtain⟨y,_,rfl⟩:=List.mem_map.1 hx;rfl
theorem zHv(l:List Ch):List.replicate l.length [PV.b false]=vN l []:=by
 unfold vN jM;simp[List.map_const']
theorem zHx{l:List Ch}(hs:l.Pairwise λx y=>cD x.p y.p=true){out:List Pr}{k:Nat}{y:Ch}(hy:l[k]?=some y)(a:List UInt8):(vN l out).set k [.b true]=vN l (out++[⟨a,y.p⟩]):=by
 obtain⟨h1,rfl⟩:=List.getElem?_eq_some_iff.1 hy;refine List.ext_getElem (by simp[vN]) λj h2 h3=>?_;have hj:j<l.length:=by simpa[vN] using h3
 rw[List.getElem_set];simp only[vN,List.getElem_map,jM,List.any_append,List.any_cons,List.any_nil,Bool.or_false];by_cases hjk:k=j
 .subst hjk;rw[if_pos rfl];simp
 .rw [if_neg hjk];have:(l[k].p==l[j].p)=false:=by
   rcases Nat.lt_or_ge k j with h|h
   .exact jH (List.pairwise_iff_getElem.1 hs k j h1 hj h)
   .have:=jH (List.pairwise_iff_getElem.1 hs j k hj h1 (by omega));cases e:(l[k].p==l[j].p)
    .rfl
    .rw[eq_of_beq e] at this;simp at this
  rw[this,Bool.or_false]
theorem HD{l:List Ch}(hl:l.length<=1000000)(hs:l.Pairwise λx y=>cD x.p y.p=true)(hw:∀x∈l,x.o.wf/\x.n.wf)(hp:∀x∈l,x.p.length<=1000000000/\x.o.d.length<=1000000000/\x.n.d.length<=1000000000):
  aA prog 50 [.c (.p (.sl 10 (lE l)))] [] λr h=>r=.c (.p (.sl 2 (oS (dD l))))/\h=[]:=by
 refine aV ?_;have hr:=YM hl hp;rw[<- YS hw] at hr;unfold dD;cases hrc:gA l
 .rw[hrc] at hr;refine eT func50 λX0 hX=>?_;simp only[f50,go_sem]
  repeat' (first|simp only[*,go_sem,Nat.reduceLT,Nat.reduceEqDiff,↓reduceIte,]|((with_reducible refine mH (hr) ?_ ?_ ?_);exact rfl;exact rfl))
  all_goals first|rfl|simp
 .rw [hrc] at hr;rw[if_pos rfl];have hn0:=zHv l;have hul:=zHu l;have huo:=zHw l;have hl2:(l.length:Int)<=1000000:=by omega
  refine eT func50 λX0 hX=>?_;simp only[f50,go_sem]
  repeat' (first|simp only[*,go_sem,Nat.reduceLT,Nat.reduceEqDiff,↓reduceIte,]|((with_reducible refine mH (hr) ?_ ?_ ?_);exact rfl;exact rfl)|((with_reducible refine And.intro ?_ ?_);omega))
  refine dQ aF aN 4 2 rfl ?_;refine aP aF aN (α:=Nat × List Pr) (λx=>⟨97,[(0,.c (.p (.sl 10 (lE l)))),(3,.c (.own 0 0 l.length)),(5,.c (.p (.i .i64 x.1))),(4,.c (.own 1 0 x.2.length))],[.arr 1 (vN l x.2) false,.arr 2 (oS x.2) false]⟩)
   (λx=>x.1<=l.length/\x.2.length<=x.1/\(l.drop x.1).foldl (dO l) x.2=lR l) (λx=>l.length-x.1) (0,[]) ⟨Nat.zero_le _,Nat.le_refl _,rfl⟩ (.inl (aB (by rw[hX];rfl) (by rw[<- hn0];rfl) rfl (by simp[aQ,aX,aI,aL,aJ,]))) ?_
  clear hr hn0;rintro⟨i,out⟩ ⟨hi,hol,hJ⟩;simp only at hi hol hJ;by_cases hlt:i<l.length
  .have hx:l[i]?=some l[i]:=List.getElem?_eq_getElem hlt;have hg:=mA hx;have hd:=drop_at hx;have h1:decide ((i:Int)<(l.length:Int))=true:=decide_eq_true (by omega);have hli:(i:Int)<(l.length:Int):=by omega
   have hi0:(0:Int)<=i:=by omega
   have w1:IntKind.i64.wrap ((i:Int)+1)=i+1:=wrap_i64 (by omega) (by omega);have hxd:=(hp _ (List.getElem_mem hlt)).2.1;generalize l[i]=x at hx hg hd hxd;rw[hd,List.foldl_cons,dO] at hJ;have n1:(x.k != 2) = !(x.k==2):=rfl;have n2:(x.o.k != 1) = !(x.o.k==1):=rfl;rw[n1,n2] at hJ;clear hx hd;cases q1:(x.k==2)
   .rw[q1] at hJ n1;have hJ2:i+1<=l.length/\out.length<=i+1/\(l.drop (i+1)).foldl (dO l) out=lR l:=⟨by omega,by omega,by simpa using hJ⟩
    clear hJ
    repeat' (simp only[*,go_sem,Nat.reduceLT,Nat.reduceEqDiff,↓reduceIte,Bool.not_false])
    exact dE (i+1,out) hJ2 (by simp only;omega) (aB rfl rfl rfl (by simp[aQ,aX,aI,aL,aJ,]))
   .cases q2:(x.o.k==1)
    .rw[q1,q2] at hJ;rw[q1] at n1;rw[q2] at n2;have hJ2:i+1<=l.length/\out.length<=i+1/\(l.drop (i+1)).foldl (dO l) out=lR l:=⟨by omega,by omega,by simpa using hJ⟩
     clear hJ
     repeat' (simp only[*,go_sem,Nat.reduceLT,Nat.reduceEqDiff,↓reduceIte,Bool.not_false,Bool.not_true])
     exact dE (i+1,out) hJ2 (by simp only;omega) (aB rfl rfl rfl (by simp[aQ,aX,aI,aL,aJ,]))
    .rw [q1,q2,Bool.not_true,Bool.or_false,if_neg (by decide)] at hJ;rw[q1] at n1;rw[q2] at n2;have hJ2:=PLift.up hJ;clear hJ
     repeat' (simp only[*,go_sem,Nat.reduceLT,Nat.reduceEqDiff,↓reduceIte,Bool.not_true])
     refine aP aF aN (α:=Nat) (λk=>⟨97,[(0,.c (.p (.sl 10 (lE l)))),(3,.c (.own 0 0 l.length)),(5,.c (.p (.i .i64 i))),(4,.c (.own 1 0 out.length)),(6,.c (.p (.i .i64 k)))],[.arr 1 (vN l out) false,.arr 2 (oS out) false]⟩)
      (λk=>k<=l.length/\kO x.o.d out (l.drop k)=kO x.o.d out l) (λk=>l.length-k) 0 ⟨Nat.zero_le _,rfl⟩ (.inl (aB (by rw[hX];rfl) rfl rfl (by simp[aQ,aX,aI,aL,aJ,]))) ?_
     rintro k ⟨hk,hss⟩;by_cases hkl:k<l.length
     .have hy:l[k]?=some l[k]:=List.getElem?_eq_getElem hkl;have hg2:=mA hy;have hd2:=drop_at hy;have h2:decide ((k:Int)<(l.length:Int))=true:=decide_eq_true (by omega);have hli2:(k:Int)<(l.length:Int):=by omega
      have hk0:(0:Int)<=k:=by omega
      have w2:IntKind.i64.wrap ((k:Int)+1)=k+1:=wrap_i64 (by omega) (by omega);have hyd:=(hp _ (List.getElem_mem hkl)).2.2;have hu:=zKQ (out:=out) hy;have hset:=zHx hs (out:=out) hy x.p;generalize l[k]=y at hy hg2 hd2 hyd hu hset;rw[hd2,kO] at hss;clear hy hd2;have hob:out.length<=1000000:=by omega
      have ceq:(y.n.d==x.o.d)=(x.o.d==y.n.d):=by
       rw[Bool.eq_iff_iff];simp only[beq_iff_eq];exact⟨λh=>h.symm,λh=>h.symm⟩
      cases c4:jM out y.p<;>cases c1:(y.k==1)<;>cases c2:(y.n.k==1)<;>cases c3:(x.o.d==y.n.d)
      all_goals rw[c1,c2,c3,c4] at hss
      all_goals rw[c3] at ceq
      all_goals rw[c4] at hu
      case false.true.true.true =>
       rw[if_pos (by decide)] at hss;have hJ3:=hJ2.down;rw[<- hss] at hJ3;have hJ4:i+1<=l.length/\(out++[(⟨x.p,y.p⟩:Pr)]).length<=i+1/\(l.drop (i+1)).foldl (dO l) (out++[(⟨x.p,y.p⟩:Pr)])=lR l:=⟨by omega,by simp;omega,hJ3⟩
       have hset2:=PLift.up hset;clear hss hJ2 hJ3 hset
       repeat' (first|simp only[*,go_sem,Nat.reduceLT,Nat.reduceLeDiff,Nat.reduceEqDiff,↓reduceIte,]|((refine aG (id:=12) aF aN [] [0,1,2,3,4,5,6,7,8,9,10,11,12,13,14,15,16,17,18,19,20,21,22,23,24,25,26,27,28,29,30,31,32,33,34,35,36,37,38] (by decide +kernel) ?_);(repeat' (first|(refine aT ?_)|((refine bL ?_ rfl rfl ?_ ?_);(rotate_left 1);(focus ((repeat' (simp only[*,go_sem,Nat.reduceLT,Nat.reduceEqDiff,↓reduceIte,Bool.not_false]));exact rfl));(simp only[aC])))))|((refine aG (id:=14) aF aN [12,13] [1,2,3,4,5,6,7,8,9,10,11,12,0,13,14] (by decide +kernel) ?_);(repeat' (first|(refine aT ?_)|((refine cK ?_ ?_ rfl rfl rfl ?_ ?_);(rotate_left 2);(focus ((repeat' (first|simp only[*,go_sem,Nat.reduceLT,Nat.reduceLeDiff,Nat.reduceEqDiff,↓reduceIte,Nat.reduceAdd,Nat.reduceMul,Nat.reduceBEq,]|((with_reducible refine And.intro ?_ ?_);((first|omega|decide)))));((refine And.intro ?_ ?_<;>exact rfl))));(simp only[aC]))|((refine cJ ?_ rfl rfl rfl ?_ ?_);(rotate_left 1);(focus ((repeat' (first|exact bA|refine aW ?_ ?_));(all_goals ((repeat' (simp only[*,go_sem,Nat.reduceLT,Nat.reduceLeDiff,Nat.reduceEqDiff,↓reduceIte,Nat.reduceAdd,]));(try (exact rfl))))));(simp only[aC]))))))
       exact dN (i+1,out++[⟨x.p,y.p⟩]) 1 3 hJ4 (by simp only;omega) rfl rfl (aB rfl (by rw[<- hset2.down];rfl) rfl (by simp[aQ,aX,aI,aL,aJ,EI,CY,EH,]))
      all_goals
       rw[if_neg (by decide)] at hss;have hs2:k+1<=l.length/\kO x.o.d out (l.drop (k+1))=kO x.o.d out l:=⟨by omega,hss⟩
       clear hss hJ2 hset
       repeat' (first|simp only[*,go_sem,Nat.reduceLT,Nat.reduceEqDiff,↓reduceIte,]|((refine aG (id:=12) aF aN [] [0,1,2,3,4,5,6,7,8,9,10,11,12,13,14,15,16,17,18,19,20,21,22,23,24,25,26,27,28,29,30,31,32,33,34,35,36,37,38] (by decide +kernel) ?_);(repeat' (first|(refine aT ?_)|((refine bL ?_ rfl rfl ?_ ?_);(rotate_left 1);(focus ((repeat' (simp only[*,go_sem,Nat.reduceLT,Nat.reduceEqDiff,↓reduceIte,Bool.not_false,Bool.not_true]));exact rfl));(simp only[aC]))))))
       exact dE (k+1) hs2 (by omega) (aB rfl rfl rfl (by simp[aQ,aX,aI,aL,aJ,]))
     .have h2:decide ((k:Int)<(l.length:Int))=false:=decide_eq_false (by omega);rw[List.drop_of_length_le (by omega),kO] at hss;have hJ3:=hJ2.down;rw[<- hss] at hJ3;have hJ4:i+1<=l.length/\out.length<=i+1/\(l.drop (i+1)).foldl (dO l) out=lR l:=⟨by omega,by omega,hJ3⟩
      clear hss hJ2 hJ3
      repeat' (simp only[*,go_sem,Nat.reduceLT,Nat.reduceEqDiff,↓reduceIte,])
      exact dE (i+1,out) hJ4 (by simp only;omega) (aB rfl rfl rfl (by simp[aQ,aX,aI,aL,aJ,]))
  .have h1:decide ((i:Int)<(l.length:Int))=false:=decide_eq_false (by omega);rw[List.drop_of_length_le (by omega),List.foldl_nil] at hJ;rw[<- hJ];clear hJ
   repeat' (simp only[*,go_sem,Nat.reduceLT,Nat.reduceEqDiff,↓reduceIte,])
   all_goals first|rfl|(rw[List.take_of_length_le (by simp)])|simp
theorem zM8{k m k1 m1 k2 m2:Int}{t t1 t2:Nat}{d d1 d2:List UInt8}(b o' t':Bool):
  aA prog 49 [.agg (ndc k m t d),.agg (ndc k1 m1 t1 d1),.agg (ndc k2 m2 t2 d2),.c (.p (.b b)),.c (.p (.b o')),.c (.p (.b t'))] [] λr h =>
  r=.tup [.agg (wH ⟨k,m,t,d⟩ ⟨k1,m1,t1,d1⟩ ⟨k2,m2,t2,d2⟩ b o' t').1.cv,.c (.p (.b (wH ⟨k,m,t,d⟩ ⟨k1,m1,t1,d1⟩ ⟨k2,m2,t2,d2⟩ b o' t').2.1)),.c (.p (.i .i64 (wH ⟨k,m,t,d⟩ ⟨k1,m1,t1,d1⟩ ⟨k2,m2,t2,d2⟩ b o' t').2.2))]/\h=[]:=by
 refine aV ?_;refine eT func49 λX0 hX=>?_;simp only[f49,go_sem];cases b<;>cases o'<;>cases t'
 all_goals (repeat' (first|simp only[*,go_sem,Nat.reduceLT,Nat.reduceLeDiff,Nat.reduceEqDiff,↓reduceIte,Nat.reduceAdd,beq_self_eq_true]|((with_reducible refine mH (nC) ?_ ?_ ?_);exact rfl;exact rfl)|((with_reducible refine mH (zK5) ?_ ?_ ?_);exact rfl;exact rfl)|((with_reducible refine mH (wM _ _) ?_ ?_ ?_);exact rfl;exact rfl)|((with_reducible refine mH (YL _ _) ?_ ?_ ?_);exact rfl;exact rfl)|with_reducible refine aH (λ_=>?_) (λ_=>?_)|with_reducible refine aY (λ_=>?_) (λ_=>?_)))
 all_goals ((simp_all[wH,nd0,jO,yO,nD];done))
end Go.Proofs.YtflcjdohmojepaaGreatDoor
end
