/- Part 44 of the proof of roomMerges_card, set without needless blanks. No condition. -/
import Derived.Test.YtflcjdohmojepaaGreatDoorM42
set_option linter.all false
set_option maxRecDepth 100000
set_option maxHeartbeats 16000000
section
namespace Go.Proofs.YtflcjdohmojepaaGreatDoor
open Go Go.Dm Go.Proofs.Tryz
theorem zMY{b o t:List It}(hb:OkS b)(ho:OkS o)(ht:OkS t):
  aA prog 106 [.c (.p (.sl 5 (aS b))),.c (.p (.sl 5 (aS o))),.c (.p (.sl 5 (aS t)))] [] λr h=>r=.tup [.c (.p (.sl 5 (aS (bK b o t).1))),.c (.p (.sl 2 (dY (bK b o t).2)))]/\h=[]:=by
 refine aV ?_;have e1:=hb.len;have e2:=ho.len;have e3:=ht.len;have d1:∀x∈b,x.n.d.length<=140737488355328:=λx hx=>Nat.le_trans (hb.dlen x hx) (by decide);have d2:∀x∈o,x.n.d.length<=140737488355328:=λx hx=>Nat.le_trans (ho.dlen x hx) (by decide);have d3:∀x∈t,x.n.d.length<=140737488355328:=λx hx=>Nat.le_trans (ht.dlen x hx) (by decide);have hp:=zJR (ts:=[b,o,t]) (by simp) (by intro s hs;simp at hs;rcases hs with rfl|rfl|rfl<;>assumption);simp only[List.map_cons,List.map_nil,List.flatten_cons,List.flatten_nil,List.append_nil] at hp;have hpl:=rI b o t;have hren:=zGP hb ho ht;have hol0:=zAD b o t (eH b o t);have hbl0:=zAC b o t (eH b o t);have horp:=zGl (t:=EG b o t) (bad:=iY b o t (eH b o t)) (by unfold EG;omega) (by omega) (zAN b o t) (RY hb ho ht);have hml:(bK b o t)=if (ZV b o t).length==0 then (EG b o t,[]) else ([],ZV b o t):=rfl
 have hbe:ZV b o t=eB (iY b o t (eH b o t)++(fB (EG b o t) (iY b o t (eH b o t))++fC (dD (bT b o)) (dD (bT b t)))):=rfl;have hor:=CG (EG b o t) (iY b o t (eH b o t));have hrl:=CZ (dD (bT b o)) (dD (bT b t));have hrl2:=kE (bT b o);have hrl3:=kG b o;rw[hml,hbe];clear hml hbe;unfold EG at *;unfold eH at *;generalize Lib.compact (((b++(o++t)).map It.p).mergeSort λx y=>decide (x<=y))=ps at *;generalize fC (dD (bT b o)) (dD (bT b t))=rn at *;generalize hQ:fB (rU b o t ps) (iY b o t ps)=q at *;clear hQ;refine zOO aF func106 rfl rfl λX0 hX=>?_;simp only[f106,go_sem];refine bE aF aN ?_
 repeat' (first|exact⟨⟩|refine sp ?_)
 refine bE aF aN ?_
 repeat' (first|exact⟨⟩|refine sp ?_)
 refine bE aF aN ?_
 repeat' (first|exact⟨⟩|refine sp ?_)
 refine oN aF aN (α:=Unit) (λ_=>⟨92,[(0,.c (.p (.sl 5 (aS b)))),(1,.c (.p (.sl 5 (aS o)))),(2,.c (.p (.sl 5 (aS t)))),(8,.c (.p (.sl 5 (aS (rU b o t ps))))),(9,.c (.p (.sl 2 (dY (iY b o t ps)))))],[]⟩) (λ_=>True) ?_ ?_
 .repeat' (first|exact⟨⟩|refine sp ?_|refine uN (hp) ?_|((with_reducible apply aA.frz);exact rfl;exact rfl)|refine ai ?_)
  refine dQ aF aN 8 5 rfl ?_;refine dQ aF aN 9 2 rfl ?_;refine aP aF aN (α:=Nat × List It × List Cf) (λx=>⟨92,[(0,.c (.p (.sl 5 (aS b)))),(1,.c (.p (.sl 5 (aS o)))),(2,.c (.p (.sl 5 (aS t)))),(25,.c (.p (.sl 1 (Go.Dm.encS ps)))),(26,.c (.p (.i .i64 ps.length))),(27,.c (.p (.i .i64 x.1))),(8,.c (.own 1 0 x.2.1.length)),(9,.c (.own 2 0 x.2.2.length))],
    [.arr 1 [[.sl 5 (aS b)],[.sl 5 (aS o)],[.sl 5 (aS t)]] true,.arr 5 (aS x.2.1) false,.arr 2 (dY x.2.2) false]⟩)
   (λx=>x.1<=ps.length/\x.2.1.length<=x.1/\x.2.2.length<=x.1/\x.2.1++rU b o t (ps.drop x.1)=rU b o t ps/\x.2.2++iY b o t (ps.drop x.1)=iY b o t ps) (λx=>ps.length-x.1) (0,[],[]) ⟨Nat.zero_le _,Nat.le_refl _,Nat.le_refl _,rfl,rfl⟩ (.inl (aB (by rw[hX];rfl) rfl rfl wkS)) ?_
  clear hp hren horp hor hrl hrl2 hrl3;rintro⟨k,out,bad⟩ ⟨hk,hol,hbl,hJ,hK⟩;simp only at hk hol hbl hJ hK;by_cases hlt:k<ps.length
  .have hx:ps[k]?=some ps[k]:=List.getElem?_eq_getElem hlt;have hd:=drop_at hx;have hg:=Go.Dm.encS_at hx;have h1:decide ((k:Int)<(ps.length:Int))=true:=decide_eq_true (by omega);have hli:(k:Int)<(ps.length:Int):=by omega
   have w1:IntKind.i64.wrap ((k:Int)+1)=k+1:=wrap_i64 (by omega) (by omega);generalize ps[k]=p at hx hg hd;have g1:=eV (t:=b) (p:=p) (by omega) hb.srt hb.ne d1;have g2:=eV (t:=o) (p:=p) (by omega) ho.srt ho.ne d2;have g3:=eV (t:=t) (p:=p) (by omega) ht.srt ht.ne d3;have y2:((aM o p).getD nd0).d.length<=140737488355328:=Nat.le_trans (ho.getd p) (by decide);have y3:((aM t p).getD nd0).d.length<=140737488355328:=Nat.le_trans (ht.getd p) (by decide);rw[hd] at hJ hK;have eJ:rU b o t (p::ps.drop (k+1))=mgI b o t p++rU b o t (ps.drop (k+1)):=rfl;have eK:iY b o t (p::ps.drop (k+1))=mgC b o t p++iY b o t (ps.drop (k+1)):=rfl;rw[eJ] at hJ;rw[eK] at hK;unfold mgI at hJ;unfold mgC at hK;unfold mgN at hJ hK;have hnc:=zM7 (k:=((aM b p).getD nd0).k) (m:=((aM b p).getD nd0).m) (t:=((aM b p).getD nd0).t) (d:=((aM b p).getD nd0).d) (k1:=((aM o p).getD nd0).k) (m1:=((aM o p).getD nd0).m) (t1:=((aM o p).getD nd0).t) (d1:=((aM o p).getD nd0).d) (k2:=((aM t p).getD nd0).k) (m2:=((aM t p).getD nd0).m) (t2:=((aM t p).getD nd0).t) (d2:=((aM t p).getD nd0).d) y2 y3 (aM b p).isSome (aM o p).isSome (aM t p).isSome;simp only[GN] at hnc;generalize (aM b p).getD nd0=x at g1 hnc hJ hK;generalize (aM b p).isSome=u at g1 hnc hJ hK;generalize (aM o p).getD nd0=y at g2 hnc hJ hK;generalize (aM o p).isSome=v at g2 hnc hJ hK;generalize (aM t p).getD nd0=z at g3 hnc hJ hK;generalize (aM t p).isSome=w at g3 hnc hJ hK;generalize jS x y z u v w=N at hnc hJ hK;obtain⟨n,ok,kk⟩:=N;simp only at hnc hJ hK;clear hx hd eJ eK y2 y3 d1 d2 d3;have n1:(kk != 0) = !(kk==0):=rfl;cases hq:(kk==0)
   .rw[n1,hq,if_pos (by decide)] at hJ hK;rw[hq] at n1;rw[List.nil_append] at hJ;have hJ2:k+1<=ps.length/\out.length<=k+1/\(bad++[(⟨p,kk⟩:Cf)]).length<=k+1/\out++rU b o t (ps.drop (k+1))=rU b o t ps/\(bad++[(⟨p,kk⟩:Cf)])++iY b o t (ps.drop (k+1))=iY b o t ps:=⟨by omega,by omega,by simp;omega,hJ,by simpa using hK⟩
    clear hJ hK hq
    repeat' (first|exact⟨⟩|refine sq ?_|refine uN (g1) ?_|refine uN (g2) ?_|refine uN (g3) ?_|refine uN (hnc) ?_|((with_reducible refine And.intro ?_ ?_);((first|omega|decide))))
    exact dN (k+1,out,bad++[⟨p,kk⟩]) 2 8 hJ2 (by simp only;omega) rfl rfl (aB rfl rfl rfl wkS)
   .rw [n1,hq,if_neg (by decide)] at hJ hK;rw[hq] at n1;rw[List.nil_append] at hK;cases ok
    .rw[if_neg (by decide),List.nil_append] at hJ;have hJ2:k+1<=ps.length/\out.length<=k+1/\bad.length<=k+1/\out++rU b o t (ps.drop (k+1))=rU b o t ps/\bad++iY b o t (ps.drop (k+1))=iY b o t ps:=⟨by omega,by omega,by omega,hJ,hK⟩
     clear hJ hK hq
     repeat' (first|exact⟨⟩|refine sq ?_|refine uN (g1) ?_|refine uN (g2) ?_|refine uN (g3) ?_|refine uN (hnc) ?_|refine ai ?_)
     exact dE (k+1,out,bad) hJ2 (by simp only;omega) (aB rfl rfl rfl wkS)
    .rw[if_pos rfl] at hJ;have hJ2:k+1<=ps.length/\(out++[(⟨p,n⟩:It)]).length<=k+1/\bad.length<=k+1/\(out++[(⟨p,n⟩:It)])++rU b o t (ps.drop (k+1))=rU b o t ps/\bad++iY b o t (ps.drop (k+1))=iY b o t ps:=⟨by omega,by simp;omega,by omega,by simpa using hJ,hK⟩
     clear hJ hK hq
     repeat' (first|exact⟨⟩|refine sq ?_|refine uN (g1) ?_|refine uN (g2) ?_|refine uN (g3) ?_|refine uN (hnc) ?_|((with_reducible refine And.intro ?_ ?_);((first|omega|decide))))
     exact dN (k+1,out++[⟨p,n⟩],bad) 1 8 hJ2 (by simp only;omega) rfl rfl (aB rfl rfl rfl wkS)
  .have h1:decide ((k:Int)<(ps.length:Int))=false:=decide_eq_false (by omega);rw[List.drop_of_length_le (by omega)] at hJ hK;have eJ:out=rU b o t ps:=by rw[<- hJ];simp[rU]
   have eK:bad=iY b o t ps:=by rw[<- hK];simp[iY]
   clear hJ hK;rw[<- eJ,<- eK];clear eJ eK
   repeat' (first|exact⟨⟩|refine sp ?_)
   exact zAQ () 8 1 0 out.length 9 2 0 bad.length trivial rfl (zS rfl (by rw[cN])) rfl (zS rfl (by rw[qX])) (aB (by rw[hX];rfl) rfl rfl wkS)
 rintro - -;refine fE aF aN ?_;have hcc:=zDK (a:=iY b o t ps) (b:=q) (c:=rn) (by omega) (by omega) (by omega);have hsl:=nF (iY b o t ps++(q++rn));have hll:(iY b o t ps++(q++rn)).length=(iY b o t ps).length+q.length+rn.length:=by simp;omega
 have hsz:(iY b o t ps++(q++rn)).length<=1000000:=by omega
 clear hp hor hrl hrl2 hrl3 hpl d1 d2 d3;generalize rU b o t ps=out at *;generalize iY b o t ps=bad at *;generalize bad++(q++rn)=all at *;generalize bad.length+q.length+rn.length=n at hcc hll;have hke:(eB all).take n=eB all:=List.take_of_length_le (by omega);have hk:∀(h:aD) (id:Nat) (K:DV->aD->Prop),h[id]?=some (.arr 2 (dY all) false)->K (.c (.own id 0 n)) (h.set id (.arr 2 (dY (eB all)) false))->aA prog 151 [.c (.own id 0 n)] h K:=λh id K h1 h2=>zKz h1 (by omega) (by omega) (by rw[hll];exact h2)
 rw[hsl,hll];clear hsl hll hsz hol0 hbl0;by_cases h0:n=0
 .have hb0:decide ((0:Int)<(n:Int))=false:=decide_eq_false (by omega);have hq0:(n==0)=true:=by simpa using h0
  rw[hq0,if_pos rfl];clear h0 hq0;simp only
  repeat' (first|simp only[*,go_sem,Nat.reduceLT,Nat.reduceLeDiff,Nat.reduceEqDiff,↓reduceIte,List.set_cons_succ,List.set_cons_zero]|refine uN (horp) ?_|refine uN (hren) ?_|refine zC5 hcc rfl ?_|refine hk _ _ _ rfl ?_|refine ai ?_)
  all_goals first|(simp;done)|trace_state
 .have hb0:decide ((0:Int)<(n:Int))=true:=decide_eq_true (by omega);have hq0:(n==0)=false:=by simpa using h0
  rw[hq0,if_neg (by decide)];clear h0 hq0;simp only
  repeat' (first|simp only[*,go_sem,Nat.reduceLT,Nat.reduceLeDiff,Nat.reduceEqDiff,↓reduceIte,List.set_cons_succ,List.set_cons_zero]|refine uN (horp) ?_|refine uN (hren) ?_|refine zC5 hcc rfl ?_|refine hk _ _ _ rfl ?_|refine ai ?_)
  all_goals first|(simp;done)|trace_state
end Go.Proofs.YtflcjdohmojepaaGreatDoor
end
section
namespace Go.Proofs.YtflcjdohmojepaaGreatDoor
open Go Go.Dm Go.Proofs Go.Proofs.Tryz
theorem zAB{b o t:List It}(hb:OkS b)(ho:OkS o)(ht:OkS t):
  aA prog 58 [.c (.p (.sl 5 (aS b))),.c (.p (.sl 5 (aS o))),.c (.p (.sl 5 (aS t)))] [] λr h=>r=.tup [.c (.p (.sl 5 (aS (fL b o t).1))),.c (.p (.sl 2 (dY (fL b o t).2.1))),.c (.p (.i .i64 (fL b o t).2.2))]/\h=[]:=by
 have hm:=zMY hb ho ht;unfold fL;generalize bK b o t=m at *;obtain⟨m1,m2⟩:=m;simp only at *;refine aV ?_;clear hb ho ht;cases h1:decide (0<(m2.length:Int))
 .simp only[Bool.false_eq_true,if_false];cases h2:decide (120<(m1.length:Int))
  .simp only[Bool.false_eq_true,if_false];refine eT func58 λX0 hX=>?_;simp only[f58,go_sem]
   repeat' (first|exact⟨⟩|refine sp ?_|refine uN (hm) ?_)
   all_goals first|exact .inr ⟨2,rfl⟩|exact⟨.inl rfl,.inr ⟨rfl,2,rfl⟩,.inl rfl,True.intro⟩
  .simp only[if_true];refine eT func58 λX0 hX=>?_;simp only[f58,go_sem]
   repeat' (first|exact⟨⟩|refine sp ?_|refine uN (hm) ?_)
   all_goals first|exact⟨.inr ⟨5,rfl⟩,.inr ⟨2,rfl⟩⟩|exact⟨.inr ⟨rfl,5,rfl⟩,.inr ⟨rfl,2,rfl⟩,.inl rfl,True.intro⟩
 .simp only[if_true];refine eT func58 λX0 hX=>?_;simp only[f58,go_sem]
  repeat' (first|exact⟨⟩|refine sp ?_|refine uN (hm) ?_)
  all_goals first|exact .inr ⟨5,rfl⟩|exact⟨.inr ⟨rfl,5,rfl⟩,.inl rfl,.inl rfl,True.intro⟩
theorem zOk{h:aD}{i n:Nat}{l:List Ly}{a b:Int}{K:DV->aD->Prop}(hl:l.length<=100000)(hgr:OkG l)(hn:n=l.length)(h0:h[i]?=some (.arr 4 (dA l) false))(hk:K (.c (.p (.i .i64 (JQ l a b)))) h):
  aA prog 59 [.c (.own i 0 n),.c (.p (.i .i64 a)),.c (.p (.i .i64 b))] h K:=by
 refine zPG rfl rfl (by rw[hn,<- gH,List.take_length]) (zOj hl hgr) h0 rfl ?_;simpa[DV.sh,CV.sh] using hk
theorem YU{r:Rm}{o t s:List UInt8}(hr:OkR r)(hgr:OkG r.L)(hs:s.length<=1000000000)(hT:∀i,OkT (treeR r i))
  (h3:((eL r o t).2.2==0)=true->(gY r s==0)=true->(iC r (eL r o t).1.i==0)=true->∀w,OkT w->∀q,q=(if (eL r o t).1.i==(eL r o t).2.1.i then 0 else (eL r o t).2.1.i) ->
   OkR ⟨cE r.N s r.x,r.L++[⟨r.x,(eL r o t).1.i,q,false⟩],oY r.E r.x (eF (treeR r (eL r o t).1.i) w),r.x+1⟩/\OkG (r.L++[⟨r.x,(eL r o t).1.i,q,false⟩]))
  (hM:∀a b c,(fL (treeR r a) (treeR r b) (treeR r c)).2.2=0->OkT (fL (treeR r a) (treeR r b) (treeR r c)).1):
  aA prog 14 [.c (.ptr 0 0),.c (.p (.s o)),.c (.p (.s t)),.c (.p (.s s))] (bO r) λd h=>d=.tup [.c (.p (.sl 2 (dY (gK r o t s).2.1))),.c (.p (.i .i64 (gK r o t s).2.2))]/\h=iD (gK r o t s).1:=by
 have hbo:=zCF (o:=o) (t:=t) hr;have hfr:=tK (s:=s) hr hs;have hdp:=rN (a:=(eL r o t).1.i) hr;unfold gK;generalize eL r o t=y at *;obtain⟨⟨ai,ap,aq,af⟩,⟨ci,cp,cq,cf⟩,e⟩:=y;simp only[Ly.cv] at *;generalize gY r s=e2 at *;have bad:∀{c1 c2:List CV} {F:List Cf} {e:Int},aA prog 14 [.c (.ptr 0 0),.c (.p (.s o)),.c (.p (.s t)),.c (.p (.s s))] (bO r) (λd h=>d=.tup [.c (.p (.sl 2 (dY F))),.c (.p (.i .i64 e))]/\h=bO r++[.box c1,.box c2])->aA prog 14 [.c (.ptr 0 0),.c (.p (.s o)),.c (.p (.s t)),.c (.p (.s s))] (bO r) (λd h=>d=.tup [.c (.p (.sl 2 (dY F))),.c (.p (.i .i64 e))]/\h=iD r):=λ{c1 c2 F e} hc =>
  aA.perm [0,6,7,8,1,2,3] hc rfl rfl (by unfold iD bO;exact hpK)
 cases he:(e==0)
 .have hb:(e != 0)=true:=by rw[bne,he];rfl
  simp only[Bool.not_false,if_true];refine bad (c1:=[.p (.i .i64 ai),.p (.i .i64 ap),.p (.i .i64 aq),.p (.b af)]) (c2:=[.p (.i .i64 ci),.p (.i .i64 cp),.p (.i .i64 cq),.p (.b cf)]) (aV ?_);clear h3 hM hfr hdp bad hT hr;refine xL aF aN func14 rfl rfl λX0 hX=>?_;simp only[f14,go_sem]
  repeat' (first|exact⟨⟩|refine sp ?_|refine uS [0,1,2,3] (hbo) ?_)
  all_goals exact .inr ⟨2,rfl⟩
 .have hb:(e != 0)=false:=by rw[bne,he];rfl
  simp only[Bool.not_true,Bool.false_eq_true,if_false];cases he2:(e2==0)
  .have hb2:(e2 != 0)=true:=by rw[bne,he2];rfl
   simp only[Bool.not_false,if_true];refine bad (c1:=[.p (.i .i64 ai),.p (.i .i64 ap),.p (.i .i64 aq),.p (.b af)]) (c2:=[.p (.i .i64 ci),.p (.i .i64 cp),.p (.i .i64 cq),.p (.b cf)]) (aV ?_);clear h3 hM hdp bad hT hr;refine xL aF aN func14 rfl rfl λX0 hX=>?_;simp only[f14,go_sem]
   repeat' (first|exact⟨⟩|refine sp ?_|refine uS [0,1,2,3] (hbo) ?_|refine uS [0,1,2,3] (hfr) ?_)
   all_goals exact .inr ⟨2,rfl⟩
  .have hb2:(e2 != 0)=false:=by rw[bne,he2];rfl
   simp only[Bool.not_true,Bool.false_eq_true,if_false];generalize iC r ai=e3 at *;cases he3:(e3==0)
   .have hb3:(e3 != 0)=true:=by rw[bne,he3];rfl
    simp only[Bool.not_false,if_true];refine bad (c1:=[.p (.i .i64 ai),.p (.i .i64 ap),.p (.i .i64 aq),.p (.b af)]) (c2:=[.p (.i .i64 ci),.p (.i .i64 cp),.p (.i .i64 cq),.p (.b cf)]) (aV ?_);clear h3 hM bad hT hr;refine xL aF aN func14 rfl rfl λX0 hX=>?_;simp only[f14,go_sem]
    repeat' (first|exact⟨⟩|refine sp ?_|refine uS [0,1,2,3] (hbo) ?_|refine uS [0,1,2,3] (hfr) ?_|refine uS [0,1,2,3] (hdp) ?_)
    all_goals exact .inr ⟨2,rfl⟩
   .have hb3:(e3 != 0)=false:=by rw[bne,he3];rfl
    simp only[Bool.not_true,Bool.false_eq_true,if_false];have hbk:∀{h:aD} {K:DV->aD->Prop},h[2]?=some (.arr 4 (dA r.L) false)->K (.c (.p (.i .i64 (JQ r.L ai ci)))) h->aA prog 59 [.c (.own 2 0 r.L.length),.c (.p (.i .i64 ai)),.c (.p (.i .i64 ci))] h K:=λh0 hk=>zOk (by have:=hr.ll;omega) hgr rfl h0 hk;generalize JQ r.L ai ci=B at *;have t1:=dH (a:=B) hr;have t2:=dH (a:=ai) hr;have t3:=dH (a:=ci) hr;have hmg:=zAB (hT B).s (hT ai).s (hT ci).s;have hm0:=hM B ai ci;have hTa:=hT ai;have h3:=λw q hw hq=>h3 he he2 he3 w hw q hq;have hadd0:=λw q h1 h2=>vC (s:=s) (i0:=0) (p:=ai) (q:=q) (es:=eF (treeR r ai) w) hr h1 h2;generalize treeR r B=TB at *;generalize treeR r ai=TA at *;generalize treeR r ci=TC at *;generalize fL TB TA TC=m at *;obtain⟨m1,F,e4⟩:=m;simp only at *;cases he4:(e4==0)
    .have hb4:(e4 != 0)=true:=by rw[bne,he4];rfl
     simp only[Bool.not_false,if_true];refine bad (c1:=[.p (.i .i64 ai),.p (.i .i64 ap),.p (.i .i64 aq),.p (.b af)]) (c2:=[.p (.i .i64 ci),.p (.i .i64 cp),.p (.i .i64 cq),.p (.b cf)]) ?_;clear h3 hM bad hT hr hadd0;refine xL aF aN func14 rfl rfl λX0 hX=>?_;simp only[f14,go_sem]
     repeat' (first|exact⟨⟩|refine sp ?_|refine uS [0,1,2,3] (hbo) ?_|refine uS [0,1,2,3] (hfr) ?_|refine uS [0,1,2,3] (hdp) ?_|((refine aG (id:=10) aF aN [] [0,1,2,3,4,5,6,7,8,9,10,11,12,13,14,15,16,17,18,19,20,21,22,23,24,25,26] (by decide +kernel) ?_);(repeat' (first|(refine aT ?_)|((refine bL ?_ rfl rfl ?_ ?_);(rotate_left 1);(focus ((repeat' (first|exact⟨⟩|refine sp ?_|refine hbk rfl ?_|refine uS [0,1,2,3] (t1) ?_|refine uS [0,1,2,3] (t2) ?_|refine uS [0,1,2,3] (t3) ?_|refine uN (hmg) ?_));exact rfl));(simp only[aC]))))))
    .have hb4:(e4 != 0)=false:=by rw[bne,he4];rfl
     simp only[Bool.not_true,Bool.false_eq_true,if_false];obtain rfl:e4=0:=by simpa using he4
     have hm1:=hm0 rfl;have hmk:=oB hTa hm1;cases hac:(ai==ci)
     all_goals simp only[Bool.false_eq_true,if_false,if_true]
     .obtain⟨k1,k2⟩:=h3 m1 ci hm1 (by rw[hac];rfl);have hadd:=hadd0 m1 ci k1 k2;clear h3 hadd0 hM bad hT hm0 hm1 hTa k1 k2;generalize eF TA m1=E1 at *;generalize zDa r s ai ci E1=c at *;clear hr;refine aA.perm [0,1,2,3,7,8,9] (d1:=.tup [.c (.p (.sl 2 (dY []))),.c (.p (.i .i64 0))]) (h1:=[.box [.own 7 0 c.N.length,.own 8 0 c.L.length,.mp 9,.p (.i .i64 c.x)],.dead,.dead,.dead,.box [.p (.i .i64 ai),.p (.i .i64 ap),.p (.i .i64 aq),.p (.b af)],.box [.p (.i .i64 ci),.p (.i .i64 cp),.p (.i .i64 cq),.p (.b cf)],.box [.p (.i .i64 0),.p (.i .i64 ai),.p (.i .i64 ci),.p (.b false)],.arr 2 (bS c.N) false,.arr 4 (dA c.L) false,.mp (oZ c.E)]) (aV ?_) rfl rfl (by unfold iD;exact hpK);refine xL aF aN func14 rfl rfl λX0 hX=>?_;simp only[f14,go_sem]
      repeat' (first|exact⟨⟩|refine sp ?_|refine uS [0,1,2,3] (hbo) ?_|refine uS [0,1,2,3] (hfr) ?_|refine uS [0,1,2,3] (hdp) ?_|((refine aG (id:=10) aF aN [] [0,1,2,3,4,5,6,7,8,9,10,11,12,13,14,15,16,17,18,19,20,21,22,23,24,25,26] (by decide +kernel) ?_);(repeat' (first|(refine aT ?_)|((refine bL ?_ rfl rfl ?_ ?_);(rotate_left 1);(focus ((repeat' (first|exact⟨⟩|refine sp ?_|refine hbk rfl ?_|refine uS [0,1,2,3] (t1) ?_|refine uS [0,1,2,3] (t2) ?_|refine uS [0,1,2,3] (t3) ?_|refine uN (hmg) ?_));exact rfl));(simp only[aC])))))|((refine aG (id:=16) aF aN [9] [0,1,2,3,4,5,6,7,8,9] (by decide +kernel) ?_);(repeat' (first|(refine aT ?_)|((refine cK ?_ ?_ rfl rfl rfl ?_ ?_);(rotate_left 2);(focus ((repeat' (first|exact⟨⟩|refine sp ?_|refine uS [0,1,2,3] (hadd) ?_));((refine And.intro ?_ ?_<;>exact rfl))));(simp only[aC]))|((refine cJ ?_ rfl rfl rfl ?_ ?_);(rotate_left 1);(focus ((repeat' (first|exact bA|refine aW ?_ ?_));(all_goals ((repeat' (first|exact⟨⟩|refine sp ?_|refine uS [0,1,2,3] (t2) ?_|refine uN (hmk) ?_));(try (exact rfl))))));(simp only[aC]))))))
      all_goals exact .inr ⟨2,rfl⟩
     .obtain⟨k1,k2⟩:=h3 m1 0 hm1 (by rw[hac];rfl);have hadd:=hadd0 m1 0 k1 k2;clear h3 hadd0 hM bad hT hm0 hm1 hTa k1 k2;generalize eF TA m1=E1 at *;generalize zDa r s ai 0 E1=c at *;clear hr;refine aA.perm [0,1,2,3,7,8,9] (d1:=.tup [.c (.p (.sl 2 (dY []))),.c (.p (.i .i64 0))]) (h1:=[.box [.own 7 0 c.N.length,.own 8 0 c.L.length,.mp 9,.p (.i .i64 c.x)],.dead,.dead,.dead,.box [.p (.i .i64 ai),.p (.i .i64 ap),.p (.i .i64 aq),.p (.b af)],.box [.p (.i .i64 ci),.p (.i .i64 cp),.p (.i .i64 cq),.p (.b cf)],.box [.p (.i .i64 0),.p (.i .i64 ai),.p (.i .i64 0),.p (.b false)],.arr 2 (bS c.N) false,.arr 4 (dA c.L) false,.mp (oZ c.E)]) (aV ?_) rfl rfl (by unfold iD;exact hpK);refine xL aF aN func14 rfl rfl λX0 hX=>?_;simp only[f14,go_sem]
      repeat' (first|exact⟨⟩|refine sp ?_|refine uS [0,1,2,3] (hbo) ?_|refine uS [0,1,2,3] (hfr) ?_|refine uS [0,1,2,3] (hdp) ?_|((refine aG (id:=10) aF aN [] [0,1,2,3,4,5,6,7,8,9,10,11,12,13,14,15,16,17,18,19,20,21,22,23,24,25,26] (by decide +kernel) ?_);(repeat' (first|(refine aT ?_)|((refine bL ?_ rfl rfl ?_ ?_);(rotate_left 1);(focus ((repeat' (first|exact⟨⟩|refine sp ?_|refine hbk rfl ?_|refine uS [0,1,2,3] (t1) ?_|refine uS [0,1,2,3] (t2) ?_|refine uS [0,1,2,3] (t3) ?_|refine uN (hmg) ?_));exact rfl));(simp only[aC])))))|((refine aG (id:=16) aF aN [9] [0,1,2,3,4,5,6,7,8,9] (by decide +kernel) ?_);(repeat' (first|(refine aT ?_)|((refine cK ?_ ?_ rfl rfl rfl ?_ ?_);(rotate_left 2);(focus ((repeat' (first|exact⟨⟩|refine sp ?_|refine uS [0,1,2,3] (hadd) ?_));((refine And.intro ?_ ?_<;>exact rfl))));(simp only[aC]))|((refine cJ ?_ rfl rfl rfl ?_ ?_);(rotate_left 1);(focus ((repeat' (first|exact bA|refine aW ?_ ?_));(all_goals ((repeat' (first|exact⟨⟩|refine sp ?_|refine uS [0,1,2,3] (t2) ?_|refine uN (hmk) ?_));(try (exact rfl))))));(simp only[aC]))))))
      all_goals exact .inr ⟨2,rfl⟩
theorem TG{r:Rm}{s o:List UInt8}(hr:OkR r)(hT:∀i,OkT (treeR r i))
  (h3:((wsP r s).2==0)=true->((snP r o).2==0)=true->(iC r (snP r o).1.i==0)=true->∀w,OkT w->r.x<2147483647 ->
   OkR ⟨cE r.N s r.x,r.L++[⟨r.x,(snP r o).1.i,0,false⟩],oY r.E r.x (eF (treeR r (snP r o).1.i) w),r.x+1⟩/\OkG (r.L++[⟨r.x,(snP r o).1.i,0,false⟩]))
  (hM:∀a b c,(fL (treeR r a) (treeR r b) (treeR r c)).2.2=0->OkT (fL (treeR r a) (treeR r b) (treeR r c)).1):
  aA prog 19 [.c (.ptr 0 0),.c (.p (.s s)),.c (.p (.s o))] (bO r) λd h=>d=.tup [.c (.p (.sl 2 (dY (iO r s o).2.1))),.c (.p (.i .i64 (iO r s o).2.2))]/\h=iD (iO r s o).1:=by
 have hws:=MO (s:=s) hr;have hsn:=zAV (s:=o) hr;have hdp:=rN (a:=(snP r o).1.i) hr;unfold iO;generalize wsP r s=y1 at *;generalize snP r o=y2 at *;obtain⟨⟨ai,ap,aq,af⟩,e⟩:=y1;obtain⟨⟨ci,cp,cq,cf⟩,e2⟩:=y2;simp only[Ly.cv] at *;have bad:∀{c1 c2:List CV} {F:List Cf} {e:Int},aA prog 19 [.c (.ptr 0 0),.c (.p (.s s)),.c (.p (.s o))] (bO r) (λd h=>d=.tup [.c (.p (.sl 2 (dY F))),.c (.p (.i .i64 e))]/\h=bO r++[.box c1,.box c2])->aA prog 19 [.c (.ptr 0 0),.c (.p (.s s)),.c (.p (.s o))] (bO r) (λd h=>d=.tup [.c (.p (.sl 2 (dY F))),.c (.p (.i .i64 e))]/\h=iD r):=λ{c1 c2 F e} hc =>
  aA.perm [0,6,7,8,1,2,3] hc rfl rfl (by unfold iD bO;exact hpK)
 have bad1:∀{c1:List CV} {F:List Cf} {e:Int},aA prog 19 [.c (.ptr 0 0),.c (.p (.s s)),.c (.p (.s o))] (bO r) (λd h=>d=.tup [.c (.p (.sl 2 (dY F))),.c (.p (.i .i64 e))]/\h=bO r++[.box c1])->aA prog 19 [.c (.ptr 0 0),.c (.p (.s s)),.c (.p (.s o))] (bO r) (λd h=>d=.tup [.c (.p (.sl 2 (dY F))),.c (.p (.i .i64 e))]/\h=iD r):=λ{c1 F e} hc =>
  aA.perm [0,6,7,8,1,2,3] hc rfl rfl (by unfold iD bO;exact hpK)
 cases he:(e==0)
 .have hb:(e != 0)=true:=by rw[bne,he];rfl
  simp only[Bool.not_false,if_true];refine bad1 (c1:=[.p (.i .i64 ai),.p (.i .i64 ap),.p (.i .i64 aq),.p (.b af)]) (aV ?_);clear h3 hM hsn hdp bad bad1 hT hr;refine xL aF aN func19 rfl rfl λX0 hX=>?_;simp only[f19,go_sem]
  repeat' (first|exact⟨⟩|refine sp ?_|refine uS [0,1,2,3] (hws) ?_)
  all_goals exact .inr ⟨2,rfl⟩
 .have hb:(e != 0)=false:=by rw[bne,he];rfl
  simp only[Bool.not_true,Bool.false_eq_true,if_false];cases he2:(e2==0)
  .have hb2:(e2 != 0)=true:=by rw[bne,he2];rfl
   simp only[Bool.not_false,if_true];refine bad (c1:=[.p (.i .i64 ai),.p (.i .i64 ap),.p (.i .i64 aq),.p (.b af)]) (c2:=[.p (.i .i64 ci),.p (.i .i64 cp),.p (.i .i64 cq),.p (.b cf)]) (aV ?_);clear h3 hM hdp bad bad1 hT hr;refine xL aF aN func19 rfl rfl λX0 hX=>?_;simp only[f19,go_sem]
   repeat' (first|exact⟨⟩|refine sp ?_|refine uS [0,1,2,3] (hws) ?_|refine uS [0,1,2,3] (hsn) ?_)
   all_goals exact .inr ⟨2,rfl⟩
  .have hb2:(e2 != 0)=false:=by rw[bne,he2];rfl
   simp only[Bool.not_true,Bool.false_eq_true,if_false];generalize iC r ci=e3 at *;cases he3:(e3==0)
   .have hb3:(e3 != 0)=true:=by rw[bne,he3];rfl
    simp only[Bool.not_false,if_true];refine bad (c1:=[.p (.i .i64 ai),.p (.i .i64 ap),.p (.i .i64 aq),.p (.b af)]) (c2:=[.p (.i .i64 ci),.p (.i .i64 cp),.p (.i .i64 cq),.p (.b cf)]) (aV ?_);clear h3 hM bad bad1 hT hr;refine xL aF aN func19 rfl rfl λX0 hX=>?_;simp only[f19,go_sem]
    repeat' (first|exact⟨⟩|refine sp ?_|refine uS [0,1,2,3] (hws) ?_|refine uS [0,1,2,3] (hsn) ?_|refine uS [0,1,2,3] (hdp) ?_)
    all_goals exact .inr ⟨2,rfl⟩
   .have hb3:(e3 != 0)=false:=by rw[bne,he3];rfl
    simp only[Bool.not_true,Bool.false_eq_true,if_false];have t1:=dH (a:=ap) hr;have t2:=dH (a:=ci) hr;have t3:=dH (a:=ai) hr;have hmg:=zAB (hT ap).s (hT ci).s (hT ai).s;have hm0:=hM ap ci ai;have hTc:=hT ci;have h3:=λw hw=>h3 he he2 he3 w hw;have hadd0:=λw q h1 h2=>vC (s:=s) (i0:=0) (p:=ci) (q:=q) (es:=eF (treeR r ci) w) hr h1 h2;generalize treeR r ap=TP at *;generalize treeR r ci=TC at *;generalize treeR r ai=TA at *;generalize fL TP TC TA=m at *;obtain⟨m1,F,e4⟩:=m;simp only at *;cases he4:(e4==0)
    .have hb4:(e4 != 0)=true:=by rw[bne,he4];rfl
     simp only[Bool.not_false,if_true];refine bad (c1:=[.p (.i .i64 ai),.p (.i .i64 ap),.p (.i .i64 aq),.p (.b af)]) (c2:=[.p (.i .i64 ci),.p (.i .i64 cp),.p (.i .i64 cq),.p (.b cf)]) ?_;clear h3 hM bad bad1 hT hr hadd0;refine xL aF aN func19 rfl rfl λX0 hX=>?_;simp only[f19,go_sem]
     repeat' (first|exact⟨⟩|refine sp ?_|refine uS [0,1,2,3] (hws) ?_|refine uS [0,1,2,3] (hsn) ?_|refine uS [0,1,2,3] (hdp) ?_|((refine aG (id:=10) aF aN [] [0,1,2,3,4,5,6,7,8,9,10,11,12,13,14,15,16,17,18,19] (by decide +kernel) ?_);(repeat' (first|(refine aT ?_)|((refine bL ?_ rfl rfl ?_ ?_);(rotate_left 1);(focus ((repeat' (first|exact⟨⟩|refine sp ?_|refine uS [0,1,2,3] (t1) ?_|refine uS [0,1,2,3] (t2) ?_|refine uS [0,1,2,3] (t3) ?_|refine uN (hmg) ?_));exact rfl));(simp only[aC]))))))
    .have hb4:(e4 != 0)=false:=by rw[bne,he4];rfl
     simp only[Bool.not_true,Bool.false_eq_true,if_false];obtain rfl:e4=0:=by simpa using he4
     have hm1:=hm0 rfl;have hmk:=oB hTc hm1;cases hx:decide (2147483647<=r.x)
     all_goals simp only[Bool.false_eq_true,if_false,if_true]
     .obtain⟨k1,k2⟩:=h3 m1 hm1 (by have:=of_decide_eq_false hx;omega);have hadd:=hadd0 m1 0 k1 k2;clear h3 hadd0 hM bad bad1 hT hm0 hm1 hTc k1 k2;generalize eF TC m1=E1 at *;generalize zDa r s ci 0 E1=c at *;clear hr;refine aA.perm [0,1,2,3,6,7,8] (d1:=.tup [.c (.p (.sl 2 (dY []))),.c (.p (.i .i64 0))]) (h1:=[.box [.own 6 0 c.N.length,.own 7 0 c.L.length,.mp 8,.p (.i .i64 c.x)],.dead,.dead,.dead,.box [.p (.i .i64 ai),.p (.i .i64 ap),.p (.i .i64 aq),.p (.b af)],.box [.p (.i .i64 ci),.p (.i .i64 cp),.p (.i .i64 cq),.p (.b cf)],.arr 2 (bS c.N) false,.arr 4 (dA c.L) false,.mp (oZ c.E)]) (aV ?_) rfl rfl (by unfold iD;exact hpK);refine xL aF aN func19 rfl rfl λX0 hX=>?_;simp only[f19,go_sem]
      repeat' (first|exact⟨⟩|refine sp ?_|refine uS [0,1,2,3] (hws) ?_|refine uS [0,1,2,3] (hsn) ?_|refine uS [0,1,2,3] (hdp) ?_|((refine aG (id:=10) aF aN [] [0,1,2,3,4,5,6,7,8,9,10,11,12,13,14,15,16,17,18,19] (by decide +kernel) ?_);(repeat' (first|(refine aT ?_)|((refine bL ?_ rfl rfl ?_ ?_);(rotate_left 1);(focus ((repeat' (first|exact⟨⟩|refine sp ?_|refine uS [0,1,2,3] (t1) ?_|refine uS [0,1,2,3] (t2) ?_|refine uS [0,1,2,3] (t3) ?_|refine uN (hmg) ?_));exact rfl));(simp only[aC])))))|((refine aG (id:=15) aF aN [11] [0,1,2,3,4,5,6,7,8,9,10,11] (by decide +kernel) ?_);(repeat' (first|(refine aT ?_)|((refine cK ?_ ?_ rfl rfl rfl ?_ ?_);(rotate_left 2);(focus ((repeat' (first|exact⟨⟩|refine sp ?_|refine uS [0,1,2,3] (hadd) ?_));((refine And.intro ?_ ?_<;>exact rfl))));(simp only[aC]))|((refine cJ ?_ rfl rfl rfl ?_ ?_);(rotate_left 1);(focus ((repeat' (first|exact bA|refine aW ?_ ?_));(all_goals ((repeat' (first|exact⟨⟩|refine sp ?_|refine uS [0,1,2,3] (t2) ?_|refine uN (hmk) ?_));(try (exact rfl))))));(simp only[aC]))))))
      all_goals exact .inr ⟨2,rfl⟩
     .refine bad (c1:=[.p (.i .i64 ai),.p (.i .i64 ap),.p (.i .i64 aq),.p (.b af)]) (c2:=[.p (.i .i64 ci),.p (.i .i64 cp),.p (.i .i64 cq),.p (.b cf)]) (aV ?_);clear h3 hM bad bad1 hT hr hadd0;refine xL aF aN func19 rfl rfl λX0 hX=>?_;simp only[f19,go_sem]
      repeat' (first|exact⟨⟩|refine sp ?_|refine uS [0,1,2,3] (hws) ?_|refine uS [0,1,2,3] (hsn) ?_|refine uS [0,1,2,3] (hdp) ?_|((refine aG (id:=10) aF aN [] [0,1,2,3,4,5,6,7,8,9,10,11,12,13,14,15,16,17,18,19] (by decide +kernel) ?_);(repeat' (first|(refine aT ?_)|((refine bL ?_ rfl rfl ?_ ?_);(rotate_left 1);(focus ((repeat' (first|exact⟨⟩|refine sp ?_|refine uS [0,1,2,3] (t1) ?_|refine uS [0,1,2,3] (t2) ?_|refine uS [0,1,2,3] (t3) ?_|refine uN (hmg) ?_));exact rfl));(simp only[aC]))))))
      all_goals exact .inr ⟨2,rfl⟩
end Go.Proofs.YtflcjdohmojepaaGreatDoor
end
