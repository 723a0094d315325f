/- Part 32 of the proof of roomMerges_card, set without needless blanks. No condition. -/
import Derived.Test.YtflcjdohmojepaaGreatDoorM30
set_option linter.all false
set_option maxRecDepth 100000
set_option maxHeartbeats 16000000
section
namespace Go.Dm
open Go
theorem aA.rowP{P:Program}{f:FuncId}{args:List DV}{k:Nat}{es:List (List PV)}(hc:aA P f args [] λd h'=>(d=.c (.p .nil)/\es=[])∨∃j off es',d=.c (.own j off es.length)/\h'[j]?=some (.arr k es' false)/\(es'.drop off).take es.length=es):
  aA P f args [] λd h'=>d=.c (.own 0 0 es.length)/\h'=[.arr k es false]:=by
 refine aA.rowR ?_;intro X vals hh hi gd hr;have key:∀v w',Ret X (λd h'=>(d=.c (.p .nil)/\es=[])∨∃j off es',d=.c (.own j off es.length)/\h'[j]?=some (.arr k es' false)/\(es'.drop off).take es.length=es) v w'->Ret X (λd h'=>(d=.c (.p .nil)/\es=[])∨∃j,d=.c (.own j 0 es.length)/\h'[j]?=some (.arr k es false)) v w':=by
  rintro v w' ⟨d,Z,k1,k2,k3,k4,k5⟩;rcases k5 with h|⟨j,off,es',rfl,hj,he⟩
  .exact⟨d,Z,k1,k2,k3,k4,.inl h⟩
  .have hrel:∀i:Nat,bD Z (look [(0,.c (.own j off es.length))] i) ((#[v]:Array Value).getD i undef):=λi=>by
    simp only[look];split
    .rename_i h0;subst h0;exact k4
    .exact True.intro
   obtain⟨X',p1,p2,p3,p4,p5⟩:=BU (n0:=X.h.length) (s:=⟨1,[(0,.c (.own j off es.length))],Z.h⟩) 0 j off es.length rfl hj X Z ⟨#[v],[]⟩ rfl rfl k2 k3 ⟨rfl,hrel,rfl⟩;have hv:bD X' (.c (.own Z.h.length 0 es.length)) v:=p5.rel 0;refine⟨_,X',p1.trans k1,p3,p4,hv,.inr ⟨Z.h.length,rfl,?_⟩⟩;rw[p2,List.getElem?_append_right (by simp),List.length_set,Nat.sub_self,he];rfl
 rcases hc X vals hh hi gd hr with⟨h1,h2⟩|⟨v,w',h1,h2⟩
 .exact .inl ⟨h1,h2.mono λe w' ⟨v,he,hv⟩=>⟨v,he,key v w' hv⟩⟩
 .exact .inr ⟨v,w',h1,key v w' h2⟩
theorem HF{X Y:Ctx}{bl:Nat}(hw:Y.w=X.w)(hc:∀c v,cA X c v->cA Y c v){x y:CV}(hxy:∀v,cA X x v->cA Y y v):∀{cs:List CV} {off n:Nat},cU X bl off cs->cs[n]?=some x->cU Y bl off (cs.set n y)
 | [],_,_,_,h=>by simp at h
 | c::cs,off,0,h,hx=>by
  simp only[List.getElem?_cons_zero,Option.some.injEq] at hx;subst hx;obtain⟨⟨v,h1,h2⟩,h3⟩:=h;refine⟨⟨v,by rw[hw];exact h1,hxy v h2⟩,?_⟩
  clear h1 h2;have go:∀{cs:List CV} {off:Nat},cU X bl off cs->cU Y bl off cs:=by
   intro cs
   induction cs with
   | nil=>intro off _;exact True.intro
   | cons c cs ih =>
    rintro off ⟨⟨v,h1,h2⟩,h3⟩;exact⟨⟨v,by rw[hw];exact h1,hc _ _ h2⟩,ih h3⟩
  exact go h3
 | c::cs,off,n+1,h,hx=>by
  obtain⟨⟨v,h1,h2⟩,h3⟩:=h;exact⟨⟨v,by rw[hw];exact h1,hc _ _ h2⟩,HF hw hc hxy h3 (by simpa using hx)⟩
theorem zB4{n0:Nat}{s:DS}(id n k:Nat){cells:List CV}(hd:s.h[id]?=some (.box cells))(hn:cells[n]?=some (.p .nil))(hid:n0<=id):
  ND n0 s ⟨s.n,s.t,s.h.set id (.box (cells.set n (.own s.h.length 0 0)))++[.arr k [] false]⟩:=by
 intro X0 X a hn0 hh hi hs ht;obtain⟨h1,h2⟩:=virt hi k;rw[<- hh] at hd;have hlt:=(List.getElem?_eq_some_iff.1 hd).1;have hd':(X.virt k).h[id]?=some (.box cells):=by
  show (X.h++_)[id]? = _;rw[List.getElem?_append_left hlt];exact hd
 obtain⟨g,arr,el,fz,q1,q2,q3,q4,q5⟩:=h2.blk id _ hd';have htt:Touched (X.virt k).w (X.virt k).w g.1:=⟨rfl,rfl,tM.rfl',rfl,λ_ _=>rfl,.inl ⟨arr,el,fz,arr,el,fz,q2,q2,rfl⟩⟩;have st:=Step.put h2 hd' rfl rfl q1 htt (d:=.box (cells.set n (.own X.h.length 0 0))) True.intro rfl
 have hrel:eC ((X.virt k).put (X.virt k).w id (.box (cells.set n (.own X.h.length 0 0)))) id (.box (cells.set n (.own X.h.length 0 0))):=by
  refine⟨g,arr,el,fz,q1,q2,by simpa using q3,q4,?_⟩
  obtain ⟨g',arr',el',fz',r1,r2,r3,r4,r5⟩:=hi.blk id _ hd;have hg:(X.virt k).G id=X.G id:=by
   show (if id=X.h.length then none else X.G id)=X.G id
   rw[if_neg (by omega)]
  rw[hg,r1] at q1;cases q1;refine HF (X:=X) (Y:=((X.virt k).put (X.virt k).w id (.box (cells.set n (.own X.h.length 0 0))))) (y:=.own X.h.length 0 0) rfl (λc v hc=>?_) (λv hv=>?_) r5 hn
  .exact bD.step st (bD.step h1 (tI (x:=c) hc))
  .exact bD.step st (tI (x:=.own X.h.length 0 0) (iQ hv))
 have hi2:=HInv.put h2 hd' rfl rfl q1 htt (d:=.box (cells.set n (.own X.h.length 0 0))) True.intro rfl hrel
 refine⟨((X.virt k).put (X.virt k).w id (.box (cells.set n (.own X.h.length 0 0)))),rfl,?_,hi2,(hs.trans hi h1).trans h2 st,ht.size,λj=>?_,ht.defs⟩
 .show (X.h++[DB.arr k [] false]).set id _=_
  rw[List.set_append_left _ _ hlt,hh]
 .exact bD.step st ((ht.rel j).step h1)
end Go.Dm
end
section
namespace Go.Proofs.YtflcjdohmojepaaGreatDoor
open Go Go.Dm Go.Proofs Go.Proofs.Tryz
def NF(l:List Ly)(ids:List Int):List Int:=ids.flatMap (rS l)
theorem ZS{l:List Ly}:∀(ids:List Int),(NF l ids).length<=ids.length*l.length
 | []=>by simp[NF]
 | a::ids=>by
  have h1:=yT l a;have h2:=ZS (l:=l) ids;simp only[NF,List.flatMap_cons,List.length_append,List.length_cons,Nat.succ_mul] at h2 ⊢;omega
theorem zJB(l:List Ly)(ids:List Int):(l.filter λx=>!goK (NF l ids) x)=kK l ids:=by
 unfold kK
 congr 1
 funext x
 simp only[goK,Bool.not_not,NF];rw[Bool.eq_iff_iff];simp[List.mem_flatMap]
theorem zO1{l:List Ly}{ids:List Int}(hl:l.length<=900)(hi:ids.length<=900)(hgr:OkG l):aA prog 146 [.c (.p (.sl 4 (dA l))),.c (.p (.sl 1 (dB ids)))] [] λr h=>r=.c (.own 0 0 (dA (kK l ids)).length)/\h=[.arr 4 (dA (kK l ids)) false]:=by
 refine aA.rowP ?_;have hcl:=zAb (l:=l) (by omega);rw[gH] at hcl;have hA:=λa=>sE (l:=l) (a:=a) (by omega) hgr;have hbd:∀k,(NF l (ids.take k)).length<=810000:=λk=>by
  have h1:(ids.take k).length<=900:=by rw[List.length_take];omega
  have h2:=ZS (l:=l) (ids.take k);have h3:(ids.take k).length*l.length<=900*900:=Nat.mul_le_mul h1 hl;omega
 have hfin:∀{K:DV->aD->Prop},(∀es:List (List PV),es.take (kK l ids).length=dA (kK l ids)->K (.c (.own 2 0 (kK l ids).length)) [.box [.own 1 0 (NF l ids).length],.arr 1 (dB (NF l ids)) false,.arr 4 es false]) ->
   aA prog 207 [.c (.own 2 0 l.length),.c (.clo 208 [.ptr 0 0])] [.box [.own 1 0 (NF l ids).length],.arr 1 (dB (NF l ids)) false,.arr 4 (dA l) false] K:=λhk=>by
  have h0:=hbd ids.length;rw[List.take_length] at h0;refine zDS (by omega) (by omega) ?_;rw[zJB];exact hk
 generalize kK l ids=G at hfin ⊢;refine VP aF aN func146 rfl rfl λX0 hX=>?_;simp only[Tryz.f146,go_sem]
 repeat' (first|exact⟨⟩|refine sp ?_)
 refine eX aF aN (α:=Nat) (λk=>⟨24,[(0,.c (.p (.sl 4 (dA l)))),(5,.c (.ptr 0 0)),(8,.c (.p (.sl 1 (dB ids)))),(9,.c (.p (.i .i64 ids.length))),(10,.c (.p (.i .i64 k)))],[.box [.own 1 0 (NF l (ids.take k)).length],.arr 1 (dB (NF l (ids.take k))) false]⟩)
  (λk=>k<=ids.length) (λk=>ids.length-k) 0 (Nat.zero_le _) ((zB4 0 0 1 rfl rfl (by rw[hX];exact Nat.le_refl _)).trans (dC (aB (by rw[hX];rfl) rfl rfl wkK))) ?_
 intro k hkl;have hbk:=hbd k;by_cases hlt:k<ids.length
 .have hx:ids[k]?=some ids[k]:=List.getElem?_eq_getElem hlt;have hg:=sK hx;have h1:decide ((k:Int)<(ids.length:Int))=true:=decide_eq_true (by omega);have h2:(k:Int)<(ids.length:Int):=by omega
  have h3:(0:Int)<=k:=by omega
  have w1:IntKind.i64.wrap ((k:Int)+1)=k+1:=wrap_i64 (by omega) (by omega);have ht:NF l (ids.take (k+1))=NF l (ids.take k)++rS l ids[k]:=by
   unfold NF;rw[List.take_add_one,hx,List.flatMap_append];simp
  have hAk:=hA ids[k];have hal:=yT l ids[k];rw[eZ] at hAk;generalize ids[k]=x at hx hg ht hAk hal;generalize rS l x=A at hAk ht hal;generalize NF l (ids.take k)=S at hbk ht;have hlen:(NF l (ids.take (k+1))).length=S.length+A.length:=by rw[ht,List.length_append]
  have ht:=PLift.up ht;have hlen:=PLift.up hlen;have htk:(dB A).take A.length=dB A:=by rw[<- eZ A,List.take_length]
  have hak:∀{h:aD} {K:DV->aD->Prop},K (.c (.own h.length 0 A.length)) (h++[.arr 1 (dB A) false])->aA prog 107 [.c (.p (.sl 4 (dA l))),.c (.p (.i .i64 x))] h K:=λ{h K} hk=>zLI [] hAk rfl rfl (by simp only[go_sem]) (by simpa[DV.rn,CV.rn,Dm.rn,gQ,DB.rn] using hk);clear hx hA hfin hbd hcl hAk
  repeat' (first|exact⟨⟩|refine sp ?_|((refine aG (id:=5) aF aN [3,4,5] [1,2,3,0,4,5] (by decide +kernel) ?_);(repeat' (first|(refine aT ?_)|((refine cK ?_ ?_ rfl rfl rfl ?_ ?_);(rotate_left 2);(focus ((repeat' (first|exact⟨⟩|refine sp ?_|refine hak ?_|refine ai ?_));((refine And.intro ?_ ?_<;>exact rfl))));(simp only[aC,bH]))|((refine cJ ?_ rfl rfl rfl ?_ ?_);(rotate_left 1);(focus ((repeat' (first|exact bA|refine aW ?_ ?_));(all_goals ((repeat' (first|exact⟨⟩|refine sp ?_));(try (exact rfl))))));(simp only[aC]))))))
  exact wK (k+1) (by omega) (by omega) (by rw[hlen.down,ht.down];exact iK (oQ [0,3] rfl hpK rfl wpK))
 .have hke:k=ids.length:=by omega
  subst hke;rw[List.take_length] at hbk ⊢;have h1:decide ((ids.length:Int)<(ids.length:Int))=false:=decide_eq_false (by omega);clear hA hbd;generalize NF l ids=S at hbk hfin
  repeat' (first|exact⟨⟩|refine sp ?_|refine uS [] (hcl) ?_)
  refine aA.sub [0,1,2] (hfin (K:=λd h'=>∃es:List (List PV),es.take G.length=dA G/\d=.c (.own 2 0 G.length)/\h'=[.box [.own 1 0 S.length],.arr 1 (dB S) false,.arr 4 es false]) λes he=>⟨es,he,rfl,rfl⟩) rfl (by simp only[go_sem];done) ?_;rintro d h' - ⟨es,he,rfl,rfl⟩;simp only[go_sem]
  repeat' (first|exact⟨⟩|refine sp ?_)
  exact .inr ⟨2,0,es,rfl,rfl,he⟩
theorem MO{r:Rm}{s:List UInt8}(hr:OkR r):aA prog 36 [.c (.ptr 0 0),.c (.p (.s s))] (bO r) λd h=>d=.tup [.agg (wsP r s).1.cv,.c (.p (.i .i64 (wsP r s).2))]/\h=bO r:=by
 have hl:=iM (s:=s) hr;unfold wsP;generalize bY r s=ye at hl ⊢;obtain⟨⟨yi,yp,yq,yf⟩,e⟩:=ye;simp only at hl ⊢;cases he:(e==0)<;>cases yf
 all_goals simp only[Bool.false_and,Bool.true_and,if_true,Bool.false_eq_true,if_false]
 all_goals
  refine eT func36 λX0 hX=>?_;simp only[f36,go_sem]
  repeat' (first|exact⟨⟩|refine sp ?_|refine uS [0,1,2,3] (hl) ?_)
 all_goals simp[ly0]
theorem zAV{r:Rm}{s:List UInt8}(hr:OkR r):aA prog 48 [.c (.ptr 0 0),.c (.p (.s s))] (bO r) λd h=>d=.tup [.agg (snP r s).1.cv,.c (.p (.i .i64 (snP r s).2))]/\h=bO r:=by
 have hl:=iM (s:=s) hr;unfold snP;generalize bY r s=ye at hl ⊢;obtain⟨⟨yi,yp,yq,yf⟩,e⟩:=ye;simp only at hl ⊢;cases he:(e==0)<;>cases yf
 all_goals simp only[Bool.false_and,Bool.true_and,Bool.not_true,Bool.not_false,if_true,Bool.false_eq_true,if_false]
 all_goals
  refine eT func48 λX0 hX=>?_;simp only[f48,go_sem]
  repeat' (first|exact⟨⟩|refine sq ?_|refine uS [0,1,2,3] (hl) ?_)
 all_goals simp[ly0]
theorem zDF{h:aD}{i n:Nat}{l:List Ly}{a:Int}{K:DV->aD->Prop}(hl:l.length<=100000)(hn:n=l.length)(h0:h[i]?=some (.arr 4 (dA l) false))(hk:K (.c (.own h.length 0 (bV l a).length)) (h++[.arr 1 (dB (bV l a)) false])):
  aA prog 100 [.c (.own i 0 n),.c (.p (.i .i64 a))] h K:=by
 refine zLH rfl (by rw[hn,<- gH,List.take_length]) (zL0 hl) h0 (by simp[uV,qB,jL,dB,vJ]) ?_;simpa[DV.sh,CV.sh,DB.sh,eZ] using hk
theorem rN{r:Rm}{a:Int}(hr:OkR r):aA prog 45 [.c (.ptr 0 0),.c (.p (.i .i64 a))] (bO r) λd h=>d=.c (.p (.i .i64 (iC r a)))/\h=bO r:=by
 have hl:=hr.ll;have hk:∀{h:aD} {i:Nat} {K:DV->aD->Prop},h[i]?=some (.arr 4 (dA r.L) false)->K (.c (.own h.length 0 (bV r.L a).length)) (h++[.arr 1 (dB (bV r.L a)) false])->aA prog 100 [.c (.own i 0 r.L.length),.c (.p (.i .i64 a))] h K:=λh0 hk=>zDF (by omega) rfl h0 hk;unfold iC;generalize bV r.L a=C at hk ⊢;cases hd:decide (12<=(C.length:Int))
 all_goals simp only[if_true,Bool.false_eq_true,if_false]
 all_goals
  refine eT func45 λX0 hX=>?_;simp only[f45,go_sem]
  repeat' (first|exact⟨⟩|refine sp ?_)
theorem tK{r:Rm}{s:List UInt8}(hr:OkR r)(hs:s.length<=1000000000):aA prog 44 [.c (.ptr 0 0),.c (.p (.s s))] (bO r) λd h=>d=.c (.p (.i .i64 (gY r s)))/\h=bO r:=by
 have hf:=wT (r:=r) (s:=s) (by have:=hr.nl;omega) hr.srt;have hn:=sU hs;have hnl:=hr.nl;have hll:=hr.ll;unfold gY;generalize aZ s=a at hn ⊢;generalize zAy r.N s=b at hf ⊢;cases a
 .simp only[Bool.not_false,if_true];refine eT func44 λX0 hX=>?_;simp only[f44,go_sem]
  repeat' (first|exact⟨⟩|refine sq ?_|refine uS [0,1,2,3] (hf) ?_|refine uF (hn) ?_)
 .cases b
  .simp only[Bool.not_true,Bool.false_eq_true,if_false];cases h1:decide (20<=(r.N.length:Int))<;>cases h2:decide (40<=(r.L.length:Int))<;>cases h3:decide (2147483647<=r.x)
   all_goals simp only[Bool.or_true,Bool.or_false,if_true,Bool.false_eq_true,if_false]
   all_goals
    refine eT func44 λX0 hX=>?_;simp only[f44,go_sem]
    repeat' (first|exact⟨⟩|refine sq ?_|refine uS [0,1,2,3] (hf) ?_|refine uF (hn) ?_)
  .simp only[Bool.not_true,Bool.false_eq_true,if_false,if_true];refine eT func44 λX0 hX=>?_;simp only[f44,go_sem]
   repeat' (first|exact⟨⟩|refine sq ?_|refine uS [0,1,2,3] (hf) ?_|refine uF (hn) ?_)
theorem zCH{r:Rm}{a:Int}(hr:OkR r):aA prog 87 [.c (.ptr 0 0),.c (.p (.i .i64 a))] (bO r) λd h=>d=.tup [.c (.p (.sl 5 (aS (KM r a).1))),.c (.p (.b (KM r a).2))]/\h=bO r:=by
 have hl:=hr.ll;have hk:∀{h:aD} {i:Nat} {K:DV->aD->Prop},h[i]?=some (.arr 4 (dA r.L) false)->K (.c (.own h.length 0 (bV r.L a).length)) (h++[.arr 1 (dB (bV r.L a)) false])->aA prog 100 [.c (.own i 0 r.L.length),.c (.p (.i .i64 a))] h K:=λh0 hk=>zDF (by omega) rfl h0 hk;have hcl:=zBm r.L a;have hfo:=WD (ls:=oC r a) (by unfold oC;rw[List.length_map];omega) (hr.layers a);rw[show KM r a=pL [] (oC r a) from rfl]
 generalize pL [] (oC r a)=T at hfo ⊢;obtain⟨T1,T2⟩:=T;unfold oC at hfo;simp only at hfo ⊢;generalize bV r.L a=C at hk hcl hfo ⊢;refine eT func87 λX0 hX=>?_;simp only[f87,go_sem]
 repeat' (first|exact⟨⟩|refine sp ?_|refine hk rfl ?_)
 refine eX aF aN (α:=Nat) (λk=>⟨34,[(0,.c (.ptr 0 0)),(14,.c (.own 4 0 C.length)),(15,.c (.p (.i .i64 C.length))),(16,.c (.p (.i .i64 k))),(6,.c (.own 5 0 k))],[.box [.own 1 0 r.N.length,.own 2 0 r.L.length,.mp 3,.p (.i .i64 r.x)],.arr 2 (bS r.N) false,.arr 4 (dA r.L) false,.mp (oZ r.E),.arr 1 (dB C) false,.arr 1 (BC ((C.take k).map (lF r.E))) false]⟩)
  (λk=>k<=C.length) (λk=>C.length-k) 0 (Nat.zero_le _) ((uM 6 1 rfl).trans (dC (aB (by rw[hX];rfl) rfl rfl wkK))) ?_
 intro k hkl;by_cases hlt:k<C.length
 .have hx:C[k]?=some C[k]:=List.getElem?_eq_getElem hlt;have hg:=sK hx;have h1:decide ((k:Int)<(C.length:Int))=true:=decide_eq_true (by omega);have h2:(k:Int)<(C.length:Int):=by omega
  have h3:(0:Int)<=k:=by omega
  have w1:IntKind.i64.wrap ((k:Int)+1)=k+1:=wrap_i64 (by omega) (by omega);have ht:(C.take (k+1)).map (lF r.E)=(C.take k).map (lF r.E)++[lF r.E C[k]]:=by rw[List.take_add_one,hx,List.map_append];rfl
  have htl:((C.take k).map (lF r.E)).length=k:=by rw[List.length_map,List.length_take];omega
  have ht:=PLift.up ht;have hLl:(BC ((C.take k).map (lF r.E))).length=k:=by rw[zAn,htl]
  generalize C[k]=c at hx hg ht;clear hx hk hfo
  repeat' (first|exact⟨⟩|refine sp ?_|((with_reducible refine And.intro ?_ ?_);((first|omega|decide))))
  exact wK (k+1) (by omega) (by omega) (by rw[ht.down];exact iK (oQ [0,1,2,3,4,7] rfl hpK rfl wpK))
 .have hke:k=C.length:=by omega
  subst hke;rw[List.take_length];have h1:decide ((C.length:Int)<(C.length:Int))=false:=decide_eq_false (by omega);have htk:(C.map (lF r.E)).take C.length=C.map (lF r.E):=List.take_of_length_le (by rw[List.length_map];exact Nat.le_refl _)
  repeat' (first|exact⟨⟩|refine sp ?_|refine uN (hfo) ?_|((with_reducible apply aA.frz);exact rfl;exact rfl))
theorem dH{r:Rm}{a:Int}(hr:OkR r):aA prog 37 [.c (.ptr 0 0),.c (.p (.i .i64 a))] (bO r) λd h=>d=.c (.p (.sl 5 (aS (treeR r a))))/\h=bO r:=by
 have hf:=zCH (a:=a) hr;unfold treeR;generalize KM r a=T at hf ⊢;obtain⟨T1,T2⟩:=T;simp only at hf ⊢;refine eT func37 λX0 hX=>?_;simp only[f37,go_sem]
 repeat' (first|exact⟨⟩|refine sp ?_|refine uS [0,1,2,3] (hf) ?_)
end Go.Proofs.YtflcjdohmojepaaGreatDoor
end
section
namespace Go.Dm
open Go
section
variable {P:Program}{f:FuncId}{h:aD}{T:Tab}{rs:List ResultVar}{R:DV->aD->Prop}{s:DS}
theorem aA.frzB{x a a':DV}{K:DV->aD->Prop}(hne:(lZ [a]).isEmpty=false)(hp:iF h [a]=some [a'])
 (hd:aA P f [x,a'] (sN h (lZ [a])) K):aA P f [x,a] h K:=by
 intro X vals hh hi gd hr;obtain⟨X',h1,h2,h3,h4,h5,h6⟩:=jD (lZ [a]) hi;rw[<- hh] at hp hd
 match vals,hr with
 | [v0,va],⟨hrp,hra,_⟩ =>
  have hr1:dI X' [a'] [va]:=mL (Y:=X') (ds:=[a]) hi h4 h1 rfl rfl (show dI X [a] [va] from ⟨hra,True.intro⟩) hp h6
  have hrq:bD X' x v0:=bD.step h4 hrp;have key:∀v w',Ret X' K v w'->Ret X K v w':=λv w' ⟨d,Y,k1,k2,k3,k4,k5⟩=>⟨d,Y,k1,k2,h4.trans h5 k3,k4,k5⟩;rw[<- h1];rcases hd X' [v0,va] h2 h5 (gd.step h4) ⟨hrq,hr1.1,True.intro⟩ with⟨h7,h8⟩|⟨v,w',h7,h8⟩
  .exact .inl ⟨h7,h8.mono λe w' ⟨v,he,hv⟩=>⟨v,he,key _ _ hv⟩⟩
  .exact .inr ⟨v,w',h7,key _ _ h8⟩
def iD(r:Rm):aD:=[.box [.own 4 0 r.N.length,.own 5 0 r.L.length,.mp 6,.p (.i .i64 r.x)],.dead,.dead,.dead,.arr 2 (bS r.N) false,.arr 4 (dA r.L) false,.mp (oZ r.E)]
attribute [go_sem] iD
def xF(T:Tab)(t:Fr)(h:aD)(R:DV->aD->Prop):List ResultVar->List EV->Prop
 | [],es=>R (KD es.reverse) h
 | .tmp i::rs,es =>
  match look t i with
  | .c x=>xF T t h R rs (.c x::es)
  | .agg xs=>xF T t h R rs (.agg xs::es)
  | _=>False
 | .cell a ty::rs,es=>(T ty).size≠0/\vY (T ty) h (look t a) λd =>
  match d with
  | .c x=>xF T t h R rs (.c x::es)
  | .agg xs=>xF T t h R rs (.agg xs::es)
  | _=>False
def JE(T:Tab)(rs:List ResultVar)(R:DV->aD->Prop):Exit->DS->Prop
 | .normal,s=>xF T s.t s.h R rs []
 | .ret,s=>xF T s.t s.h R rs []
 | _,_=>False
theorem zK3: JE T rs R .normal s=xF T s.t s.h R rs []:=nr rfl
theorem zK4: JE T rs R .ret s=xF T s.t s.h R rs []:=nr rfl
theorem gS: ∀(rs:List ResultVar) (es:List EV) {K:List EV->Prop},(∀l,R (KD (es.reverse++l)) s.h->K l)->xF T s.t s.h R rs es->nR T s rs K
 | [],es,K,hk,h=>hk [] (by simpa[xF] using h)
 | .tmp i::rs,es,K,hk,h=>by
  simp only[xF,nR] at h ⊢;generalize look s.t i=d at h ⊢;cases d<;>simp only at h ⊢
  .exact gS rs _ (λl hl=>hk _ (by simpa using hl)) h
  .exact gS rs _ (λl hl=>hk _ (by simpa using hl)) h
 | .cell a ty::rs,es,K,hk,h=>by
  simp only[xF,nR] at h ⊢;refine⟨h.1,FN (λd hd=>?_) h.2⟩;cases d<;>simp only at hd ⊢
  .exact gS rs _ (λl hl=>hk _ (by simpa using hl)) hd
  .exact gS rs _ (λl hl=>hk _ (by simpa using hl)) hd
theorem xL (hT:bM P T) (hm:P.follows .mixedOrders=true) {fn:Func} {c:Code} {args:List DV} (hf:P.funcs[f]?=some fn) (hb:fn.body=some c)
 (hc:(Nat.ble args.length fn.ntmps && !(fn.name == "runtime.NumGoroutine"))=true)
 (hs:∀X0:Ctx,X0.h=h->vc P T X0 c ⟨fn.ntmps,jA 0 args,h⟩ (JE T fn.results.toList R)):aA P f args h R:=by
 simp only[Bool.and_eq_true,Bool.not_eq_true'] at hc;refine eM hT hf hb (Nat.le_of_ble_eq_true hc.1) hc.2 λX0 hX=>?_;rw[fK];refine fW (dP hT hm c (hs X0 hX)) λe s hv=>?_;cases e<;>simp only[JE,dpost] at hv ⊢
 case normal=>exact gS _ [] (λl hl=>.inl (by simpa using hl)) hv
 case ret=>exact gS _ [] (λl hl=>.inl (by simpa using hl)) hv
attribute [go_sem] zK3 zK4 xF List.getElem?_nil
end
end Go.Dm
end
section
namespace Go.Proofs.YtflcjdohmojepaaGreatDoor
open Go Go.Dm Go.Proofs Go.Proofs.Tryz
theorem zQz{r:Rm}(hr:OkR r):aA prog 147 [.c (.ptr 0 0)] (bO r) λd h=>d=.c (.own 4 0 (nZ r.N).length)/\h=bO r++[.arr 1 (dB (nZ r.N)) false]:=by
 have hnl:=hr.nl;have hil:(nZ r.N).length=r.N.length:=by simp[nZ]
 rw[hil];refine VP aF aN func147 rfl rfl λX0 hX=>?_;simp only[f147,go_sem]
 repeat' (first|exact⟨⟩|refine sp ?_)
 refine eX aF aN (α:=Nat) (λk=>⟨22,[(9,.c (.own 1 0 r.N.length)),(10,.c (.p (.i .i64 r.N.length))),(11,.c (.p (.i .i64 k))),(3,.c (.own 4 0 k))],[.box [.own 1 0 r.N.length,.own 2 0 r.L.length,.mp 3,.p (.i .i64 r.x)],.arr 2 (bS r.N) false,.arr 4 (dA r.L) false,.mp (oZ r.E),.arr 1 (dB (nZ (r.N.take k))) false]⟩)
  (λk=>k<=r.N.length) (λk=>r.N.length-k) 0 (Nat.zero_le _) ((uM 3 1 rfl).trans (dC (aB (by rw[hX];rfl) rfl rfl wkK))) ?_
 intro k hkl;by_cases hlt:k<r.N.length
 .have hx:r.N[k]?=some r.N[k]:=List.getElem?_eq_getElem hlt;have hg:=qY hx;have h1:decide ((k:Int)<(r.N.length:Int))=true:=decide_eq_true (by omega);have h2:(k:Int)<(r.N.length:Int):=by omega
  have h3:(0:Int)<=k:=by omega
  have w1:IntKind.i64.wrap ((k:Int)+1)=k+1:=wrap_i64 (by omega) (by omega);have ht:nZ (r.N.take (k+1))=nZ (r.N.take k)++[r.N[k].l]:=by unfold nZ;rw[List.take_add_one,hx,List.map_append];rfl
  have htl:(nZ (r.N.take k)).length=k:=by unfold nZ;rw[List.length_map,List.length_take];omega
  generalize r.N[k]=x at hx hg ht;generalize nZ (r.N.take k)=S at ht htl;have ht:=PLift.up ht;clear hx
  repeat' (first|exact⟨⟩|refine sp ?_|((with_reducible refine And.intro ?_ ?_);((first|omega|decide))))
  exact wK (k+1) (by omega) (by omega) (by rw[ht.down];exact iK (oQ [0,1,2,3,7] rfl hpK rfl wpK))
 .have hke:k=r.N.length:=by omega
  subst hke;rw[List.take_length];have h1:decide ((r.N.length:Int)<(r.N.length:Int))=false:=decide_eq_false (by omega)
  repeat' (first|exact⟨⟩|refine sp ?_)
theorem zO2{h:aD}{i j n m:Nat}{l:List Ly}{ids:List Int}{K:DV->aD->Prop}(hl:l.length<=900)(hi:ids.length<=900)(hgr:OkG l)(hn:n=l.length)(hm:m=ids.length)(hij:i≠j)(h0:h[i]?=some (.arr 4 (dA l) false))(h1:h[j]?=some (.arr 1 (dB ids) false))
  (hk:K (.c (.own h.length 0 (kK l ids).length)) (h.set j (.arr 1 (dB ids) true)++[.arr 4 (dA (kK l ids)) false])):aA prog 146 [.c (.own i 0 n),.c (.own j 0 m)] h K:=by
 have hm2:(dB ids).take m=dB ids:=by rw[hm,<- eZ ids,List.take_length]
 refine aA.frzB (a':=.c (.p (.sl 1 (dB ids)))) rfl (by simp[iF,WU,WK,SK,h1,hm2]) ?_;have hf:sN h (lZ [.c (.own j 0 m)])=h.set j (.arr 1 (dB ids) true):=by simp[lZ,zOx,zFm,sN,zHU,h1]
 rw[hf];refine zLH rfl (by rw[hn,<- gH,List.take_length]) (zO1 hl hi hgr) (by rw[List.getElem?_set_ne (Ne.symm hij)];exact h0) (by simp[uV,qB,jL,dA,vJ,Ly.cs]) ?_;simpa[DV.sh,CV.sh,DB.sh,gH] using hk
theorem zL1{r:Rm}(hr:OkR r)(hgr:OkG r.L):aA prog 102 [.c (.ptr 0 0)] (bO r) λd h=>d=.tup []/\h=iD (zAa r):=by
 have hnl:=hr.nl;have hll:=hr.ll;have hil:(nZ r.N).length=r.N.length:=by simp[nZ]
 have hids:=zQz hr;have hik:∀{K:DV->aD->Prop},K (.c (.own 4 0 r.N.length)) (bO r++[.arr 1 (dB (nZ r.N)) false])->aA prog 147 [.c (.ptr 0 0)] (bO r) K:=λhk=>aA.mono hids (by rintro d h' ⟨rfl,rfl⟩;rw[hil];exact hk);unfold bO at hik;have hkk:∀{h:aD} {K:DV->aD->Prop},h[2]?=some (.arr 4 (dA r.L) false)->h[4]?=some (.arr 1 (dB (nZ r.N)) false)->K (.c (.own h.length 0 (kK r.L (nZ r.N)).length)) (h.set 4 (.arr 1 (dB (nZ r.N)) true)++[.arr 4 (dA (kK r.L (nZ r.N))) false])->aA prog 146 [.c (.own 2 0 r.L.length),.c (.own 4 0 r.N.length)] h K:=λh0 h1 hk=>zO2 hll (by omega) hgr rfl hil.symm (by decide) h0 h1 hk
 unfold zAa NT;have hGl:(kK r.L (nZ r.N)).length<=900:=Nat.le_trans (List.length_filter_le ..) hll;generalize kK r.L (nZ r.N)=G at hkk hGl ⊢;generalize nZ r.N=I at hik hkk;refine aA.perm [0,2,3,4,1,5,6] (d1:=.tup []) (h1:=[.box [.own 1 0 r.N.length,.own 5 0 G.length,.mp 6,.p (.i .i64 r.x)],.arr 2 (bS r.N) false,.arr 4 (dA r.L) false,.mp (oZ r.E),.arr 1 (dB I) true,.arr 4 (dA G) false,.mp (oZ (G.foldl (λk l=>oY k l.i (lF r.E l.i)) []))]) ?_ rfl rfl (by unfold iD;exact hpK);clear hids;refine xL aF aN func102 rfl rfl λX0 hX=>?_;simp only[f102,go_sem]
 repeat' (first|exact⟨⟩|refine sp ?_|((refine aG (id:=0) aF aN [6,7,10] [5,6,1,2,3,4,7,0,8,9,10] (by decide +kernel) ?_);(repeat' (first|(refine aT ?_)|((refine cK ?_ ?_ rfl rfl rfl ?_ ?_);(rotate_left 2);(focus ((repeat' (first|exact⟨⟩|refine sp ?_|refine hik ?_|refine hkk rfl rfl ?_));((refine And.intro ?_ ?_<;>exact rfl))));(simp only[aC,bH]))|((refine cJ ?_ rfl rfl rfl ?_ ?_);(rotate_left 1);(focus ((repeat' (first|exact bA|refine aW ?_ ?_));(all_goals ((repeat' (first|exact⟨⟩|refine sp ?_));(try (exact rfl))))));(simp only[aC]))))))
 clear hik hkk;refine eX aF aN (α:=Nat) (λk=>⟨40,[(0,.c (.ptr 0 0)),(2,.c (.mp 6)),(19,.c (.own 5 0 G.length)),(20,.c (.p (.i .i64 G.length))),(21,.c (.p (.i .i64 k)))],[.box [.own 1 0 r.N.length,.own 5 0 G.length,.mp 3,.p (.i .i64 r.x)],.arr 2 (bS r.N) false,.arr 4 (dA r.L) false,.mp (oZ r.E),.arr 1 (dB I) true,.arr 4 (dA G) false,.mp (oZ ((G.take k).foldl (λk l=>oY k l.i (lF r.E l.i)) []))]⟩)
  (λk=>k<=G.length) (λk=>G.length-k) 0 (Nat.zero_le _) (dC (aB (by rw[hX];rfl) rfl rfl wkK)) ?_
 intro k hkl;by_cases hlt:k<G.length
 .have hx:G[k]?=some G[k]:=List.getElem?_eq_getElem hlt;have hg:=nS hx;have h1:decide ((k:Int)<(G.length:Int))=true:=decide_eq_true (by omega);have h2:(k:Int)<(G.length:Int):=by omega
  have h3:(0:Int)<=k:=by omega
  have w1:IntKind.i64.wrap ((k:Int)+1)=k+1:=wrap_i64 (by omega) (by omega);have ht:(G.take (k+1)).foldl (λk l=>oY k l.i (lF r.E l.i)) []=oY ((G.take k).foldl (λk l=>oY k l.i (lF r.E l.i)) []) G[k].i (lF r.E G[k].i):=by rw[List.take_add_one,hx,List.foldl_append];rfl
  generalize G[k]=x at hx hg ht;generalize (G.take k).foldl (λk l=>oY k l.i (lF r.E l.i)) []=M at ht;have ht:=PLift.up ht;clear hx
  repeat' (first|exact⟨⟩|refine sp ?_|((refine aG (id:=5) aF aN [10] [0,1,2,3,4,5,6,7,8,9,10] (by decide +kernel) ?_);(repeat' (first|(refine aT ?_)|((refine cK ?_ ?_ rfl rfl rfl ?_ ?_);(rotate_left 2);(focus ((repeat' (first|exact⟨⟩|refine sp ?_));((refine And.intro ?_ ?_<;>exact rfl))));(simp only[bH]))|((refine cJ ?_ rfl rfl rfl ?_ ?_);(rotate_left 1);(focus ((repeat' (first|exact bA|refine aW ?_ ?_));(all_goals ((repeat' (first|exact⟨⟩|refine sp ?_));(try (exact rfl))))));(simp only[aC]))))))
  exact wK (k+1) (by omega) (by omega) (by rw[ht.down];exact dC (aB rfl rfl rfl wkK))
 .have hke:k=G.length:=by omega
  subst hke;rw[List.take_length];have h1:decide ((G.length:Int)<(G.length:Int))=false:=decide_eq_false (by omega)
  repeat' (first|exact⟨⟩|refine sp ?_)
end Go.Proofs.YtflcjdohmojepaaGreatDoor
end
section
namespace Go.Proofs.YtflcjdohmojepaaGreatDoor
open Go Go.Dm Go.Proofs.Tryz Go.Shelf
def XJ:Go.Shelf.Ren:=⟨λ| 22=>101 | 29=>144 | 30=>145|n=>n,λ| 24=>46 | 9=>52 | 3=>3 | 4=>4 | 0=>0|n=>n,fun|n=>n⟩
theorem zML:InsL prog XJ:={
 mixed:=by kernel_rfl
 f22:=⟨Tryz.f101.name,by decide,Tryz.func101.trans (congrArg some (by kernel_rfl))⟩
 ov:=λxs w w' v h=>by
  have:=run_callFunc_extern func144 (by kernel_rfl) (by kernel_rfl) (by kernel_rfl) (e:=Extern.SlicesOverlaps.overlaps #[46,46] #[4]) (by kernel_rfl) xs w;refine this.trans ?_;rw[show (Extern.SlicesOverlaps.overlaps #[46,46] #[4] xs).run prog w=.ok v w' from h]
  rfl
 t0:=Tryz.underlying0
 a0:=Tryz.isAgg0
 z0:=Tryz.sizeOf0
 v0:=Tryz.zeroValue0
 t3:=Tryz.underlying3
 a3:=Tryz.isAgg3
 z3:=Tryz.sizeOf3
 v3:=Tryz.zeroValue3
 t4:=Tryz.underlying4
 a4:=Tryz.isAgg4
 z4:=Tryz.sizeOf4
 v4:=Tryz.zeroValue4
 t24:=Tryz.underlying46
 a24:=Tryz.isAgg46
 z24:=Tryz.sizeOf46
 v24:=Tryz.zeroValue46 }
theorem zMM{h:aD}{id jd n i:Nat}{es:List (List PV)}{x:List PV}(hid:h[id]?=some (.arr 2 es false))(hjd:h[jd]?=some (.arr 2 [x] false))(hne:id≠jd)(hn:n<=es.length)(hin:i<=n)(hn2:n<=1000000):
  aA prog 101 [.c (.own id 0 n),.c (.p (.i .i64 i)),.c (.own jd 0 1)] h λd h'=>d=.c (.own (h.length+1) 0 (n+1))/\h'=h.set id .dead++[.dead,.arr 2 (fZ i x (es.take n)) false] :=
 uA (k:=2) aF zML (enters func101 rfl rfl) (by show (tab 52).size=2;rw[tab52]) (by decide) (by show (tab 46).k=_;rw[tab46];rfl)
  hid hjd hne hn hin (by show (n+1)*(tab 52).bytes<=_;rw[tab52];simp only;omega) (by omega)
end Go.Proofs.YtflcjdohmojepaaGreatDoor
end
