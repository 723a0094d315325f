/- Part 36 of the proof of roomStays_card, set without needless blanks. No condition. -/
import Derived.Test.YtlbfnbldeefgmaaGreatDoorT34
set_option linter.all false
set_option maxRecDepth 100000
set_option maxHeartbeats 16000000
section
namespace Go.Proofs.YtlbfnbldeefgmaaGreatDoor
open Go Go.Dm Go.Proofs Go.Proofs.Tryz
def KR(l:List Ly)(ids:List Int):List Int:=ids.flatMap (pW l)
theorem XM{l:List Ly}:∀(ids:List Int),(KR l ids).length<=ids.length*l.length
 | []=>by simp[KR]
 | a::ids=>by
  have h1:=xM l a;have h2:=XM (l:=l) ids;simp only[KR,List.flatMap_cons,List.length_append,List.length_cons,Nat.succ_mul] at h2 ⊢;omega
theorem zIJ(l:List Ly)(ids:List Int):(l.filter λx=>!goK (KR l ids) x)=kL l ids:=by
 unfold kL
 congr 1
 funext x
 simp only[goK,Bool.not_not,KR];rw[Bool.eq_iff_iff];simp[List.mem_flatMap]
theorem zN0{l:List Ly}{ids:List Int}(hl:l.length<=900)(hi:ids.length<=900)(hgr:OkG l):aA prog 146 [.c (.p (.sl 4 (cM l))),.c (.p (.sl 1 (dG ids)))] [] λr h=>r=.c (.own 0 0 (cM (kL l ids)).length)/\h=[.arr 4 (cM (kL l ids)) false]:=by
 refine aA.rowP ?_;have hcl:=HD (l:=l) (by omega);rw[eY] at hcl;have hA:=λa=>rC (l:=l) (a:=a) (by omega) hgr;have hbd:∀k,(KR l (ids.take k)).length<=810000:=λk=>by
  have h1:(ids.take k).length<=900:=by rw[List.length_take];omega
  have h2:=XM (l:=l) (ids.take k);have h3:(ids.take k).length*l.length<=900*900:=Nat.mul_le_mul h1 hl;omega
 have hfin:∀{K:DV->aB->Prop},(∀es:List (List PV),es.take (kL l ids).length=cM (kL l ids)->K (.c (.own 2 0 (kL l ids).length)) [.box [.own 1 0 (KR l ids).length],.arr 1 (dG (KR l ids)) false,.arr 4 es false]) ->
   aA prog 214 [.c (.own 2 0 l.length),.c (.clo 215 [.ptr 0 0])] [.box [.own 1 0 (KR l ids).length],.arr 1 (dG (KR l ids)) false,.arr 4 (cM l) false] K:=λhk=>by
  have h0:=hbd ids.length;rw[List.take_length] at h0;refine zCR (by omega) (by omega) ?_;rw[zIJ];exact hk
 generalize kL l ids=G at hfin ⊢;refine SB aD aL func146 rfl rfl λX0 hX=>?_;simp only[Tryz.f146,go_sem]
 repeat' (first|exact⟨⟩|refine sp ?_)
 refine dE aD aL (α:=Nat) (λk=>⟨24,[(0,.c (.p (.sl 4 (cM l)))),(5,.c (.ptr 0 0)),(8,.c (.p (.sl 1 (dG ids)))),(9,.c (.p (.i .i64 ids.length))),(10,.c (.p (.i .i64 k)))],[.box [.own 1 0 (KR l (ids.take k)).length],.arr 1 (dG (KR l (ids.take k))) false]⟩)
  (λk=>k<=ids.length) (λk=>ids.length-k) 0 (Nat.zero_le _) ((zAZ 0 0 1 rfl rfl (by rw[hX];exact Nat.le_refl _)).trans (cJ (aF (by rw[hX];rfl) rfl rfl wkK))) ?_
 intro k hkl;have hbk:=hbd k;by_cases hlt:k<ids.length
 .have hx:ids[k]?=some ids[k]:=List.getElem?_eq_getElem hlt;have hg:=rI hx;have h1:decide ((k:Int)<(ids.length:Int))=true:=decide_eq_true (by omega);have h2:(k:Int)<(ids.length:Int):=by omega
  have h3:(0:Int)<=k:=by omega
  have w1:IntKind.i64.wrap ((k:Int)+1)=k+1:=wrap_i64 (by omega) (by omega);have ht:KR l (ids.take (k+1))=KR l (ids.take k)++pW l ids[k]:=by
   unfold KR;rw[List.take_add_one,hx,List.flatMap_append];simp
  have hAk:=hA ids[k];have hal:=xM l ids[k];rw[eZ] at hAk;generalize ids[k]=x at hx hg ht hAk hal;generalize pW l x=A at hAk ht hal;generalize KR l (ids.take k)=S at hbk ht;have hlen:(KR l (ids.take (k+1))).length=S.length+A.length:=by rw[ht,List.length_append]
  have ht:=PLift.up ht;have hlen:=PLift.up hlen;have htk:(dG A).take A.length=dG A:=by rw[<- eZ A,List.take_length]
  have hak:∀{h:aB} {K:DV->aB->Prop},K (.c (.own h.length 0 A.length)) (h++[.arr 1 (dG A) false])->aA prog 213 [.c (.p (.sl 4 (cM l))),.c (.p (.i .i64 x))] h K:=λ{h K} hk=>zKK [] hAk rfl rfl (by simp only[go_sem]) (by simpa[DV.rn,CV.rn,Dm.rn,gT,DB.rn] using hk);clear hx hA hfin hbd hcl hAk
  repeat' (first|exact⟨⟩|refine sp ?_|((refine aG (id:=5) aD aL [3,4,5] [1,2,3,0,4,5] (by decide +kernel) ?_);(repeat' (first|(refine aO ?_)|((refine cR ?_ ?_ rfl rfl rfl ?_ ?_);(rotate_left 2);(focus ((repeat' (first|exact⟨⟩|refine sp ?_|refine hak ?_|refine ai ?_));((refine And.intro ?_ ?_<;>exact rfl))));(simp only[aC,bE]))|((refine cQ ?_ rfl rfl rfl ?_ ?_);(rotate_left 1);(focus ((repeat' (first|exact bB|refine aR ?_ ?_));(all_goals ((repeat' (first|exact⟨⟩|refine sp ?_));(try (exact rfl))))));(simp only[aC]))))))
  exact kT (k+1) (by omega) (by omega) (by rw[hlen.down,ht.down];exact cF (dQ [0,3] rfl hpK rfl wpK))
 .have hke:k=ids.length:=by omega
  subst hke;rw[List.take_length] at hbk ⊢;have h1:decide ((ids.length:Int)<(ids.length:Int))=false:=decide_eq_false (by omega);clear hA hbd;generalize KR l ids=S at hbk hfin
  repeat' (first|exact⟨⟩|refine sp ?_|refine uS [] (hcl) ?_)
  refine aA.sub [0,1,2] (hfin (K:=λd h'=>∃es:List (List PV),es.take G.length=cM G/\d=.c (.own 2 0 G.length)/\h'=[.box [.own 1 0 S.length],.arr 1 (dG S) false,.arr 4 es false]) λes he=>⟨es,he,rfl,rfl⟩) rfl (by simp only[go_sem];done) ?_;rintro d h' - ⟨es,he,rfl,rfl⟩;simp only[go_sem]
  repeat' (first|exact⟨⟩|refine sp ?_)
  exact .inr ⟨2,0,es,rfl,rfl,he⟩
theorem KH{r:Rm}{s:List UInt8}(hr:OkR r):aA prog 53 [.c (.ptr 0 0),.c (.p (.s s))] (aS r) λd h=>d=.tup [.agg (wsP r s).1.cv,.c (.p (.i .i64 (wsP r s).2))]/\h=aS r:=by
 have hl:=iP (s:=s) hr;unfold wsP;generalize bR r s=ye at hl ⊢;obtain⟨⟨yi,yp,yq,yf⟩,e⟩:=ye;simp only at hl ⊢;cases he:(e==0)<;>cases yf
 all_goals simp only[Bool.false_and,Bool.true_and,if_true,Bool.false_eq_true,if_false]
 all_goals
  refine eT func53 λX0 hX=>?_;simp only[f53,go_sem]
  repeat' (first|exact⟨⟩|refine sp ?_|refine uS [0,1,2,3] (hl) ?_)
 all_goals simp[ly0]
theorem ZG{r:Rm}{s:List UInt8}(hr:OkR r):aA prog 163 [.c (.ptr 0 0),.c (.p (.s s))] (aS r) λd h=>d=.tup [.agg (snP r s).1.cv,.c (.p (.i .i64 (snP r s).2))]/\h=aS r:=by
 have hl:=iP (s:=s) hr;unfold snP;generalize bR r s=ye at hl ⊢;obtain⟨⟨yi,yp,yq,yf⟩,e⟩:=ye;simp only at hl ⊢;cases he:(e==0)<;>cases yf
 all_goals simp only[Bool.false_and,Bool.true_and,Bool.not_true,Bool.not_false,if_true,Bool.false_eq_true,if_false]
 all_goals
  refine eT func163 λX0 hX=>?_;simp only[f163,go_sem]
  repeat' (first|exact⟨⟩|refine sq ?_|refine uS [0,1,2,3] (hl) ?_)
 all_goals simp[ly0]
theorem zCB{h:aB}{i n:Nat}{l:List Ly}{a:Int}{K:DV->aB->Prop}(hl:l.length<=100000)(hn:n=l.length)(h0:h[i]?=some (.arr 4 (cM l) false))(hk:K (.c (.own h.length 0 (bN l a).length)) (h++[.arr 1 (dG (bN l a)) false])):
  aA prog 116 [.c (.own i 0 n),.c (.p (.i .i64 a))] h K:=by
 refine zKJ rfl (by rw[hn,<- eY,List.take_length]) (zK5 hl) h0 (by simp[tW,pM,jT,dG,uK]) ?_;simpa[DV.sh,CV.sh,DB.sh,eZ] using hk
theorem qN{r:Rm}{a:Int}(hr:OkR r):aA prog 55 [.c (.ptr 0 0),.c (.p (.i .i64 a))] (aS r) λd h=>d=.c (.p (.i .i64 (gX r a)))/\h=aS r:=by
 have hl:=hr.ll;have hk:∀{h:aB} {i:Nat} {K:DV->aB->Prop},h[i]?=some (.arr 4 (cM r.L) false)->K (.c (.own h.length 0 (bN r.L a).length)) (h++[.arr 1 (dG (bN r.L a)) false])->aA prog 116 [.c (.own i 0 r.L.length),.c (.p (.i .i64 a))] h K:=λh0 hk=>zCB (by omega) rfl h0 hk;unfold gX;generalize bN r.L a=C at hk ⊢;cases hd:decide (12<=(C.length:Int))
 all_goals simp only[if_true,Bool.false_eq_true,if_false]
 all_goals
  refine eT func55 λX0 hX=>?_;simp only[f55,go_sem]
  repeat' (first|exact⟨⟩|refine sp ?_)
theorem sD{r:Rm}{s:List UInt8}(hr:OkR r)(hs:s.length<=1000000000):aA prog 54 [.c (.ptr 0 0),.c (.p (.s s))] (aS r) λd h=>d=.c (.p (.i .i64 (gR r s)))/\h=aS r:=by
 have hf:=qO (r:=r) (s:=s) (by have:=hr.nl;omega) hr.srt;have hn:=rW hs;have hnl:=hr.nl;have hll:=hr.ll;unfold gR;generalize aZ s=a at hn ⊢;generalize SC r.N s=b at hf ⊢;cases a
 .simp only[Bool.not_false,if_true];refine eT func54 λX0 hX=>?_;simp only[f54,go_sem]
  repeat' (first|exact⟨⟩|refine sq ?_|refine uS [0,1,2,3] (hf) ?_|refine uF (hn) ?_)
 .cases b
  .simp only[Bool.not_true,Bool.false_eq_true,if_false];cases h1:decide (20<=(r.N.length:Int))<;>cases h2:decide (40<=(r.L.length:Int))<;>cases h3:decide (2147483647<=r.x)
   all_goals simp only[Bool.or_true,Bool.or_false,if_true,Bool.false_eq_true,if_false]
   all_goals
    refine eT func54 λX0 hX=>?_;simp only[f54,go_sem]
    repeat' (first|exact⟨⟩|refine sq ?_|refine uS [0,1,2,3] (hf) ?_|refine uF (hn) ?_)
  .simp only[Bool.not_true,Bool.false_eq_true,if_false,if_true];refine eT func54 λX0 hX=>?_;simp only[f54,go_sem]
   repeat' (first|exact⟨⟩|refine sq ?_|refine uS [0,1,2,3] (hf) ?_|refine uF (hn) ?_)
theorem zBK{r:Rm}{a:Int}(hr:OkR r):aA prog 98 [.c (.ptr 0 0),.c (.p (.i .i64 a))] (aS r) λd h=>d=.tup [.c (.p (.sl 5 (aQ (HS r a).1))),.c (.p (.b (HS r a).2))]/\h=aS r:=by
 have hl:=hr.ll;have hk:∀{h:aB} {i:Nat} {K:DV->aB->Prop},h[i]?=some (.arr 4 (cM r.L) false)->K (.c (.own h.length 0 (bN r.L a).length)) (h++[.arr 1 (dG (bN r.L a)) false])->aA prog 116 [.c (.own i 0 r.L.length),.c (.p (.i .i64 a))] h K:=λh0 hk=>zCB (by omega) rfl h0 hk;have hcl:=zAg r.L a;have hfo:=SP (ls:=nQ r a) (by unfold nQ;rw[List.length_map];omega) (hr.layers a);rw[show HS r a=oT [] (nQ r a) from rfl]
 generalize oT [] (nQ r a)=T at hfo ⊢;obtain⟨T1,T2⟩:=T;unfold nQ at hfo;simp only at hfo ⊢;generalize bN r.L a=C at hk hcl hfo ⊢;refine eT func98 λX0 hX=>?_;simp only[f98,go_sem]
 repeat' (first|exact⟨⟩|refine sp ?_|refine hk rfl ?_)
 refine dE aD aL (α:=Nat) (λk=>⟨34,[(0,.c (.ptr 0 0)),(14,.c (.own 4 0 C.length)),(15,.c (.p (.i .i64 C.length))),(16,.c (.p (.i .i64 k))),(6,.c (.own 5 0 k))],[.box [.own 1 0 r.N.length,.own 2 0 r.L.length,.mp 3,.p (.i .i64 r.x)],.arr 2 (aV r.N) false,.arr 4 (cM r.L) false,.mp (jI r.E),.arr 1 (dG C) false,.arr 1 (zR ((C.take k).map (lH r.E))) false]⟩)
  (λk=>k<=C.length) (λk=>C.length-k) 0 (Nat.zero_le _) ((pA 6 1 rfl).trans (cJ (aF (by rw[hX];rfl) rfl rfl wkK))) ?_
 intro k hkl;by_cases hlt:k<C.length
 .have hx:C[k]?=some C[k]:=List.getElem?_eq_getElem hlt;have hg:=rI hx;have h1:decide ((k:Int)<(C.length:Int))=true:=decide_eq_true (by omega);have h2:(k:Int)<(C.length:Int):=by omega
  have h3:(0:Int)<=k:=by omega
  have w1:IntKind.i64.wrap ((k:Int)+1)=k+1:=wrap_i64 (by omega) (by omega);have ht:(C.take (k+1)).map (lH r.E)=(C.take k).map (lH r.E)++[lH r.E C[k]]:=by rw[List.take_add_one,hx,List.map_append];rfl
  have htl:((C.take k).map (lH r.E)).length=k:=by rw[List.length_map,List.length_take];omega
  have ht:=PLift.up ht;have hLl:(zR ((C.take k).map (lH r.E))).length=k:=by rw[YC,htl]
  generalize C[k]=c at hx hg ht;clear hx hk hfo
  repeat' (first|exact⟨⟩|refine sp ?_|((with_reducible refine And.intro ?_ ?_);((first|omega|decide))))
  exact kT (k+1) (by omega) (by omega) (by rw[ht.down];exact cF (dQ [0,1,2,3,4,7] rfl hpK rfl wpK))
 .have hke:k=C.length:=by omega
  subst hke;rw[List.take_length];have h1:decide ((C.length:Int)<(C.length:Int))=false:=decide_eq_false (by omega);have htk:(C.map (lH r.E)).take C.length=C.map (lH r.E):=List.take_of_length_le (by rw[List.length_map];exact Nat.le_refl _)
  repeat' (first|exact⟨⟩|refine sp ?_|refine uN (hfo) ?_|((with_reducible apply aA.frz);exact rfl;exact rfl))
theorem dK{r:Rm}{a:Int}(hr:OkR r):aA prog 43 [.c (.ptr 0 0),.c (.p (.i .i64 a))] (aS r) λd h=>d=.c (.p (.sl 5 (aQ (treeR r a))))/\h=aS r:=by
 have hf:=zBK (a:=a) hr;unfold treeR;generalize HS r a=T at hf ⊢;obtain⟨T1,T2⟩:=T;simp only at hf ⊢;refine eT func43 λX0 hX=>?_;simp only[f43,go_sem]
 repeat' (first|exact⟨⟩|refine sp ?_|refine uS [0,1,2,3] (hf) ?_)
end Go.Proofs.YtlbfnbldeefgmaaGreatDoor
end
section
namespace Go.Dm
open Go
section
variable {P:Program}{f:FuncId}{h:aB}{T:Tab}{rs:List ResultVar}{R:DV->aB->Prop}{s:DS}
theorem aA.frzB{x a a':DV}{K:DV->aB->Prop}(hne:(lY [a]).isEmpty=false)(hp:iH h [a]=some [a'])
 (hd:aA P f [x,a'] (rL h (lY [a])) K):aA P f [x,a] h K:=by
 intro X vals hh hi gd hr;obtain⟨X',h1,h2,h3,h4,h5,h6⟩:=jJ (lY [a]) hi;rw[<- hh] at hp hd
 match vals,hr with
 | [v0,va],⟨hrp,hra,_⟩ =>
  have hr1:dL X' [a'] [va]:=mL (Y:=X') (ds:=[a]) hi h4 h1 rfl rfl (show dL X [a] [va] from ⟨hra,True.intro⟩) hp h6
  have hrq:bA X' x v0:=bA.step h4 hrp;have key:∀v w',Ret X' K v w'->Ret X K v w':=λv w' ⟨d,Y,k1,k2,k3,k4,k5⟩=>⟨d,Y,k1,k2,h4.trans h5 k3,k4,k5⟩;rw[<- h1];rcases hd X' [v0,va] h2 h5 (gd.step h4) ⟨hrq,hr1.1,True.intro⟩ with⟨h7,h8⟩|⟨v,w',h7,h8⟩
  .exact .inl ⟨h7,h8.mono λe w' ⟨v,he,hv⟩=>⟨v,he,key _ _ hv⟩⟩
  .exact .inr ⟨v,w',h7,key _ _ h8⟩
def dI(r:Rm):aB:=[.box [.own 4 0 r.N.length,.own 5 0 r.L.length,.mp 6,.p (.i .i64 r.x)],.dead,.dead,.dead,.arr 2 (aV r.N) false,.arr 4 (cM r.L) false,.mp (jI r.E)]
attribute [go_sem] dI
def wE(T:Tab)(t:Fr)(h:aB)(R:DV->aB->Prop):List ResultVar->List EV->Prop
 | [],es=>R (HK es.reverse) h
 | .tmp i::rs,es =>
  match look t i with
  | .c x=>wE T t h R rs (.c x::es)
  | .agg xs=>wE T t h R rs (.agg xs::es)
  | _=>False
 | .cell a ty::rs,es=>(T ty).size≠0/\vA (T ty) h (look t a) λd =>
  match d with
  | .c x=>wE T t h R rs (.c x::es)
  | .agg xs=>wE T t h R rs (.agg xs::es)
  | _=>False
def GM(T:Tab)(rs:List ResultVar)(R:DV->aB->Prop):Exit->DS->Prop
 | .normal,s=>wE T s.t s.h R rs []
 | .ret,s=>wE T s.t s.h R rs []
 | _,_=>False
theorem zJZ: GM T rs R .normal s=wE T s.t s.h R rs []:=nr rfl
theorem zJ0: GM T rs R .ret s=wE T s.t s.h R rs []:=nr rfl
theorem gV: ∀(rs:List ResultVar) (es:List EV) {K:List EV->Prop},(∀l,R (HK (es.reverse++l)) s.h->K l)->wE T s.t s.h R rs es->nI T s rs K
 | [],es,K,hk,h=>hk [] (by simpa[wE] using h)
 | .tmp i::rs,es,K,hk,h=>by
  simp only[wE,nI] at h ⊢;generalize look s.t i=d at h ⊢;cases d<;>simp only at h ⊢
  .exact gV rs _ (λl hl=>hk _ (by simpa using hl)) h
  .exact gV rs _ (λl hl=>hk _ (by simpa using hl)) h
 | .cell a ty::rs,es,K,hk,h=>by
  simp only[wE,nI] at h ⊢;refine⟨h.1,EC (λd hd=>?_) h.2⟩;cases d<;>simp only at hd ⊢
  .exact gV rs _ (λl hl=>hk _ (by simpa using hl)) hd
  .exact gV rs _ (λl hl=>hk _ (by simpa using hl)) hd
theorem nJ (hT:bF P T) (hm:P.follows .mixedOrders=true) {fn:Func} {c:Code} {args:List DV} (hf:P.funcs[f]?=some fn) (hb:fn.body=some c)
 (hc:(Nat.ble args.length fn.ntmps && !(fn.name == "runtime.NumGoroutine"))=true)
 (hs:∀X0:Ctx,X0.h=h->vc P T X0 c ⟨fn.ntmps,kH 0 args,h⟩ (GM T fn.results.toList R)):aA P f args h R:=by
 simp only[Bool.and_eq_true,Bool.not_eq_true'] at hc;refine fN hT hf hb (Nat.le_of_ble_eq_true hc.1) hc.2 λX0 hX=>?_;rw[gJ];refine gI (dX hT hm c (hs X0 hX)) λe s hv=>?_;cases e<;>simp only[GM,dpost] at hv ⊢
 case normal=>exact gV _ [] (λl hl=>.inl (by simpa using hl)) hv
 case ret=>exact gV _ [] (λl hl=>.inl (by simpa using hl)) hv
attribute [go_sem] zJZ zJ0 wE List.getElem?_nil
end
end Go.Dm
end
section
namespace Go.Proofs.YtlbfnbldeefgmaaGreatDoor
open Go Go.Dm Go.Proofs Go.Proofs.Tryz
theorem zPs{r:Rm}(hr:OkR r):aA prog 147 [.c (.ptr 0 0)] (aS r) λd h=>d=.c (.own 4 0 (mF r.N).length)/\h=aS r++[.arr 1 (dG (mF r.N)) false]:=by
 have hnl:=hr.nl;have hil:(mF r.N).length=r.N.length:=by simp[mF]
 rw[hil];refine SB aD aL func147 rfl rfl λX0 hX=>?_;simp only[f147,go_sem]
 repeat' (first|exact⟨⟩|refine sp ?_)
 refine dE aD aL (α:=Nat) (λk=>⟨22,[(9,.c (.own 1 0 r.N.length)),(10,.c (.p (.i .i64 r.N.length))),(11,.c (.p (.i .i64 k))),(3,.c (.own 4 0 k))],[.box [.own 1 0 r.N.length,.own 2 0 r.L.length,.mp 3,.p (.i .i64 r.x)],.arr 2 (aV r.N) false,.arr 4 (cM r.L) false,.mp (jI r.E),.arr 1 (dG (mF (r.N.take k))) false]⟩)
  (λk=>k<=r.N.length) (λk=>r.N.length-k) 0 (Nat.zero_le _) ((pA 3 1 rfl).trans (cJ (aF (by rw[hX];rfl) rfl rfl wkK))) ?_
 intro k hkl;by_cases hlt:k<r.N.length
 .have hx:r.N[k]?=some r.N[k]:=List.getElem?_eq_getElem hlt;have hg:=jV hx;have h1:decide ((k:Int)<(r.N.length:Int))=true:=decide_eq_true (by omega);have h2:(k:Int)<(r.N.length:Int):=by omega
  have h3:(0:Int)<=k:=by omega
  have w1:IntKind.i64.wrap ((k:Int)+1)=k+1:=wrap_i64 (by omega) (by omega);have ht:mF (r.N.take (k+1))=mF (r.N.take k)++[r.N[k].l]:=by unfold mF;rw[List.take_add_one,hx,List.map_append];rfl
  have htl:(mF (r.N.take k)).length=k:=by unfold mF;rw[List.length_map,List.length_take];omega
  generalize r.N[k]=x at hx hg ht;generalize mF (r.N.take k)=S at ht htl;have ht:=PLift.up ht;clear hx
  repeat' (first|exact⟨⟩|refine sp ?_|((with_reducible refine And.intro ?_ ?_);((first|omega|decide))))
  exact kT (k+1) (by omega) (by omega) (by rw[ht.down];exact cF (dQ [0,1,2,3,7] rfl hpK rfl wpK))
 .have hke:k=r.N.length:=by omega
  subst hke;rw[List.take_length];have h1:decide ((r.N.length:Int)<(r.N.length:Int))=false:=decide_eq_false (by omega)
  repeat' (first|exact⟨⟩|refine sp ?_)
theorem zN1{h:aB}{i j n m:Nat}{l:List Ly}{ids:List Int}{K:DV->aB->Prop}(hl:l.length<=900)(hi:ids.length<=900)(hgr:OkG l)(hn:n=l.length)(hm:m=ids.length)(hij:i≠j)(h0:h[i]?=some (.arr 4 (cM l) false))(h1:h[j]?=some (.arr 1 (dG ids) false))
  (hk:K (.c (.own h.length 0 (kL l ids).length)) (h.set j (.arr 1 (dG ids) true)++[.arr 4 (cM (kL l ids)) false])):aA prog 146 [.c (.own i 0 n),.c (.own j 0 m)] h K:=by
 have hm2:(dG ids).take m=dG ids:=by rw[hm,<- eZ ids,List.take_length]
 refine aA.frzB (a':=.c (.p (.sl 1 (dG ids)))) rfl (by simp[iH,TM,SY,PT,h1,hm2]) ?_;have hf:rL h (lY [.c (.own j 0 m)])=h.set j (.arr 1 (dG ids) true):=by simp[lY,zNs,zEj,rL,zGU,h1]
 rw[hf];refine zKJ rfl (by rw[hn,<- eY,List.take_length]) (zN0 hl hi hgr) (by rw[List.getElem?_set_ne (Ne.symm hij)];exact h0) (by simp[tW,pM,jT,cM,uK,Ly.cs]) ?_;simpa[DV.sh,CV.sh,DB.sh,eY] using hk
theorem zCD{r:Rm}(hr:OkR r)(hgr:OkG r.L):aA prog 95 [.c (.ptr 0 0)] (aS r) λd h=>d=.tup []/\h=dI (DZ r):=by
 have hnl:=hr.nl;have hll:=hr.ll;have hil:(mF r.N).length=r.N.length:=by simp[mF]
 have hids:=zPs hr;have hik:∀{K:DV->aB->Prop},K (.c (.own 4 0 r.N.length)) (aS r++[.arr 1 (dG (mF r.N)) false])->aA prog 147 [.c (.ptr 0 0)] (aS r) K:=λhk=>aA.mono hids (by rintro d h' ⟨rfl,rfl⟩;rw[hil];exact hk);unfold aS at hik;have hkk:∀{h:aB} {K:DV->aB->Prop},h[2]?=some (.arr 4 (cM r.L) false)->h[4]?=some (.arr 1 (dG (mF r.N)) false)->K (.c (.own h.length 0 (kL r.L (mF r.N)).length)) (h.set 4 (.arr 1 (dG (mF r.N)) true)++[.arr 4 (cM (kL r.L (mF r.N))) false])->aA prog 146 [.c (.own 2 0 r.L.length),.c (.own 4 0 r.N.length)] h K:=λh0 h1 hk=>zN1 hll (by omega) hgr rfl hil.symm (by decide) h0 h1 hk
 unfold DZ DY;have hGl:(kL r.L (mF r.N)).length<=900:=Nat.le_trans (List.length_filter_le ..) hll;generalize kL r.L (mF r.N)=G at hkk hGl ⊢;generalize mF r.N=I at hik hkk;refine aA.perm [0,2,3,4,1,5,6] (d1:=.tup []) (h1:=[.box [.own 1 0 r.N.length,.own 5 0 G.length,.mp 6,.p (.i .i64 r.x)],.arr 2 (aV r.N) false,.arr 4 (cM r.L) false,.mp (jI r.E),.arr 1 (dG I) true,.arr 4 (cM G) false,.mp (jI (G.foldl (λk l=>oI k l.i (lH r.E l.i)) []))]) ?_ rfl rfl (by unfold dI;exact hpK);clear hids;refine nJ aD aL func95 rfl rfl λX0 hX=>?_;simp only[f95,go_sem]
 repeat' (first|exact⟨⟩|refine sp ?_|((refine aG (id:=0) aD aL [6,7,10] [5,6,1,2,3,4,7,0,8,9,10] (by decide +kernel) ?_);(repeat' (first|(refine aO ?_)|((refine cR ?_ ?_ rfl rfl rfl ?_ ?_);(rotate_left 2);(focus ((repeat' (first|exact⟨⟩|refine sp ?_|refine hik ?_|refine hkk rfl rfl ?_));((refine And.intro ?_ ?_<;>exact rfl))));(simp only[aC,bE]))|((refine cQ ?_ rfl rfl rfl ?_ ?_);(rotate_left 1);(focus ((repeat' (first|exact bB|refine aR ?_ ?_));(all_goals ((repeat' (first|exact⟨⟩|refine sp ?_));(try (exact rfl))))));(simp only[aC]))))))
 clear hik hkk;refine dE aD aL (α:=Nat) (λk=>⟨40,[(0,.c (.ptr 0 0)),(2,.c (.mp 6)),(19,.c (.own 5 0 G.length)),(20,.c (.p (.i .i64 G.length))),(21,.c (.p (.i .i64 k)))],[.box [.own 1 0 r.N.length,.own 5 0 G.length,.mp 3,.p (.i .i64 r.x)],.arr 2 (aV r.N) false,.arr 4 (cM r.L) false,.mp (jI r.E),.arr 1 (dG I) true,.arr 4 (cM G) false,.mp (jI ((G.take k).foldl (λk l=>oI k l.i (lH r.E l.i)) []))]⟩)
  (λk=>k<=G.length) (λk=>G.length-k) 0 (Nat.zero_le _) (cJ (aF (by rw[hX];rfl) rfl rfl wkK)) ?_
 intro k hkl;by_cases hlt:k<G.length
 .have hx:G[k]?=some G[k]:=List.getElem?_eq_getElem hlt;have hg:=lZ hx;have h1:decide ((k:Int)<(G.length:Int))=true:=decide_eq_true (by omega);have h2:(k:Int)<(G.length:Int):=by omega
  have h3:(0:Int)<=k:=by omega
  have w1:IntKind.i64.wrap ((k:Int)+1)=k+1:=wrap_i64 (by omega) (by omega);have ht:(G.take (k+1)).foldl (λk l=>oI k l.i (lH r.E l.i)) []=oI ((G.take k).foldl (λk l=>oI k l.i (lH r.E l.i)) []) G[k].i (lH r.E G[k].i):=by rw[List.take_add_one,hx,List.foldl_append];rfl
  generalize G[k]=x at hx hg ht;generalize (G.take k).foldl (λk l=>oI k l.i (lH r.E l.i)) []=M at ht;have ht:=PLift.up ht;clear hx
  repeat' (first|exact⟨⟩|refine sp ?_|((refine aG (id:=5) aD aL [10] [0,1,2,3,4,5,6,7,8,9,10] (by decide +kernel) ?_);(repeat' (first|(refine aO ?_)|((refine cR ?_ ?_ rfl rfl rfl ?_ ?_);(rotate_left 2);(focus ((repeat' (first|exact⟨⟩|refine sp ?_));((refine And.intro ?_ ?_<;>exact rfl))));(simp only[bE]))|((refine cQ ?_ rfl rfl rfl ?_ ?_);(rotate_left 1);(focus ((repeat' (first|exact bB|refine aR ?_ ?_));(all_goals ((repeat' (first|exact⟨⟩|refine sp ?_));(try (exact rfl))))));(simp only[aC]))))))
  exact kT (k+1) (by omega) (by omega) (by rw[ht.down];exact cJ (aF rfl rfl rfl wkK))
 .have hke:k=G.length:=by omega
  subst hke;rw[List.take_length];have h1:decide ((G.length:Int)<(G.length:Int))=false:=decide_eq_false (by omega)
  repeat' (first|exact⟨⟩|refine sp ?_)
end Go.Proofs.YtlbfnbldeefgmaaGreatDoor
end
section
namespace Go.Proofs.YtlbfnbldeefgmaaGreatDoor
open Go Go.Dm Go.Shelf Go.Proofs.Tryz
def VM:Go.Shelf.Ren:=⟨λ| 22=>117 | 29=>198 | 30=>199|n=>n,λ| 24=>49 | 9=>73 | 3=>3 | 4=>4 | 0=>0|n=>n,fun|n=>n⟩
theorem zLO:InsL prog VM:={
 mixed:=by kernel_rfl
 f22:=⟨Tryz.f117.name,by decide,Tryz.func117.trans (congrArg some (by kernel_rfl))⟩
 ov:=λxs w w' v h=>by
  have:=run_callFunc_extern func198 (by kernel_rfl) (by kernel_rfl) (by kernel_rfl) (e:=Extern.SlicesOverlaps.overlaps #[49,49] #[4]) (by kernel_rfl) xs w;refine this.trans ?_;rw[show (Extern.SlicesOverlaps.overlaps #[49,49] #[4] xs).run prog w=.ok v w' from h]
  rfl
 t0:=Tryz.underlying0
 a0:=Tryz.isAgg0
 z0:=Tryz.sizeOf0
 v0:=Tryz.zeroValue0
 t3:=Tryz.underlying3
 a3:=Tryz.isAgg3
 z3:=Tryz.sizeOf3
 v3:=Tryz.zeroValue3
 t4:=Tryz.underlying4
 a4:=Tryz.isAgg4
 z4:=Tryz.sizeOf4
 v4:=Tryz.zeroValue4
 t24:=Tryz.underlying49
 a24:=Tryz.isAgg49
 z24:=Tryz.sizeOf49
 v24:=Tryz.zeroValue49 }
theorem zLP{h:aB}{id jd n i:Nat}{es:List (List PV)}{x:List PV}(hid:h[id]?=some (.arr 2 es false))(hjd:h[jd]?=some (.arr 2 [x] false))(hne:id≠jd)(hn:n<=es.length)(hin:i<=n)(hn2:n<=1000000):
  aA prog 117 [.c (.own id 0 n),.c (.p (.i .i64 i)),.c (.own jd 0 1)] h λd h'=>d=.c (.own (h.length+1) 0 (n+1))/\h'=h.set id .dead++[.dead,.arr 2 (fZ i x (es.take n)) false] :=
 sW (k:=2) aD zLO (enters func117 rfl rfl) (by show (tab 73).size=2;rw[tab73]) (by decide) (by show (tab 49).k=_;rw[tab49];rfl)
  hid hjd hne hn hin (by show (n+1)*(tab 73).bytes<=_;rw[tab73];simp only;omega) (by omega)
end Go.Proofs.YtlbfnbldeefgmaaGreatDoor
end
section
namespace Go.Proofs.YtlbfnbldeefgmaaGreatDoor
open Go Go.Dm Go.Proofs Go.Proofs.Tryz
def zBM(r:Rm):aB:=[.box [.own 4 0 r.N.length,.own 2 0 r.L.length,.mp 3,.p (.i .i64 r.x)],.dead,.arr 4 (cM r.L) false,.mp (jI r.E),.arr 2 (aV r.N) false]
attribute [go_sem] zBM
theorem zLQ{h:aB}{id jd n i:Nat}{es:List (List PV)}{x:List PV}{K:DV->aB->Prop}(hid:h[id]?=some (.arr 2 es false))(hjd:h[jd]?=some (.arr 2 [x] false))(hne:id≠jd)(hn:n<=es.length)(hin:i<=n)(hn2:n<=1000000)
  (hk:K (.c (.own (h.length+1) 0 (n+1))) (h.set id .dead++[.dead,.arr 2 (fZ i x (es.take n)) false])):
  aA prog 117 [.c (.own id 0 n),.c (.p (.i .i64 i)),.c (.own jd 0 1)] h K :=
 aA.mono (zLP hid hjd hne hn hin hn2) (by rintro _ _ ⟨rfl,rfl⟩;exact hk)
theorem zE7(N:List Nm)(s:List UInt8):lJ N s<=N.length:=by
 unfold lJ;exact(List.takeWhile_sublist _).length_le
theorem QH{r:Rm}{s:List UInt8}{n:Int}(hl:r.N.length<=1000)(hs:wZ r.N):aA prog 56 [.c (.ptr 0 0),.c (.p (.s s)),.c (.p (.i .i64 n))] (aS r) λd h=>d=.tup []/\h=zBM ⟨bL r.N s n,r.L,r.E,r.x⟩:=by
 have hf:=qO (r:=r) (s:=s) (Nat.le_trans hl (by decide)) hs;rcases WB hs (s:=s) with⟨h1,h2⟩|⟨x,h1,h2,h3,h4⟩
 .rw [h1] at hf;have hle:=zE7 r.N s;have hlen:=fF r.N;have hins:fZ (lJ r.N s) [.s s,.i .i64 n] ((aV r.N).take r.N.length)=aV (bL r.N s n):=by
   rw[LF h1,<- hlen,List.take_length];simp[fZ,aV,List.map_take,List.map_drop]
  have hcl:(bL r.N s n).length=r.N.length+1:=by
   have:=congrArg List.length hins;rw[fF,<- hlen,List.take_length,AE (by omega)] at this;omega
  have hik:∀{h:aB} {jd:Nat} {K:DV->aB->Prop},h[1]?=some (.arr 2 (aV r.N) false)->h[jd]?=some (.arr 2 [[.s s,.i .i64 n]] false)->1≠jd->K (.c (.own (h.length+1) 0 (r.N.length+1))) (h.set 1 .dead++[.dead,.arr 2 (aV (bL r.N s n)) false])->aA prog 117 [.c (.own 1 0 r.N.length),.c (.p (.i .i64 (lJ r.N s))),.c (.own jd 0 1)] h K:=λh0 h1 hne hk=>zLQ h0 h1 hne (by omega) hle (by omega) (by rw[hins];exact hk)
  rw[<- hcl] at hik;generalize bL r.N s n=M at hik hcl ⊢;generalize lJ r.N s=i at hf hle hik;clear hins h1 h2;refine aA.perm [0,1,2,3,6] (d1:=.tup []) (h1:=[.box [.own 6 0 M.length,.own 2 0 r.L.length,.mp 3,.p (.i .i64 r.x)],.dead,.arr 4 (cM r.L) false,.mp (jI r.E),.arr 2 [[.s s,.i .i64 n]] false,.dead,.arr 2 (aV M) false]) ?_ rfl rfl (by unfold zBM;exact hpK);refine nJ aD aL func56 rfl rfl λX0 hX=>?_;simp only[f56,go_sem]
  repeat' (first|exact⟨⟩|refine sp ?_|refine uS [0,1,2,3] (hf) ?_|refine hik rfl rfl (by decide) ?_|refine ai ?_)
 .rw [h1] at hf;have hlt:=(List.getElem?_eq_some_iff.1 h3).1;have hg:=jV h3;have k2:(0:Int)<=(lJ r.N s:Int):=by omega
  have k3:(lJ r.N s:Int)<(r.N.length:Int):=by omega
  have hset:bL r.N s n=r.N.set (lJ r.N s) ⟨x.n,n⟩:=by
   have:=kG hs (List.mem_of_getElem? h3) n;rw[h4] at this ⊢;exact this
  rw[hset];generalize lJ r.N s=i at hf hlt hg k2 k3 ⊢;clear h1 h2 h3 hset;refine aA.perm [0,4,2,3,1] (d1:=.tup []) (h1:=aS ⟨r.N.set i ⟨x.n,n⟩,r.L,r.E,r.x⟩) ?_ rfl rfl (by unfold zBM aS;exact hpK)
  have hsl:(r.N.set i ⟨x.n,n⟩).length=r.N.length:=List.length_set
  refine nJ aD aL func56 rfl rfl λX0 hX=>?_;simp only[f56,go_sem]
  repeat' (first|exact⟨⟩|refine sp ?_|refine uS [0,1,2,3] (hf) ?_)
  all_goals rw[List.length_set]
theorem uE{r:Rm}{s:List UInt8}{i0 p q:Int}{es:List En}(hr:OkR r)(h3:OkR ⟨bL r.N s r.x,r.L++[⟨r.x,p,q,false⟩],oI r.E r.x es,r.x+1⟩)(hg:OkG (r.L++[⟨r.x,p,q,false⟩])):
  aA prog 57 [.c (.ptr 0 0),.c (.p (.s s)),.agg [.p (.i .i64 i0),.p (.i .i64 p),.p (.i .i64 q),.p (.b false)],.c (.p (.sl 7 (gD es)))] (aS r) λd h=>d=.tup []/\h=dI (zCd r s p q es):=by
 have hpu:=QH (r:=⟨r.N,r.L++[⟨r.x,p,q,false⟩],oI r.E r.x es,r.x+1⟩) (s:=s) (n:=r.x) (by have:=hr.nl;simp only;omega) hr.srt;have hcl:=zCD h3 hg;have hx:=hr.x;have hll:=hr.ll;have w1:IntKind.i64.wrap (r.x+1)=r.x+1:=wrap_i64 (by omega) (by omega);unfold zCd;generalize DZ ⟨bL r.N s r.x,r.L++[⟨r.x,p,q,false⟩],oI r.E r.x es,r.x+1⟩=c at hcl ⊢;have hlp:(r.L++[(⟨r.x,p,q,false⟩:Ly)]).length=r.L.length+1:=by simp
 generalize bL r.N s r.x=M at hpu hcl;unfold zBM aS at hpu;unfold aS at hcl;simp only[hlp] at hpu hcl;refine aA.perm [0,1,2,3,8,9,10] (d1:=.tup []) (h1:=[.box [.own 8 0 c.N.length,.own 9 0 c.L.length,.mp 10,.p (.i .i64 c.x)],.dead,.dead,.dead,.box [.p (.i .i64 r.x),.p (.i .i64 p),.p (.i .i64 q),.p (.b false)],.arr 4 [[.i .i64 r.x,.i .i64 p,.i .i64 q,.b false]] false,.dead,.dead,.arr 2 (aV c.N) false,.arr 4 (cM c.L) false,.mp (jI c.E)]) ?_ rfl rfl (by unfold dI;exact hpK);clear h3 hg hr;refine nJ aD aL func57 rfl rfl λX0 hX=>?_;simp only[f57,go_sem]
 repeat' (first|exact⟨⟩|refine sp ?_|refine uS [0,1,6,3] (hpu) ?_|refine uS [0,7,6,3] (hcl) ?_|((refine aG (id:=3) aD aL [6,7,10] [5,6,1,2,3,4,7,0,8,9,10] (by decide +kernel) ?_);(repeat' (first|(refine aO ?_)|((refine cR ?_ ?_ rfl rfl rfl ?_ ?_);(rotate_left 2);(focus ((repeat' (first|exact⟨⟩|refine sp ?_|((with_reducible refine And.intro ?_ ?_);((first|omega|decide)))));((refine And.intro ?_ ?_<;>exact rfl))));(simp only[aC,bE]))|((refine cQ ?_ rfl rfl rfl ?_ ?_);(rotate_left 1);(focus ((repeat' (first|exact bB|refine aR ?_ ?_));(all_goals ((repeat' (first|exact⟨⟩|refine sp ?_));(try (exact rfl))))));(simp only[aC])))))|((refine aG (id:=4) aD aL [7] [0,1,2,3,4,5,6,7] (by decide +kernel) ?_);(repeat' (first|(refine aO ?_)|((refine cR ?_ ?_ rfl rfl rfl ?_ ?_);(rotate_left 2);(focus ((repeat' (first|exact⟨⟩|refine sp ?_));((refine And.intro ?_ ?_<;>exact rfl))));(simp only[bE]))|((refine cQ ?_ rfl rfl rfl ?_ ?_);(rotate_left 1);(focus ((repeat' (first|exact bB|refine aR ?_ ?_));(all_goals ((repeat' (first|exact⟨⟩|refine sp ?_));(try (exact rfl))))));(simp only[aC]))))))
end Go.Proofs.YtlbfnbldeefgmaaGreatDoor
end
