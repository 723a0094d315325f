/- Part 35 of the proof of roomDeep_card, set without needless blanks. No condition. -/
import Derived.Test.YtlbfnbldeefgmaaGreatDoorC33
set_option linter.all false
section
namespace Go.Proofs.YtlbfnbldeefgmaaGreatDoor
open Go Go.Dm Go.Proofs
set_option maxRecDepth 100000
set_option maxHeartbeats 8000000
theorem zEE {r:Rm} {s:List UInt8} (hr:OkR r):aA Tryz.prog 53 [.c (.ptr 0 0),.c (.p (.s s))] (cB r) fun d h=>d=.tup [.agg (wsP r s).1.cv,.c (.p (.i .i64 (wsP r s).2))]∧h=cB r:=by
 have hl:=oL (s:=s) hr;unfold wsP;generalize cU r s=ye at hl ⊢;obtain ⟨⟨yi,yp,yq,yf⟩,e⟩:=ye;simp only at hl ⊢;cases he:(e == 0) <;> cases yf
 all_goals simp only [Bool.false_and,Bool.true_and,if_true,Bool.false_eq_true,if_false]
 all_goals
  refine ent aC aK Tryz.func53 rfl rfl fun X0 hX=>?_;simp only [Tryz.f53,go_sem]
  repeat' (first|simp only [*,go_sem,Nat.reduceLT,Nat.reduceLeDiff,Nat.reduceEqDiff,↓reduceIte,Nat.reduceAdd,]|((with_reducible refine aS [0,1,2,3] (hl) ?_ ?_ ?_ ?_);exact rfl;exact rfl;(focus ((simp only [go_sem];done)))))
 all_goals simp [ly0]
theorem XB {h:aB} {i n:Nat} {l:List Ly} {a:Int} {K:DV→aB→Prop} (hl:l.length≤100000) (hn:n=l.length) (h0:h[i]? = some (.arr 4 (cY l) false)) (hk:K (.c (.own h.length 0 (bM l a).length)) (h++[.arr 1 (cQ (bM l a)) false])):
  aA Tryz.prog 116 [.c (.own i 0 n),.c (.p (.i .i64 a))] h K:=by
 refine zFR rfl (by rw [hn,← fN,List.take_length]) (zF7 hl) h0 (by simp [sK,mK,iK,cQ,qH]) ?_;simpa [DV.sh,CV.sh,DB.sh,eM] using hk
theorem TY {r:Rm} {a:Int} (hr:OkR r):aA Tryz.prog 55 [.c (.ptr 0 0),.c (.p (.i .i64 a))] (cB r) fun d h=>d=.c (.p (.i .i64 (qX r a)))∧h=cB r:=by
 have hl:=hr.ll;have hk:∀ {h:aB} {i:Nat} {K:DV→aB→Prop},h[i]? = some (.arr 4 (cY r.L) false)→K (.c (.own h.length 0 (bM r.L a).length)) (h++[.arr 1 (cQ (bM r.L a)) false])→aA Tryz.prog 116 [.c (.own i 0 r.L.length),.c (.p (.i .i64 a))] h K:=fun h0 hk=>XB (by omega) rfl h0 hk;unfold qX;generalize bM r.L a=C at hk ⊢;cases hd:decide (12≤(C.length:Int))
 all_goals simp only [if_true,Bool.false_eq_true,if_false]
 all_goals
  refine ent aC aK Tryz.func55 rfl rfl fun X0 hX=>?_;simp only [Tryz.f55,go_sem]
  repeat' (simp only [*,go_sem,Nat.reduceLT,Nat.reduceEqDiff,↓reduceIte,Nat.reduceAdd,])
theorem MU {r:Rm} {s:List UInt8} (hr:OkR r) (hs:s.length≤1000000000):aA Tryz.prog 54 [.c (.ptr 0 0),.c (.p (.s s))] (cB r) fun d h=>d=.c (.p (.i .i64 (pM r s)))∧h=cB r:=by
 have hf:=rQ (r:=r) (s:=s) (by have:=hr.nl;omega) hr.srt;have hn:=oC hs;have hnl:=hr.nl;have hll:=hr.ll;unfold pM;generalize bE s=a at hn ⊢;generalize PL r.N s=b at hf ⊢;cases a
 ·simp only [Bool.not_false,if_true];refine ent aC aK Tryz.func54 rfl rfl fun X0 hX=>?_;simp only [Tryz.f54,go_sem]
  repeat' (first|simp only [*,go_sem,Nat.reduceLT,Nat.reduceEqDiff,↓reduceIte,Nat.reduceAdd,Bool.not_false]|((with_reducible refine aS [0,1,2,3] (hf) ?_ ?_ ?_ ?_);exact rfl;exact rfl;(focus ((simp only [go_sem];done))))|((with_reducible refine aQ (hn) ?_ ?_ ?_);exact rfl;exact rfl))
 ·cases b
  ·simp only [Bool.not_true,Bool.false_eq_true,if_false];cases h1:decide (20≤(r.N.length:Int)) <;> cases h2:decide (40≤(r.L.length:Int)) <;> cases h3:decide (2147483647≤r.x)
   all_goals simp only [Bool.or_true,Bool.or_false,if_true,Bool.false_eq_true,if_false]
   all_goals
    refine ent aC aK Tryz.func54 rfl rfl fun X0 hX=>?_;simp only [Tryz.f54,go_sem]
    repeat' (first|simp only [*,go_sem,Nat.reduceLT,Nat.reduceEqDiff,↓reduceIte,Nat.reduceAdd,Bool.not_true]|((with_reducible refine aS [0,1,2,3] (hf) ?_ ?_ ?_ ?_);exact rfl;exact rfl;(focus ((simp only [go_sem];done))))|((with_reducible refine aQ (hn) ?_ ?_ ?_);exact rfl;exact rfl))
  ·simp only [Bool.not_true,Bool.false_eq_true,if_false,if_true];refine ent aC aK Tryz.func54 rfl rfl fun X0 hX=>?_;simp only [Tryz.f54,go_sem]
   repeat' (first|simp only [*,go_sem,Nat.reduceLT,Nat.reduceEqDiff,↓reduceIte,Nat.reduceAdd,Bool.not_true]|((with_reducible refine aS [0,1,2,3] (hf) ?_ ?_ ?_ ?_);exact rfl;exact rfl;(focus ((simp only [go_sem];done))))|((with_reducible refine aQ (hn) ?_ ?_ ?_);exact rfl;exact rfl))
theorem TZ {r:Rm} {a:Int} (hr:OkR r):aA Tryz.prog 98 [.c (.ptr 0 0),.c (.p (.i .i64 a))] (cB r) fun d h=>d=.tup [.c (.p (.sl 5 (aZ (BN r a).1))),.c (.p (.b (BN r a).2))]∧h=cB r:=by
 have hl:=hr.ll;have hk:∀ {h:aB} {i:Nat} {K:DV→aB→Prop},h[i]? = some (.arr 4 (cY r.L) false)→K (.c (.own h.length 0 (bM r.L a).length)) (h++[.arr 1 (cQ (bM r.L a)) false])→aA Tryz.prog 116 [.c (.own i 0 r.L.length),.c (.p (.i .i64 a))] h K:=fun h0 hk=>XB (by omega) rfl h0 hk;have hcl:=QS r.L a;have hfo:=KF (ls:=kR r a) (by unfold kR;rw [List.length_map];omega) (hr.layers a);rw [show BN r a=lV [] (kR r a) from rfl]
 generalize lV [] (kR r a)=T at hfo ⊢;obtain ⟨T1,T2⟩:=T;unfold kR at hfo;simp only at hfo ⊢;generalize bM r.L a=C at hk hcl hfo ⊢;refine ent aC aK Tryz.func98 rfl rfl fun X0 hX=>?_;simp only [Tryz.f98,go_sem]
 repeat' (first|simp only [*,go_sem,Nat.reduceLT,Nat.reduceEqDiff,↓reduceIte,Nat.reduceAdd,]|refine hk rfl ?_)
 refine dS aC aK (α:=Nat) (fun k=>⟨34,[(0,.c (.ptr 0 0)),(14,.c (.own 4 0 C.length)),(15,.c (.p (.i .i64 C.length))),(16,.c (.p (.i .i64 k))),(6,.c (.own 5 0 k))],[.box [.own 1 0 r.N.length,.own 2 0 r.L.length,.mp 3,.p (.i .i64 r.x)],.arr 2 (bJ r.N) false,.arr 4 (cY r.L) false,.mp (nN r.E),.arr 1 (cQ C) false,.arr 1 (uU ((C.take k).map (iX r.E))) false]⟩)
  (fun k=>k≤C.length) (fun k=>C.length-k) 0 (Nat.zero_le _) ((pQ 6 1 rfl).trans (cM (aJ (by rw [hX];rfl) rfl rfl (by simp only [aH,aN];(repeat' (first|exact rfl|exact True.intro|refine And.intro ?_ ?_)))))) ?_
 intro k hkl;by_cases hlt:k<C.length
 ·have hx:C[k]? = some C[k]:=List.getElem?_eq_getElem hlt;have hg:=rD hx;have h1:decide ((k:Int)<(C.length:Int))=true:=decide_eq_true (by omega);have h2:(k:Int)<(C.length:Int):=by omega
  have h3:(0:Int)≤k:=by omega
  have w1:IntKind.i64.wrap ((k:Int)+1)=k+1:=wrap_i64 (by omega) (by omega);have ht:(C.take (k+1)).map (iX r.E)=(C.take k).map (iX r.E)++[iX r.E C[k]]:=by rw [List.take_add_one,hx,List.map_append];rfl
  have htl:((C.take k).map (iX r.E)).length=k:=by rw [List.length_map,List.length_take];omega
  have ht:=PLift.up ht;have hLl:(uU ((C.take k).map (iX r.E))).length=k:=by rw [NZ,htl]
  generalize C[k]=c at hx hg ht;clear hx hk hfo
  repeat' (first|simp only [*,go_sem,Nat.reduceLT,Nat.reduceLeDiff,Nat.reduceEqDiff,↓reduceIte,Nat.reduceAdd,Nat.reduceBEq,]|((with_reducible refine And.intro ?_ ?_);((first|omega|decide))))
  exact mM (k+1) (by omega) (by omega) (by rw [ht.down];exact dO (fY [0,1,2,3,4,7] rfl (by simp only [fQ,gU,fP,lX];(repeat' (first|exact rfl|exact True.intro|refine And.intro ?_ ?_))) rfl (by simp only [gQ,lH];(repeat' (first|exact rfl|exact True.intro|refine And.intro ?_ ?_)))))
 ·have hke:k=C.length:=by omega
  subst hke;rw [List.take_length];have h1:decide ((C.length:Int)<(C.length:Int))=false:=decide_eq_false (by omega);have htk:(C.map (iX r.E)).take C.length=C.map (iX r.E):=List.take_of_length_le (by rw [List.length_map];exact Nat.le_refl _)
  repeat' (first|simp only [*,go_sem,Nat.reduceLT,Nat.reduceEqDiff,↓reduceIte,Nat.reduceAdd,]|((with_reducible refine cH (hfo) ?_ ?_ ?_);exact rfl;exact fun _=>rfl)|((with_reducible apply aA.frz);exact rfl;exact rfl))
theorem mP {r:Rm} {a:Int} (hr:OkR r):aA Tryz.prog 43 [.c (.ptr 0 0),.c (.p (.i .i64 a))] (cB r) fun d h=>d=.c (.p (.sl 5 (aZ (treeR r a))))∧h=cB r:=by
 have hf:=TZ (a:=a) hr;unfold treeR;generalize BN r a=T at hf ⊢;obtain ⟨T1,T2⟩:=T;simp only at hf ⊢;refine ent aC aK Tryz.func43 rfl rfl fun X0 hX=>?_;simp only [Tryz.f43,go_sem]
 repeat' (first|simp only [*,go_sem,Nat.reduceLT,Nat.reduceEqDiff,↓reduceIte,Nat.reduceAdd,]|((with_reducible refine aS [0,1,2,3] (hf) ?_ ?_ ?_ ?_);exact rfl;exact rfl;(focus ((simp only [go_sem];done)))))
end Go.Proofs.YtlbfnbldeefgmaaGreatDoor
end
section
namespace Go.Dm
open Go
theorem aA.frzB {P:Program} {f:FuncId} {h:aB} {x a a':DV} {K:DV→aB→Prop} (hne:(jO [a]).isEmpty=false) (hp:gR h [a]=some [a'])
  (hd:aA P f [x,a'] (sC h (jO [a])) K):aA P f [x,a] h K:=by
 intro X vals hh hi gd hr;obtain ⟨X',h1,h2,h3,h4,h5,h6⟩:=iD (jO [a]) hi;rw [← hh] at hp hd
 match vals,hr with
 | [v0,va],⟨hrp,hra,_⟩ =>
  have hr1:cZ X' [a'] [va]:=jQ (Y:=X') (ds:=[a]) hi h4 h1 rfl rfl (show cZ X [a] [va] from ⟨hra,True.intro⟩) hp h6
  have hrq:aX X' x v0:=aX.step h4 hrp;have key:∀ v w',Ret X' K v w'→Ret X K v w':=fun v w' ⟨d,Y,k1,k2,k3,k4,k5⟩=>⟨d,Y,k1,k2,h4.trans h5 k3,k4,k5⟩;rw [← h1];rcases hd X' [v0,va] h2 h5 (gd.step h4) ⟨hrq,hr1.1,True.intro⟩ with ⟨h7,h8⟩|⟨v,w',h7,h8⟩
  ·exact .inl ⟨h7,h8.mono fun e w' ⟨v,he,hv⟩=>⟨v,he,key _ _ hv⟩⟩
  ·exact .inr ⟨v,w',h7,key _ _ h8⟩
def xX (r:Rm):aB:=[.box [.own 4 0 r.N.length,.own 5 0 r.L.length,.mp 6,.p (.i .i64 r.x)],.dead,.dead,.dead,.arr 2 (bJ r.N) false,.arr 4 (cY r.L) false,.mp (nN r.E)]
attribute [go_sem] xX
def rX (T:Tab) (t:Fr) (h:aB) (R:DV→aB→Prop):List ResultVar→List EV→Prop
 | [],es=>R (BE es.reverse) h
 | .tmp i::rs,es =>
  match look t i with
  | .c x=>rX T t h R rs (.c x::es)
  | .agg xs=>rX T t h R rs (.agg xs::es)
  | _=>False
 | .cell a ty::rs,es=>(T ty).size≠0∧qY (T ty) h (look t a) fun d =>
  match d with
  | .c x=>rX T t h R rs (.c x::es)
  | .agg xs=>rX T t h R rs (.agg xs::es)
  | _=>False
def AN (T:Tab) (rs:List ResultVar) (R:DV→aB→Prop):Exit→DS→Prop
 | .normal,s=>rX T s.t s.h R rs []
 | .ret,s=>rX T s.t s.h R rs []
 | _,_=>False
theorem zFc {T:Tab} {rs:List ResultVar} {R:DV→aB→Prop} {s:DS}:AN T rs R .normal s=rX T s.t s.h R rs []:=nr rfl
theorem zFd {T:Tab} {rs:List ResultVar} {R:DV→aB→Prop} {s:DS}:AN T rs R .ret s=rX T s.t s.h R rs []:=nr rfl
theorem fI {T:Tab} {s:DS} {R:DV→aB→Prop}:∀ (rs:List ResultVar) (es:List EV) {K:List EV→Prop},(∀ l,R (BE (es.reverse++l)) s.h→K l)→rX T s.t s.h R rs es→kI T s rs K
 | [],es,K,hk,h=>hk [] (by simpa [rX] using h)
 | .tmp i::rs,es,K,hk,h=>by
  simp only [rX,kI] at h ⊢;generalize look s.t i=d at h ⊢;cases d <;> simp only at h ⊢
  ·exact fI rs _ (fun l hl=>hk _ (by simpa using hl)) h
  ·exact fI rs _ (fun l hl=>hk _ (by simpa using hl)) h
 | .cell a ty::rs,es,K,hk,h=>by
  simp only [rX,kI] at h ⊢;refine ⟨h.1,yH (fun d hd=>?_) h.2⟩;cases d <;> simp only at hd ⊢
  ·exact fI rs _ (fun l hl=>hk _ (by simpa using hl)) hd
  ·exact fI rs _ (fun l hl=>hk _ (by simpa using hl)) hd
theorem zCz {P:Program} {T:Tab} (hT:bG P T) (hm:P.follows .mixedOrders=true) {f:FuncId} {fn:Func} {c:Code} {args:List DV} {h:aB} {R:DV→aB→Prop} (hf:P.funcs[f]? = some fn) (hb:fn.body=some c)
  (hc:(Nat.ble args.length fn.ntmps && !(fn.name == "runtime.NumGoroutine"))=true)
  (hs:∀ X0:Ctx,X0.h=h→vc P T X0 c ⟨fn.ntmps,jG 0 args,h⟩ (AN T fn.results.toList R)):aA P f args h R:=by
 simp only [Bool.and_eq_true,Bool.not_eq_true'] at hc;refine eL hT hf hb (Nat.le_of_ble_eq_true hc.1) hc.2 fun X0 hX=>?_;rw [fC];refine fB (dK hT hm c (hs X0 hX)) fun e s hv=>?_;cases e <;> simp only [AN,dpost] at hv ⊢
 case normal=>exact fI _ [] (fun l hl=>.inl (by simpa using hl)) hv
 case ret=>exact fI _ [] (fun l hl=>.inl (by simpa using hl)) hv
attribute [go_sem] zFc zFd rX List.getElem?_nil
end Go.Dm
end
section
namespace Go.Proofs.YtlbfnbldeefgmaaGreatDoor
open Go Go.Dm Go.Proofs
set_option maxRecDepth 100000
set_option maxHeartbeats 8000000
theorem zJS {r:Rm} (hr:OkR r):aA Tryz.prog 147 [.c (.ptr 0 0)] (cB r) fun d h=>d=.c (.own 4 0 (lI r.N).length)∧h=cB r++[.arr 1 (cQ (lI r.N)) false]:=by
 have hnl:=hr.nl;have hil:(lI r.N).length=r.N.length:=by simp [lI]
 rw [hil];refine PC aC aK Tryz.func147 rfl rfl fun X0 hX=>?_;simp only [Tryz.f147,go_sem]
 repeat' (simp only [*,go_sem,Nat.reduceLT,Nat.reduceEqDiff,↓reduceIte,])
 refine dS aC aK (α:=Nat) (fun k=>⟨22,[(9,.c (.own 1 0 r.N.length)),(10,.c (.p (.i .i64 r.N.length))),(11,.c (.p (.i .i64 k))),(3,.c (.own 4 0 k))],[.box [.own 1 0 r.N.length,.own 2 0 r.L.length,.mp 3,.p (.i .i64 r.x)],.arr 2 (bJ r.N) false,.arr 4 (cY r.L) false,.mp (nN r.E),.arr 1 (cQ (lI (r.N.take k))) false]⟩)
  (fun k=>k≤r.N.length) (fun k=>r.N.length-k) 0 (Nat.zero_le _) ((pQ 3 1 rfl).trans (cM (aJ (by rw [hX];rfl) rfl rfl (by simp only [aH,aN];(repeat' (first|exact rfl|exact True.intro|refine And.intro ?_ ?_)))))) ?_
 intro k hkl;by_cases hlt:k<r.N.length
 ·have hx:r.N[k]? = some r.N[k]:=List.getElem?_eq_getElem hlt;have hg:=nA hx;have h1:decide ((k:Int)<(r.N.length:Int))=true:=decide_eq_true (by omega);have h2:(k:Int)<(r.N.length:Int):=by omega
  have h3:(0:Int)≤k:=by omega
  have w1:IntKind.i64.wrap ((k:Int)+1)=k+1:=wrap_i64 (by omega) (by omega);have ht:lI (r.N.take (k+1))=lI (r.N.take k)++[r.N[k].l]:=by unfold lI;rw [List.take_add_one,hx,List.map_append];rfl
  have htl:(lI (r.N.take k)).length=k:=by unfold lI;rw [List.length_map,List.length_take];omega
  generalize r.N[k]=x at hx hg ht;generalize lI (r.N.take k)=S at ht htl;have ht:=PLift.up ht;clear hx
  repeat' (first|simp only [*,go_sem,Nat.reduceLT,Nat.reduceLeDiff,Nat.reduceEqDiff,↓reduceIte,Nat.reduceAdd,Nat.reduceBEq,]|((with_reducible refine And.intro ?_ ?_);((first|omega|decide))))
  exact mM (k+1) (by omega) (by omega) (by rw [ht.down];exact dO (fY [0,1,2,3,7] rfl (by simp only [fQ,gU,fP,lX];(repeat' (first|exact rfl|exact True.intro|refine And.intro ?_ ?_))) rfl (by simp only [gQ,lH];(repeat' (first|exact rfl|exact True.intro|refine And.intro ?_ ?_)))))
 ·have hke:k=r.N.length:=by omega
  subst hke;rw [List.take_length];have h1:decide ((r.N.length:Int)<(r.N.length:Int))=false:=decide_eq_false (by omega)
  repeat' (simp only [*,go_sem,Nat.reduceLT,Nat.reduceEqDiff,↓reduceIte,Nat.reduceAdd,])
theorem zIB {h:aB} {i j n m:Nat} {l:List Ly} {ids:List Int} {K:DV→aB→Prop} (hl:l.length≤900) (hi:ids.length≤900) (hgr:OkG l) (hn:n=l.length) (hm:m=ids.length) (hij:i≠j) (h0:h[i]? = some (.arr 4 (cY l) false)) (h1:h[j]? = some (.arr 1 (cQ ids) false))
  (hk:K (.c (.own h.length 0 (iG l ids).length)) (h.set j (.arr 1 (cQ ids) true)++[.arr 4 (cY (iG l ids)) false])):aA Tryz.prog 146 [.c (.own i 0 n),.c (.own j 0 m)] h K:=by
 have hm2:(cQ ids).take m=cQ ids:=by rw [hm,← eM ids,List.take_length]
 refine aA.frzB (a':=.c (.p (.sl 1 (cQ ids)))) rfl (by simp [gR,KT,KL,WB,h1,hm2]) ?_;have hf:sC h (jO [.c (.own j 0 m)])=h.set j (.arr 1 (cQ ids) true):=by simp [jO,zIb,zAw,sC,zCA,h1]
 rw [hf];refine zFR rfl (by rw [hn,← fN,List.take_length]) (zIA hl hi hgr) (by rw [List.getElem?_set_ne (Ne.symm hij)];exact h0) (by simp [sK,mK,iK,cY,qH,Ly.cs]) ?_;simpa [DV.sh,CV.sh,DB.sh,fN] using hk
theorem zF8 {r:Rm} (hr:OkR r) (hgr:OkG r.L):aA Tryz.prog 95 [.c (.ptr 0 0)] (cB r) fun d h=>d=.tup []∧h=xX (NN r):=by
 have hnl:=hr.nl;have hll:=hr.ll;have hil:(lI r.N).length=r.N.length:=by simp [lI]
 have hids:=zJS hr;have hik:∀ {K:DV→aB→Prop},K (.c (.own 4 0 r.N.length)) (cB r++[.arr 1 (cQ (lI r.N)) false])→aA Tryz.prog 147 [.c (.ptr 0 0)] (cB r) K:=fun hk=>aA.mono hids (by rintro d h' ⟨rfl,rfl⟩;rw [hil];exact hk);unfold cB at hik;have hkk:∀ {h:aB} {K:DV→aB→Prop},h[2]? = some (.arr 4 (cY r.L) false)→h[4]? = some (.arr 1 (cQ (lI r.N)) false)→K (.c (.own h.length 0 (iG r.L (lI r.N)).length)) (h.set 4 (.arr 1 (cQ (lI r.N)) true)++[.arr 4 (cY (iG r.L (lI r.N))) false])→aA Tryz.prog 146 [.c (.own 2 0 r.L.length),.c (.own 4 0 r.N.length)] h K:=fun h0 h1 hk=>zIB hll (by omega) hgr rfl hil.symm (by decide) h0 h1 hk
 unfold NN yF;have hGl:(iG r.L (lI r.N)).length≤900:=Nat.le_trans (List.length_filter_le ..) hll;generalize iG r.L (lI r.N)=G at hkk hGl ⊢;generalize lI r.N=I at hik hkk;refine aA.perm [0,2,3,4,1,5,6] (d1:=.tup []) (h1:=[.box [.own 1 0 r.N.length,.own 5 0 G.length,.mp 6,.p (.i .i64 r.x)],.arr 2 (bJ r.N) false,.arr 4 (cY r.L) false,.mp (nN r.E),.arr 1 (cQ I) true,.arr 4 (cY G) false,.mp (nN (G.foldl (fun k l=>oJ k l.i (iX r.E l.i)) []))]) ?_ rfl rfl (by unfold xX;exact (by simp only [fQ,rI,gU,fP,lX];(repeat' (first|exact rfl|exact True.intro|refine And.intro ?_ ?_))));clear hids;refine zCz aC aK Tryz.func95 rfl rfl fun X0 hX=>?_;simp only [Tryz.f95,go_sem]
 repeat' (first|simp only [*,go_sem,Nat.reduceLT,Nat.reduceEqDiff,↓reduceIte,Nat.reduceAdd,]|((refine aO (id:=0) aC aK [6,7,10] [5,6,1,2,3,4,7,0,8,9,10] (by decide +kernel) ?_);(repeat' (first|(refine bC ?_)|((refine dB ?_ ?_ rfl rfl rfl ?_ ?_);(rotate_left 2);(focus ((repeat' (first|simp only [*,go_sem,Nat.reduceLT,Nat.reduceLeDiff,Nat.reduceEqDiff,↓reduceIte,Nat.reduceAdd,]|refine hik ?_|refine hkk rfl rfl ?_));((refine And.intro ?_ ?_ <;> exact rfl))));(simp only [aF,bF]))|((refine dA ?_ rfl rfl rfl ?_ ?_);(rotate_left 1);(focus ((repeat' (first|exact bI|refine bA ?_ ?_));(all_goals ((repeat' (simp only [*,go_sem,Nat.reduceLT,Nat.reduceEqDiff,↓reduceIte,]));(try (exact rfl))))));(simp only [aF]))))))
 clear hik hkk;refine dS aC aK (α:=Nat) (fun k=>⟨40,[(0,.c (.ptr 0 0)),(2,.c (.mp 6)),(19,.c (.own 5 0 G.length)),(20,.c (.p (.i .i64 G.length))),(21,.c (.p (.i .i64 k)))],[.box [.own 1 0 r.N.length,.own 5 0 G.length,.mp 3,.p (.i .i64 r.x)],.arr 2 (bJ r.N) false,.arr 4 (cY r.L) false,.mp (nN r.E),.arr 1 (cQ I) true,.arr 4 (cY G) false,.mp (nN ((G.take k).foldl (fun k l=>oJ k l.i (iX r.E l.i)) []))]⟩)
  (fun k=>k≤G.length) (fun k=>G.length-k) 0 (Nat.zero_le _) (cM (aJ (by rw [hX];rfl) rfl rfl (by simp only [aH,aN];(repeat' (first|exact rfl|exact True.intro|refine And.intro ?_ ?_))))) ?_
 intro k hkl;by_cases hlt:k<G.length
 ·have hx:G[k]? = some G[k]:=List.getElem?_eq_getElem hlt;have hg:=kJ hx;have h1:decide ((k:Int)<(G.length:Int))=true:=decide_eq_true (by omega);have h2:(k:Int)<(G.length:Int):=by omega
  have h3:(0:Int)≤k:=by omega
  have w1:IntKind.i64.wrap ((k:Int)+1)=k+1:=wrap_i64 (by omega) (by omega);have ht:(G.take (k+1)).foldl (fun k l=>oJ k l.i (iX r.E l.i)) []=oJ ((G.take k).foldl (fun k l=>oJ k l.i (iX r.E l.i)) []) G[k].i (iX r.E G[k].i):=by rw [List.take_add_one,hx,List.foldl_append];rfl
  generalize G[k]=x at hx hg ht;generalize (G.take k).foldl (fun k l=>oJ k l.i (iX r.E l.i)) []=M at ht;have ht:=PLift.up ht;clear hx
  repeat' (first|simp only [*,go_sem,Nat.reduceLT,Nat.reduceLeDiff,Nat.reduceEqDiff,↓reduceIte,Nat.reduceAdd,]|((refine aO (id:=5) aC aK [10] [0,1,2,3,4,5,6,7,8,9,10] (by decide +kernel) ?_);(repeat' (first|(refine bC ?_)|((refine dB ?_ ?_ rfl rfl rfl ?_ ?_);(rotate_left 2);(focus ((repeat' (simp only [*,go_sem,Nat.reduceEqDiff,↓reduceIte,]));((refine And.intro ?_ ?_ <;> exact rfl))));(simp only [bF]))|((refine dA ?_ rfl rfl rfl ?_ ?_);(rotate_left 1);(focus ((repeat' (first|exact bI|refine bA ?_ ?_));(all_goals ((repeat' (simp only [*,go_sem,Nat.reduceLT,Nat.reduceEqDiff,↓reduceIte,]));(try (exact rfl))))));(simp only [aF]))))))
  exact mM (k+1) (by omega) (by omega) (by rw [ht.down];exact cM (aJ rfl rfl rfl (by simp only [aH,aN];(repeat' (first|exact rfl|exact True.intro|refine And.intro ?_ ?_)))))
 ·have hke:k=G.length:=by omega
  subst hke;rw [List.take_length];have h1:decide ((G.length:Int)<(G.length:Int))=false:=decide_eq_false (by omega)
  repeat' (simp only [*,go_sem,Nat.reduceLT,Nat.reduceLeDiff,Nat.reduceEqDiff,↓reduceIte,Nat.reduceAdd,])
end Go.Proofs.YtlbfnbldeefgmaaGreatDoor
end
section
namespace Go.Proofs.YtlbfnbldeefgmaaGreatDoor
open Go Go.Dm Go.Shelf
set_option maxRecDepth 100000
set_option maxHeartbeats 4000000
def LK:Go.Shelf.Ren:=⟨fun | 22=>117 | 29=>198 | 30=>199|n=>n,fun | 24=>49 | 9=>73 | 3=>3 | 4=>4 | 0=>0|n=>n,fun|n=>n⟩
theorem zGN:InsL Tryz.prog LK:={
 mixed:=by kernel_rfl
 f22:=⟨Tryz.f117.name,by decide,Tryz.func117.trans (congrArg some (by kernel_rfl))⟩
 ov:=fun xs w w' v h=>by
  have:=run_callFunc_extern Tryz.func198 (by kernel_rfl) (by kernel_rfl) (by kernel_rfl) (e:=Extern.SlicesOverlaps.overlaps #[49,49] #[4]) (by kernel_rfl) xs w;refine this.trans ?_;rw [show (Extern.SlicesOverlaps.overlaps #[49,49] #[4] xs).run Tryz.prog w=.ok v w' from h]
  rfl
 t0:=Tryz.underlying0
 a0:=Tryz.isAgg0
 z0:=Tryz.sizeOf0
 v0:=Tryz.zeroValue0
 t3:=Tryz.underlying3
 a3:=Tryz.isAgg3
 z3:=Tryz.sizeOf3
 v3:=Tryz.zeroValue3
 t4:=Tryz.underlying4
 a4:=Tryz.isAgg4
 z4:=Tryz.sizeOf4
 v4:=Tryz.zeroValue4
 t24:=Tryz.underlying49
 a24:=Tryz.isAgg49
 z24:=Tryz.sizeOf49
 v24:=Tryz.zeroValue49 }
theorem zGO {h:aB} {id jd n i:Nat} {es:List (List PV)} {x:List PV} (hid:h[id]? = some (.arr 2 es false)) (hjd:h[jd]? = some (.arr 2 [x] false)) (hne:id≠jd) (hn:n≤es.length) (hin:i≤n) (hn2:n≤1000000):
  aA Tryz.prog 117 [.c (.own id 0 n),.c (.p (.i .i64 i)),.c (.own jd 0 1)] h fun d h'=>d=.c (.own (h.length+1) 0 (n+1))∧h'=h.set id .dead++[.dead,.arr 2 (eU i x (es.take n)) false] :=
 pG (k:=2) aC zGN (enters Tryz.func117 rfl rfl) (by show (tab 73).size=2;rw [tab73]) (by decide) (by show (tab 49).k=_;rw [tab49];rfl)
  hid hjd hne hn hin (by show (n+1)*(tab 73).bytes≤_;rw [tab73];simp only;omega) (by omega)
end Go.Proofs.YtlbfnbldeefgmaaGreatDoor
end
section
namespace Go.Proofs.YtlbfnbldeefgmaaGreatDoor
open Go Go.Dm Go.Proofs
set_option maxRecDepth 100000
set_option maxHeartbeats 8000000
def VA (r:Rm):aB:=[.box [.own 4 0 r.N.length,.own 2 0 r.L.length,.mp 3,.p (.i .i64 r.x)],.dead,.arr 4 (cY r.L) false,.mp (nN r.E),.arr 2 (bJ r.N) false]
attribute [go_sem] VA
theorem zGP {h:aB} {id jd n i:Nat} {es:List (List PV)} {x:List PV} {K:DV→aB→Prop} (hid:h[id]? = some (.arr 2 es false)) (hjd:h[jd]? = some (.arr 2 [x] false)) (hne:id≠jd) (hn:n≤es.length) (hin:i≤n) (hn2:n≤1000000)
  (hk:K (.c (.own (h.length+1) 0 (n+1))) (h.set id .dead++[.dead,.arr 2 (eU i x (es.take n)) false])):
  aA Tryz.prog 117 [.c (.own id 0 n),.c (.p (.i .i64 i)),.c (.own jd 0 1)] h K :=
 aA.mono (zGO hid hjd hne hn hin hn2) (by rintro _ _ ⟨rfl,rfl⟩;exact hk)
theorem zA9 (N:List Nm) (s:List UInt8):oE N s≤N.length:=by
 unfold oE;exact (List.takeWhile_sublist _).length_le
theorem HT {r:Rm} {s:List UInt8} {n:Int} (hl:r.N.length≤1000) (hs:DW r.N):aA Tryz.prog 56 [.c (.ptr 0 0),.c (.p (.s s)),.c (.p (.i .i64 n))] (cB r) fun d h=>d=.tup []∧h=VA ⟨bY r.N s n,r.L,r.E,r.x⟩:=by
 have hf:=rQ (r:=r) (s:=s) (Nat.le_trans hl (by decide)) hs;rcases zBb hs (s:=s) with ⟨h1,h2⟩|⟨x,h1,h2,h3,h4⟩
 ·rw [h1] at hf;have hle:=zA9 r.N s;have hlen:=eV r.N;have hins:eU (oE r.N s) [.s s,.i .i64 n] ((bJ r.N).take r.N.length)=bJ (bY r.N s n):=by
   rw [EI h1,← hlen,List.take_length];simp [eU,bJ,List.map_take,List.map_drop]
  have hcl:(bY r.N s n).length=r.N.length+1:=by
   have:=congrArg List.length hins;rw [eV,← hlen,List.take_length,vH (by omega)] at this;omega
  have hik:∀ {h:aB} {jd:Nat} {K:DV→aB→Prop},h[1]? = some (.arr 2 (bJ r.N) false)→h[jd]? = some (.arr 2 [[.s s,.i .i64 n]] false)→1≠jd→K (.c (.own (h.length+1) 0 (r.N.length+1))) (h.set 1 .dead++[.dead,.arr 2 (bJ (bY r.N s n)) false])→aA Tryz.prog 117 [.c (.own 1 0 r.N.length),.c (.p (.i .i64 (oE r.N s))),.c (.own jd 0 1)] h K:=fun h0 h1 hne hk=>zGP h0 h1 hne (by omega) hle (by omega) (by rw [hins];exact hk)
  rw [← hcl] at hik;generalize bY r.N s n=M at hik hcl ⊢;generalize oE r.N s=i at hf hle hik;clear hins h1 h2;refine aA.perm [0,1,2,3,6] (d1:=.tup []) (h1:=[.box [.own 6 0 M.length,.own 2 0 r.L.length,.mp 3,.p (.i .i64 r.x)],.dead,.arr 4 (cY r.L) false,.mp (nN r.E),.arr 2 [[.s s,.i .i64 n]] false,.dead,.arr 2 (bJ M) false]) ?_ rfl rfl (by unfold VA;exact (by simp only [fQ,rI,gU,fP,lX];(repeat' (first|exact rfl|exact True.intro|refine And.intro ?_ ?_))));refine zCz aC aK Tryz.func56 rfl rfl fun X0 hX=>?_;simp only [Tryz.f56,go_sem]
  repeat' (first|simp only [*,go_sem,Nat.reduceLT,Nat.reduceLeDiff,Nat.reduceEqDiff,↓reduceIte,Nat.reduceAdd,Nat.reduceMul,]|((with_reducible refine aS [0,1,2,3] (hf) ?_ ?_ ?_ ?_);exact rfl;exact rfl;(focus ((simp only [go_sem];done))))|refine hik rfl rfl (by decide) ?_|((with_reducible refine And.intro ?_ ?_);decide))
 ·rw [h1] at hf;have hlt:=(List.getElem?_eq_some_iff.1 h3).1;have hg:=nA h3;have k2:(0:Int)≤(oE r.N s:Int):=by omega
  have k3:(oE r.N s:Int)<(r.N.length:Int):=by omega
  have hset:bY r.N s n=r.N.set (oE r.N s) ⟨x.n,n⟩:=by
   have:=uB hs (List.mem_of_getElem? h3) n;rw [h4] at this ⊢;exact this
  rw [hset];generalize oE r.N s=i at hf hlt hg k2 k3 ⊢;clear h1 h2 h3 hset;refine aA.perm [0,4,2,3,1] (d1:=.tup []) (h1:=cB ⟨r.N.set i ⟨x.n,n⟩,r.L,r.E,r.x⟩) ?_ rfl rfl (by unfold VA cB;exact (by simp only [fQ,rI,gU,fP,lX];(repeat' (first|exact rfl|exact True.intro|refine And.intro ?_ ?_))))
  have hsl:(r.N.set i ⟨x.n,n⟩).length=r.N.length:=List.length_set
  refine zCz aC aK Tryz.func56 rfl rfl fun X0 hX=>?_;simp only [Tryz.f56,go_sem]
  repeat' (first|simp only [*,go_sem,Nat.reduceLT,Nat.reduceLeDiff,Nat.reduceEqDiff,↓reduceIte,Nat.reduceAdd,]|((with_reducible refine aS [0,1,2,3] (hf) ?_ ?_ ?_ ?_);exact rfl;exact rfl;(focus ((simp only [go_sem];done)))))
  all_goals rw [List.length_set]
end Go.Proofs.YtlbfnbldeefgmaaGreatDoor
end
