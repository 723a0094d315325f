/- Part 35 of the proof of roomAsks_card, set without needless blanks. No condition. -/
import Derived.Test.YtlbfnbldeefgmaaGreatDoorA33
set_option linter.all false
section
namespace Go.Proofs.YtlbfnbldeefgmaaGreatDoor
open Go Go.Dm Go.Proofs
set_option maxRecDepth 100000
set_option maxHeartbeats 8000000
def HK (l:List Ly) (ids:List Int):List Int:=ids.flatMap (sO l)
theorem TN {l:List Ly}:∀ (ids:List Int),(HK l ids).length≤ids.length*l.length
 | []=>by simp [HK]
 | a::ids=>by
  have h1:=TO l a;have h2:=TN (l:=l) ids;simp only [HK,List.flatMap_cons,List.length_append,List.length_cons,Nat.succ_mul] at h2 ⊢;omega
theorem zGO (l:List Ly) (ids:List Int):(l.filter fun x=>!goK (HK l ids) x)=iU l ids:=by
 unfold iU
 congr 1
 funext x
 simp only [goK,Bool.not_not,HK];rw [Bool.eq_iff_iff];simp [List.mem_flatMap]
theorem zLz {l:List Ly} {ids:List Int} (hl:l.length≤900) (hi:ids.length≤900) (hgr:OkG l):aA Tryz.prog 146 [.c (.p (.sl 4 (cZ l))),.c (.p (.sl 1 (cW ids)))] [] fun r h=>r=.c (.own 0 0 (cZ (iU l ids)).length)∧h=[.arr 4 (cZ (iU l ids)) false]:=by
 refine aA.rowP ?_;have hcl:=TY (l:=l) (by omega);rw [fZ] at hcl;have hA:=fun a=>PO (l:=l) (a:=a) (by omega) hgr;have hbd:∀ k,(HK l (ids.take k)).length≤810000:=fun k=>by
  have h1:(ids.take k).length≤900:=by rw [List.length_take];omega
  have h2:=TN (l:=l) (ids.take k);have h3:(ids.take k).length*l.length≤900*900:=Nat.mul_le_mul h1 hl;omega
 have hfin:∀ {K:DV→aC→Prop},(∀ es:List (List PV),es.take (iU l ids).length=cZ (iU l ids)→K (.c (.own 2 0 (iU l ids).length)) [.box [.own 1 0 (HK l ids).length],.arr 1 (cW (HK l ids)) false,.arr 4 es false]) →
   aA Tryz.prog 214 [.c (.own 2 0 l.length),.c (.clo 215 [.ptr 0 0])] [.box [.own 1 0 (HK l ids).length],.arr 1 (cW (HK l ids)) false,.arr 4 (cZ l) false] K:=fun hk=>by
  have h0:=hbd ids.length;rw [List.take_length] at h0;refine zBz (by omega) (by omega) ?_;rw [zGO];exact hk
 generalize iU l ids=G at hfin ⊢;refine VO aB aK Tryz.func146 rfl rfl fun X0 hX=>?_;simp only [Tryz.f146,go_sem]
 repeat' (simp only [*,go_sem,Nat.reduceLT,Nat.reduceEqDiff,↓reduceIte,])
 refine dS aB aK (α:=Nat) (fun k=>⟨24,[(0,.c (.p (.sl 4 (cZ l)))),(5,.c (.ptr 0 0)),(8,.c (.p (.sl 1 (cW ids)))),(9,.c (.p (.i .i64 ids.length))),(10,.c (.p (.i .i64 k)))],[.box [.own 1 0 (HK l (ids.take k)).length],.arr 1 (cW (HK l (ids.take k))) false]⟩)
  (fun k=>k≤ids.length) (fun k=>ids.length-k) 0 (Nat.zero_le _) ((ZO 0 0 1 rfl rfl (by rw [hX];exact Nat.le_refl _)).trans (cJ (aI (by rw [hX];rfl) rfl rfl (by simp only [aH,aL];(repeat' (first|exact rfl|exact True.intro|refine And.intro ?_ ?_)))))) ?_
 intro k hkl;have hbk:=hbd k;by_cases hlt:k<ids.length
 ·have hx:ids[k]? = some ids[k]:=List.getElem?_eq_getElem hlt;have hg:=tH hx;have h1:decide ((k:Int)<(ids.length:Int))=true:=decide_eq_true (by omega);have h2:(k:Int)<(ids.length:Int):=by omega
  have h3:(0:Int)≤k:=by omega
  have w1:IntKind.i64.wrap ((k:Int)+1)=k+1:=wrap_i64 (by omega) (by omega);have ht:HK l (ids.take (k+1))=HK l (ids.take k)++sO l ids[k]:=by
   unfold HK;rw [List.take_add_one,hx,List.flatMap_append];simp
  have hAk:=hA ids[k];have hal:=TO l ids[k];rw [eS] at hAk;generalize ids[k]=x at hx hg ht hAk hal;generalize sO l x=A at hAk ht hal;generalize HK l (ids.take k)=S at hbk ht;have hlen:(HK l (ids.take (k+1))).length=S.length+A.length:=by rw [ht,List.length_append]
  have ht:=PLift.up ht;have hlen:=PLift.up hlen;have htk:(cW A).take A.length=cW A:=by rw [← eS A,List.take_length]
  have hak:∀ {h:aC} {K:DV→aC→Prop},K (.c (.own h.length 0 A.length)) (h++[.arr 1 (cW A) false])→aA Tryz.prog 213 [.c (.p (.sl 4 (cZ l))),.c (.p (.i .i64 x))] h K:=fun {h K} hk=>bW [] hAk rfl rfl (by simp only [go_sem]) (by simpa [DV.rn,CV.rn,Dm.rn,fS,DB.rn] using hk);clear hx hA hfin hbd hcl hAk
  repeat' (first|simp only [*,go_sem,Nat.reduceLT,Nat.reduceEqDiff,↓reduceIte,]|((refine aN (id:=5) aB aK [3,4,5] [1,2,3,0,4,5] (by decide +kernel) ?_);(repeat' (first|(refine aT ?_)|((refine cV ?_ ?_ rfl rfl rfl ?_ ?_);(rotate_left 2);(focus ((repeat' (first|simp only [*,go_sem,Nat.reduceLT,Nat.reduceLeDiff,Nat.reduceEqDiff,↓reduceIte,Nat.reduceAdd,Nat.reduceBEq,]|refine hak ?_|((with_reducible refine And.intro ?_ ?_);omega)));((refine And.intro ?_ ?_ <;> exact rfl))));(simp only [aG,bI]))|((refine cU ?_ rfl rfl rfl ?_ ?_);(rotate_left 1);(focus ((repeat' (first|exact bG|refine aZ ?_ ?_));(all_goals ((repeat' (simp only [*,go_sem,Nat.reduceLT,Nat.reduceEqDiff,↓reduceIte,]));(try (exact rfl))))));(simp only [aG]))))))
  exact qB (k+1) (by omega) (by omega) (by rw [hlen.down,ht.down];exact fP (jZ [0,3] rfl (by simp only [iD,kW,iC];(repeat' (first|exact rfl|exact True.intro|refine And.intro ?_ ?_))) rfl (by simp only [mD,sM];(repeat' (first|exact rfl|exact True.intro|refine And.intro ?_ ?_)))))
 ·have hke:k=ids.length:=by omega
  subst hke;rw [List.take_length] at hbk ⊢;have h1:decide ((ids.length:Int)<(ids.length:Int))=false:=decide_eq_false (by omega);clear hA hbd;generalize HK l ids=S at hbk hfin
  repeat' (first|simp only [*,go_sem,Nat.reduceLT,Nat.reduceEqDiff,↓reduceIte,Nat.reduceAdd,]|((with_reducible refine bW [] (hcl) ?_ ?_ ?_ ?_);exact rfl;exact rfl;(focus ((simp only [go_sem];done)))))
  refine aA.sub [0,1,2] (hfin (K:=fun d h'=>∃ es:List (List PV),es.take G.length=cZ G∧d=.c (.own 2 0 G.length)∧h'=[.box [.own 1 0 S.length],.arr 1 (cW S) false,.arr 4 es false]) fun es he=>⟨es,he,rfl,rfl⟩) rfl (by simp only [go_sem];done) ?_;rintro d h' - ⟨es,he,rfl,rfl⟩;simp only [go_sem]
  repeat' (simp only [*,go_sem,Nat.reduceLT,↓reduceIte,])
  exact .inr ⟨2,0,es,rfl,rfl,he⟩
end Go.Proofs.YtlbfnbldeefgmaaGreatDoor
end
section
namespace Go.Proofs.YtlbfnbldeefgmaaGreatDoor
open Go Go.Dm Go.Proofs
set_option maxRecDepth 100000
set_option maxHeartbeats 8000000
theorem WW {r:Rm} {s:List UInt8} (hr:OkR r):aA Tryz.prog 53 [.c (.ptr 0 0),.c (.p (.s s))] (cB r) fun d h=>d=.tup [.agg (wsP r s).1.cv,.c (.p (.i .i64 (wsP r s).2))]∧h=cB r:=by
 have hl:=zO (s:=s) hr;unfold wsP;generalize dJ r s=ye at hl ⊢;obtain ⟨⟨yi,yp,yq,yf⟩,e⟩:=ye;simp only at hl ⊢;cases he:(e == 0) <;> cases yf
 all_goals simp only [Bool.false_and,Bool.true_and,if_true,Bool.false_eq_true,if_false]
 all_goals
  refine ent aB aK Tryz.func53 rfl rfl fun X0 hX=>?_;simp only [Tryz.f53,go_sem]
  repeat' (first|simp only [*,go_sem,Nat.reduceLT,Nat.reduceLeDiff,Nat.reduceEqDiff,↓reduceIte,Nat.reduceAdd,]|((with_reducible refine bW [0,1,2,3] (hl) ?_ ?_ ?_ ?_);exact rfl;exact rfl;(focus ((simp only [go_sem];done)))))
 all_goals simp [ly0]
theorem zBm {h:aC} {i n:Nat} {l:List Ly} {a:Int} {K:DV→aC→Prop} (hl:l.length≤100000) (hn:n=l.length) (h0:h[i]? = some (.arr 4 (cZ l) false)) (hk:K (.c (.own h.length 0 (bQ l a).length)) (h++[.arr 1 (cW (bQ l a)) false])):
  aA Tryz.prog 116 [.c (.own i 0 n),.c (.p (.i .i64 a))] h K:=by
 refine zIE rfl (by rw [hn,← fZ,List.take_length]) (zIU hl) h0 (by simp [uX,nV,iZ,cW,sF]) ?_;simpa [DV.sh,CV.sh,DB.sh,eS] using hk
theorem zAv {r:Rm} {a:Int} (hr:OkR r):aA Tryz.prog 55 [.c (.ptr 0 0),.c (.p (.i .i64 a))] (cB r) fun d h=>d=.c (.p (.i .i64 (sZ r a)))∧h=cB r:=by
 have hl:=hr.ll;have hk:∀ {h:aC} {i:Nat} {K:DV→aC→Prop},h[i]? = some (.arr 4 (cZ r.L) false)→K (.c (.own h.length 0 (bQ r.L a).length)) (h++[.arr 1 (cW (bQ r.L a)) false])→aA Tryz.prog 116 [.c (.own i 0 r.L.length),.c (.p (.i .i64 a))] h K:=fun h0 hk=>zBm (by omega) rfl h0 hk;unfold sZ;generalize bQ r.L a=C at hk ⊢;cases hd:decide (12≤(C.length:Int))
 all_goals simp only [if_true,Bool.false_eq_true,if_false]
 all_goals
  refine ent aB aK Tryz.func55 rfl rfl fun X0 hX=>?_;simp only [Tryz.f55,go_sem]
  repeat' (simp only [*,go_sem,Nat.reduceLT,Nat.reduceEqDiff,↓reduceIte,Nat.reduceAdd,])
theorem SQ {r:Rm} {s:List UInt8} (hr:OkR r) (hs:s.length≤1000000000):aA Tryz.prog 54 [.c (.ptr 0 0),.c (.p (.s s))] (cB r) fun d h=>d=.c (.p (.i .i64 (rD r s)))∧h=cB r:=by
 have hf:=uA (r:=r) (s:=s) (by have:=hr.nl;omega) hr.srt;have hn:=pR hs;have hnl:=hr.nl;have hll:=hr.ll;unfold rD;generalize aW s=a at hn ⊢;generalize WB r.N s=b at hf ⊢;cases a
 ·simp only [Bool.not_false,if_true];refine ent aB aK Tryz.func54 rfl rfl fun X0 hX=>?_;simp only [Tryz.f54,go_sem]
  repeat' (first|simp only [*,go_sem,Nat.reduceLT,Nat.reduceEqDiff,↓reduceIte,Nat.reduceAdd,Bool.not_false]|((with_reducible refine bW [0,1,2,3] (hf) ?_ ?_ ?_ ?_);exact rfl;exact rfl;(focus ((simp only [go_sem];done))))|((with_reducible refine dM (hn) ?_ ?_ ?_);exact rfl;exact rfl))
 ·cases b
  ·simp only [Bool.not_true,Bool.false_eq_true,if_false];cases h1:decide (20≤(r.N.length:Int)) <;> cases h2:decide (40≤(r.L.length:Int)) <;> cases h3:decide (2147483647≤r.x)
   all_goals simp only [Bool.or_true,Bool.or_false,if_true,Bool.false_eq_true,if_false]
   all_goals
    refine ent aB aK Tryz.func54 rfl rfl fun X0 hX=>?_;simp only [Tryz.f54,go_sem]
    repeat' (first|simp only [*,go_sem,Nat.reduceLT,Nat.reduceEqDiff,↓reduceIte,Nat.reduceAdd,Bool.not_true]|((with_reducible refine bW [0,1,2,3] (hf) ?_ ?_ ?_ ?_);exact rfl;exact rfl;(focus ((simp only [go_sem];done))))|((with_reducible refine dM (hn) ?_ ?_ ?_);exact rfl;exact rfl))
  ·simp only [Bool.not_true,Bool.false_eq_true,if_false,if_true];refine ent aB aK Tryz.func54 rfl rfl fun X0 hX=>?_;simp only [Tryz.f54,go_sem]
   repeat' (first|simp only [*,go_sem,Nat.reduceLT,Nat.reduceEqDiff,↓reduceIte,Nat.reduceAdd,Bool.not_true]|((with_reducible refine bW [0,1,2,3] (hf) ?_ ?_ ?_ ?_);exact rfl;exact rfl;(focus ((simp only [go_sem];done))))|((with_reducible refine dM (hn) ?_ ?_ ?_);exact rfl;exact rfl))
theorem zAw {r:Rm} {a:Int} (hr:OkR r):aA Tryz.prog 98 [.c (.ptr 0 0),.c (.p (.i .i64 a))] (cB r) fun d h=>d=.tup [.c (.p (.sl 5 (aU (FB r a).1))),.c (.p (.b (FB r a).2))]∧h=cB r:=by
 have hl:=hr.ll;have hk:∀ {h:aC} {i:Nat} {K:DV→aC→Prop},h[i]? = some (.arr 4 (cZ r.L) false)→K (.c (.own h.length 0 (bQ r.L a).length)) (h++[.arr 1 (cW (bQ r.L a)) false])→aA Tryz.prog 116 [.c (.own i 0 r.L.length),.c (.p (.i .i64 a))] h K:=fun h0 hk=>zBm (by omega) rfl h0 hk;have hcl:=XY r.L a;have hfo:=PU (ls:=lR r a) (by unfold lR;rw [List.length_map];omega) (hr.layers a);rw [show FB r a=nD [] (lR r a) from rfl]
 generalize nD [] (lR r a)=T at hfo ⊢;obtain ⟨T1,T2⟩:=T;unfold lR at hfo;simp only at hfo ⊢;generalize bQ r.L a=C at hk hcl hfo ⊢;refine ent aB aK Tryz.func98 rfl rfl fun X0 hX=>?_;simp only [Tryz.f98,go_sem]
 repeat' (first|simp only [*,go_sem,Nat.reduceLT,Nat.reduceEqDiff,↓reduceIte,Nat.reduceAdd,]|refine hk rfl ?_)
 refine dS aB aK (α:=Nat) (fun k=>⟨34,[(0,.c (.ptr 0 0)),(14,.c (.own 4 0 C.length)),(15,.c (.p (.i .i64 C.length))),(16,.c (.p (.i .i64 k))),(6,.c (.own 5 0 k))],[.box [.own 1 0 r.N.length,.own 2 0 r.L.length,.mp 3,.p (.i .i64 r.x)],.arr 2 (bM r.N) false,.arr 4 (cZ r.L) false,.mp (oL r.E),.arr 1 (cW C) false,.arr 1 (xQ ((C.take k).map (jP r.E))) false]⟩)
  (fun k=>k≤C.length) (fun k=>C.length-k) 0 (Nat.zero_le _) ((rK 6 1 rfl).trans (cJ (aI (by rw [hX];rfl) rfl rfl (by simp only [aH,aL];(repeat' (first|exact rfl|exact True.intro|refine And.intro ?_ ?_)))))) ?_
 intro k hkl;by_cases hlt:k<C.length
 ·have hx:C[k]? = some C[k]:=List.getElem?_eq_getElem hlt;have hg:=tH hx;have h1:decide ((k:Int)<(C.length:Int))=true:=decide_eq_true (by omega);have h2:(k:Int)<(C.length:Int):=by omega
  have h3:(0:Int)≤k:=by omega
  have w1:IntKind.i64.wrap ((k:Int)+1)=k+1:=wrap_i64 (by omega) (by omega);have ht:(C.take (k+1)).map (jP r.E)=(C.take k).map (jP r.E)++[jP r.E C[k]]:=by rw [List.take_add_one,hx,List.map_append];rfl
  have htl:((C.take k).map (jP r.E)).length=k:=by rw [List.length_map,List.length_take];omega
  have ht:=PLift.up ht;have hLl:(xQ ((C.take k).map (jP r.E))).length=k:=by rw [VL,htl]
  generalize C[k]=c at hx hg ht;clear hx hk hfo
  repeat' (first|simp only [*,go_sem,Nat.reduceLT,Nat.reduceLeDiff,Nat.reduceEqDiff,↓reduceIte,Nat.reduceAdd,Nat.reduceBEq,]|((with_reducible refine And.intro ?_ ?_);((first|omega|decide))))
  exact qB (k+1) (by omega) (by omega) (by rw [ht.down];exact fP (jZ [0,1,2,3,4,7] rfl (by simp only [iD,kW,iC,rH];(repeat' (first|exact rfl|exact True.intro|refine And.intro ?_ ?_))) rfl (by simp only [mD,sM];(repeat' (first|exact rfl|exact True.intro|refine And.intro ?_ ?_)))))
 ·have hke:k=C.length:=by omega
  subst hke;rw [List.take_length];have h1:decide ((C.length:Int)<(C.length:Int))=false:=decide_eq_false (by omega);have htk:(C.map (jP r.E)).take C.length=C.map (jP r.E):=List.take_of_length_le (by rw [List.length_map];exact Nat.le_refl _)
  repeat' (first|simp only [*,go_sem,Nat.reduceLT,Nat.reduceEqDiff,↓reduceIte,Nat.reduceAdd,]|((with_reducible refine kM (hfo) ?_ ?_ ?_);exact rfl;exact fun _=>rfl)|((with_reducible apply aA.frz);exact rfl;exact rfl))
theorem nY {r:Rm} {a:Int} (hr:OkR r):aA Tryz.prog 43 [.c (.ptr 0 0),.c (.p (.i .i64 a))] (cB r) fun d h=>d=.c (.p (.sl 5 (aU (treeR r a))))∧h=cB r:=by
 have hf:=zAw (a:=a) hr;unfold treeR;generalize FB r a=T at hf ⊢;obtain ⟨T1,T2⟩:=T;simp only at hf ⊢;refine ent aB aK Tryz.func43 rfl rfl fun X0 hX=>?_;simp only [Tryz.f43,go_sem]
 repeat' (first|simp only [*,go_sem,Nat.reduceLT,Nat.reduceEqDiff,↓reduceIte,Nat.reduceAdd,]|((with_reducible refine bW [0,1,2,3] (hf) ?_ ?_ ?_ ?_);exact rfl;exact rfl;(focus ((simp only [go_sem];done)))))
end Go.Proofs.YtlbfnbldeefgmaaGreatDoor
end
section
namespace Go.Dm
open Go
theorem aA.frzB {P:Program} {f:FuncId} {h:aC} {x a a':DV} {K:DV→aC→Prop} (hne:(kF [a]).isEmpty=false) (hp:gK h [a]=some [a'])
  (hd:aA P f [x,a'] (tK h (kF [a])) K):aA P f [x,a] h K:=by
 intro X vals hh hi gd hr;obtain ⟨X',h1,h2,h3,h4,h5,h6⟩:=iR (kF [a]) hi;rw [← hh] at hp hd
 match vals,hr with
 | [v0,va],⟨hrp,hra,_⟩ =>
  have hr1:dC X' [a'] [va]:=kR (Y:=X') (ds:=[a]) hi h4 h1 rfl rfl (show dC X [a] [va] from ⟨hra,True.intro⟩) hp h6
  have hrq:bA X' x v0:=bA.step h4 hrp;have key:∀ v w',Ret X' K v w'→Ret X K v w':=fun v w' ⟨d,Y,k1,k2,k3,k4,k5⟩=>⟨d,Y,k1,k2,h4.trans h5 k3,k4,k5⟩;rw [← h1];rcases hd X' [v0,va] h2 h5 (gd.step h4) ⟨hrq,hr1.1,True.intro⟩ with ⟨h7,h8⟩|⟨v,w',h7,h8⟩
  ·exact .inl ⟨h7,h8.mono fun e w' ⟨v,he,hv⟩=>⟨v,he,key _ _ hv⟩⟩
  ·exact .inr ⟨v,w',h7,key _ _ h8⟩
def BB (r:Rm):aC:=[.box [.own 4 0 r.N.length,.own 5 0 r.L.length,.mp 6,.p (.i .i64 r.x)],.dead,.dead,.dead,.arr 2 (bM r.N) false,.arr 4 (cZ r.L) false,.mp (oL r.E)]
attribute [go_sem] BB
def uJ (T:Tab) (t:Fr) (h:aC) (R:DV→aC→Prop):List ResultVar→List EV→Prop
 | [],es=>R (ES es.reverse) h
 | .tmp i::rs,es =>
  match look t i with
  | .c x=>uJ T t h R rs (.c x::es)
  | .agg xs=>uJ T t h R rs (.agg xs::es)
  | _=>False
 | .cell a ty::rs,es=>(T ty).size≠0∧tC (T ty) h (look t a) fun d =>
  match d with
  | .c x=>uJ T t h R rs (.c x::es)
  | .agg xs=>uJ T t h R rs (.agg xs::es)
  | _=>False
def DT (T:Tab) (rs:List ResultVar) (R:DV→aC→Prop):Exit→DS→Prop
 | .normal,s=>uJ T s.t s.h R rs []
 | .ret,s=>uJ T s.t s.h R rs []
 | _,_=>False
theorem zHY {T:Tab} {rs:List ResultVar} {R:DV→aC→Prop} {s:DS}:DT T rs R .normal s=uJ T s.t s.h R rs []:=nr rfl
theorem zHZ {T:Tab} {rs:List ResultVar} {R:DV→aC→Prop} {s:DS}:DT T rs R .ret s=uJ T s.t s.h R rs []:=nr rfl
theorem fU {T:Tab} {s:DS} {R:DV→aC→Prop}:∀ (rs:List ResultVar) (es:List EV) {K:List EV→Prop},(∀ l,R (ES (es.reverse++l)) s.h→K l)→uJ T s.t s.h R rs es→lI T s rs K
 | [],es,K,hk,h=>hk [] (by simpa [uJ] using h)
 | .tmp i::rs,es,K,hk,h=>by
  simp only [uJ,lI] at h ⊢;generalize look s.t i=d at h ⊢;cases d <;> simp only at h ⊢
  ·exact fU rs _ (fun l hl=>hk _ (by simpa using hl)) h
  ·exact fU rs _ (fun l hl=>hk _ (by simpa using hl)) h
 | .cell a ty::rs,es,K,hk,h=>by
  simp only [uJ,lI] at h ⊢;refine ⟨h.1,BM (fun d hd=>?_) h.2⟩;cases d <;> simp only at hd ⊢
  ·exact fU rs _ (fun l hl=>hk _ (by simpa using hl)) hd
  ·exact fU rs _ (fun l hl=>hk _ (by simpa using hl)) hd
theorem zFe {P:Program} {T:Tab} (hT:bD P T) (hm:P.follows .mixedOrders=true) {f:FuncId} {fn:Func} {c:Code} {args:List DV} {h:aC} {R:DV→aC→Prop} (hf:P.funcs[f]? = some fn) (hb:fn.body=some c)
  (hc:(Nat.ble args.length fn.ntmps && !(fn.name == "runtime.NumGoroutine"))=true)
  (hs:∀ X0:Ctx,X0.h=h→vc P T X0 c ⟨fn.ntmps,iP 0 args,h⟩ (DT T fn.results.toList R)):aA P f args h R:=by
 simp only [Bool.and_eq_true,Bool.not_eq_true'] at hc;refine dW hT hf hb (Nat.le_of_ble_eq_true hc.1) hc.2 fun X0 hX=>?_;rw [eJ];refine eY (dG hT hm c (hs X0 hX)) fun e s hv=>?_;cases e <;> simp only [DT,dpost] at hv ⊢
 case normal=>exact fU _ [] (fun l hl=>.inl (by simpa using hl)) hv
 case ret=>exact fU _ [] (fun l hl=>.inl (by simpa using hl)) hv
attribute [go_sem] zHY zHZ uJ List.getElem?_nil
end Go.Dm
end
section
namespace Go.Proofs.YtlbfnbldeefgmaaGreatDoor
open Go Go.Dm Go.Proofs
set_option maxRecDepth 100000
set_option maxHeartbeats 8000000
theorem zMW {r:Rm} (hr:OkR r):aA Tryz.prog 147 [.c (.ptr 0 0)] (cB r) fun d h=>d=.c (.own 4 0 (mM r.N).length)∧h=cB r++[.arr 1 (cW (mM r.N)) false]:=by
 have hnl:=hr.nl;have hil:(mM r.N).length=r.N.length:=by simp [mM]
 rw [hil];refine VO aB aK Tryz.func147 rfl rfl fun X0 hX=>?_;simp only [Tryz.f147,go_sem]
 repeat' (first|exact ⟨⟩|refine sp ?_)
 refine dS aB aK (α:=Nat) (fun k=>⟨22,[(9,.c (.own 1 0 r.N.length)),(10,.c (.p (.i .i64 r.N.length))),(11,.c (.p (.i .i64 k))),(3,.c (.own 4 0 k))],[.box [.own 1 0 r.N.length,.own 2 0 r.L.length,.mp 3,.p (.i .i64 r.x)],.arr 2 (bM r.N) false,.arr 4 (cZ r.L) false,.mp (oL r.E),.arr 1 (cW (mM (r.N.take k))) false]⟩)
  (fun k=>k≤r.N.length) (fun k=>r.N.length-k) 0 (Nat.zero_le _) ((rK 3 1 rfl).trans (cJ (aI (by rw [hX];rfl) rfl rfl (by simp only [aH,aL];(repeat' (first|exact rfl|exact True.intro|refine And.intro ?_ ?_)))))) ?_
 intro k hkl;by_cases hlt:k<r.N.length
 ·have hx:r.N[k]? = some r.N[k]:=List.getElem?_eq_getElem hlt;have hg:=oM hx;have h1:decide ((k:Int)<(r.N.length:Int))=true:=decide_eq_true (by omega);have h2:(k:Int)<(r.N.length:Int):=by omega
  have h3:(0:Int)≤k:=by omega
  have w1:IntKind.i64.wrap ((k:Int)+1)=k+1:=wrap_i64 (by omega) (by omega);have ht:mM (r.N.take (k+1))=mM (r.N.take k)++[r.N[k].l]:=by unfold mM;rw [List.take_add_one,hx,List.map_append];rfl
  have htl:(mM (r.N.take k)).length=k:=by unfold mM;rw [List.length_map,List.length_take];omega
  generalize r.N[k]=x at hx hg ht;generalize mM (r.N.take k)=S at ht htl;have ht:=PLift.up ht;clear hx
  repeat' (first|exact ⟨⟩|refine sp ?_|((with_reducible refine And.intro ?_ ?_);((first|omega|decide))))
  exact qB (k+1) (by omega) (by omega) (by rw [ht.down];exact fP (jZ [0,1,2,3,7] rfl (by simp only [iD,kW,iC,rH];(repeat' (first|exact rfl|exact True.intro|refine And.intro ?_ ?_))) rfl (by simp only [mD,sM];(repeat' (first|exact rfl|exact True.intro|refine And.intro ?_ ?_)))))
 ·have hke:k=r.N.length:=by omega
  subst hke;rw [List.take_length];have h1:decide ((r.N.length:Int)<(r.N.length:Int))=false:=decide_eq_false (by omega)
  repeat' (first|exact ⟨⟩|refine sp ?_)
theorem zLA {h:aC} {i j n m:Nat} {l:List Ly} {ids:List Int} {K:DV→aC→Prop} (hl:l.length≤900) (hi:ids.length≤900) (hgr:OkG l) (hn:n=l.length) (hm:m=ids.length) (hij:i≠j) (h0:h[i]? = some (.arr 4 (cZ l) false)) (h1:h[j]? = some (.arr 1 (cW ids) false))
  (hk:K (.c (.own h.length 0 (iU l ids).length)) (h.set j (.arr 1 (cW ids) true)++[.arr 4 (cZ (iU l ids)) false])):aA Tryz.prog 146 [.c (.own i 0 n),.c (.own j 0 m)] h K:=by
 have hm2:(cW ids).take m=cW ids:=by rw [hm,← eS ids,List.take_length]
 refine aA.frzB (a':=.c (.p (.sl 1 (cW ids)))) rfl (by simp [gK,QM,QC,zAW,h1,hm2]) ?_;have hf:tK h (kF [.c (.own j 0 m)])=h.set j (.arr 1 (cW ids) true):=by simp [kF,zK9,zCZ,tK,zFf,h1]
 rw [hf];refine zIE rfl (by rw [hn,← fZ,List.take_length]) (zLz hl hi hgr) (by rw [List.getElem?_set_ne (Ne.symm hij)];exact h0) (by simp [uX,nV,iZ,cZ,sF,Ly.cs]) ?_;simpa [DV.sh,CV.sh,DB.sh,fZ] using hk
theorem zIV {r:Rm} (hr:OkR r) (hgr:OkG r.L):aA Tryz.prog 95 [.c (.ptr 0 0)] (cB r) fun d h=>d=.tup []∧h=BB (TX r):=by
 have hnl:=hr.nl;have hll:=hr.ll;have hil:(mM r.N).length=r.N.length:=by simp [mM]
 have hids:=zMW hr;have hik:∀ {K:DV→aC→Prop},K (.c (.own 4 0 r.N.length)) (cB r++[.arr 1 (cW (mM r.N)) false])→aA Tryz.prog 147 [.c (.ptr 0 0)] (cB r) K:=fun hk=>aA.mono hids (by rintro d h' ⟨rfl,rfl⟩;rw [hil];exact hk);unfold cB at hik;have hkk:∀ {h:aC} {K:DV→aC→Prop},h[2]? = some (.arr 4 (cZ r.L) false)→h[4]? = some (.arr 1 (cW (mM r.N)) false)→K (.c (.own h.length 0 (iU r.L (mM r.N)).length)) (h.set 4 (.arr 1 (cW (mM r.N)) true)++[.arr 4 (cZ (iU r.L (mM r.N))) false])→aA Tryz.prog 146 [.c (.own 2 0 r.L.length),.c (.own 4 0 r.N.length)] h K:=fun h0 h1 hk=>zLA hll (by omega) hgr rfl hil.symm (by decide) h0 h1 hk
 unfold TX BK;have hGl:(iU r.L (mM r.N)).length≤900:=Nat.le_trans (List.length_filter_le ..) hll;generalize iU r.L (mM r.N)=G at hkk hGl ⊢;generalize mM r.N=I at hik hkk;refine aA.perm [0,2,3,4,1,5,6] (d1:=.tup []) (h1:=[.box [.own 1 0 r.N.length,.own 5 0 G.length,.mp 6,.p (.i .i64 r.x)],.arr 2 (bM r.N) false,.arr 4 (cZ r.L) false,.mp (oL r.E),.arr 1 (cW I) true,.arr 4 (cZ G) false,.mp (oL (G.foldl (fun k l=>pZ k l.i (jP r.E l.i)) []))]) ?_ rfl rfl (by unfold BB;exact (by simp only [iD,tL,kW,iC,rH];(repeat' (first|exact rfl|exact True.intro|refine And.intro ?_ ?_))));clear hids;refine zFe aB aK Tryz.func95 rfl rfl fun X0 hX=>?_;simp only [Tryz.f95,go_sem]
 repeat' (first|exact ⟨⟩|refine sp ?_|((refine aN (id:=0) aB aK [6,7,10] [5,6,1,2,3,4,7,0,8,9,10] (by decide +kernel) ?_);(repeat' (first|(refine aT ?_)|((refine cV ?_ ?_ rfl rfl rfl ?_ ?_);(rotate_left 2);(focus ((repeat' (first|exact ⟨⟩|refine sp ?_|refine hik ?_|refine hkk rfl rfl ?_));((refine And.intro ?_ ?_ <;> exact rfl))));(simp only [aG,bI]))|((refine cU ?_ rfl rfl rfl ?_ ?_);(rotate_left 1);(focus ((repeat' (first|exact bG|refine aZ ?_ ?_));(all_goals ((repeat' (first|exact ⟨⟩|refine sp ?_));(try (exact rfl))))));(simp only [aG]))))))
 clear hik hkk;refine dS aB aK (α:=Nat) (fun k=>⟨40,[(0,.c (.ptr 0 0)),(2,.c (.mp 6)),(19,.c (.own 5 0 G.length)),(20,.c (.p (.i .i64 G.length))),(21,.c (.p (.i .i64 k)))],[.box [.own 1 0 r.N.length,.own 5 0 G.length,.mp 3,.p (.i .i64 r.x)],.arr 2 (bM r.N) false,.arr 4 (cZ r.L) false,.mp (oL r.E),.arr 1 (cW I) true,.arr 4 (cZ G) false,.mp (oL ((G.take k).foldl (fun k l=>pZ k l.i (jP r.E l.i)) []))]⟩)
  (fun k=>k≤G.length) (fun k=>G.length-k) 0 (Nat.zero_le _) (cJ (aI (by rw [hX];rfl) rfl rfl (by simp only [aH,aL];(repeat' (first|exact rfl|exact True.intro|refine And.intro ?_ ?_))))) ?_
 intro k hkl;by_cases hlt:k<G.length
 ·have hx:G[k]? = some G[k]:=List.getElem?_eq_getElem hlt;have hg:=lK hx;have h1:decide ((k:Int)<(G.length:Int))=true:=decide_eq_true (by omega);have h2:(k:Int)<(G.length:Int):=by omega
  have h3:(0:Int)≤k:=by omega
  have w1:IntKind.i64.wrap ((k:Int)+1)=k+1:=wrap_i64 (by omega) (by omega);have ht:(G.take (k+1)).foldl (fun k l=>pZ k l.i (jP r.E l.i)) []=pZ ((G.take k).foldl (fun k l=>pZ k l.i (jP r.E l.i)) []) G[k].i (jP r.E G[k].i):=by rw [List.take_add_one,hx,List.foldl_append];rfl
  generalize G[k]=x at hx hg ht;generalize (G.take k).foldl (fun k l=>pZ k l.i (jP r.E l.i)) []=M at ht;have ht:=PLift.up ht;clear hx
  repeat' (first|exact ⟨⟩|refine sp ?_|((refine aN (id:=5) aB aK [10] [0,1,2,3,4,5,6,7,8,9,10] (by decide +kernel) ?_);(repeat' (first|(refine aT ?_)|((refine cV ?_ ?_ rfl rfl rfl ?_ ?_);(rotate_left 2);(focus ((repeat' (first|exact ⟨⟩|refine sp ?_));((refine And.intro ?_ ?_ <;> exact rfl))));(simp only [bI]))|((refine cU ?_ rfl rfl rfl ?_ ?_);(rotate_left 1);(focus ((repeat' (first|exact bG|refine aZ ?_ ?_));(all_goals ((repeat' (first|exact ⟨⟩|refine sp ?_));(try (exact rfl))))));(simp only [aG]))))))
  exact qB (k+1) (by omega) (by omega) (by rw [ht.down];exact cJ (aI rfl rfl rfl (by simp only [aH,aL];(repeat' (first|exact rfl|exact True.intro|refine And.intro ?_ ?_)))))
 ·have hke:k=G.length:=by omega
  subst hke;rw [List.take_length];have h1:decide ((G.length:Int)<(G.length:Int))=false:=decide_eq_false (by omega)
  repeat' (first|exact ⟨⟩|refine sp ?_)
end Go.Proofs.YtlbfnbldeefgmaaGreatDoor
end
section
namespace Go.Proofs.YtlbfnbldeefgmaaGreatDoor
open Go Go.Dm Go.Shelf
set_option maxRecDepth 100000
set_option maxHeartbeats 4000000
def RB:Go.Shelf.Ren:=⟨fun | 22=>117 | 29=>198 | 30=>199|n=>n,fun | 24=>49 | 9=>73 | 3=>3 | 4=>4 | 0=>0|n=>n,fun|n=>n⟩
theorem zJD:InsL Tryz.prog RB:={
 mixed:=by kernel_rfl
 f22:=⟨Tryz.f117.name,by decide,Tryz.func117.trans (congrArg some (by kernel_rfl))⟩
 ov:=fun xs w w' v h=>by
  have:=run_callFunc_extern Tryz.func198 (by kernel_rfl) (by kernel_rfl) (by kernel_rfl) (e:=Extern.SlicesOverlaps.overlaps #[49,49] #[4]) (by kernel_rfl) xs w;refine this.trans ?_;rw [show (Extern.SlicesOverlaps.overlaps #[49,49] #[4] xs).run Tryz.prog w=.ok v w' from h]
  rfl
 t0:=Tryz.underlying0
 a0:=Tryz.isAgg0
 z0:=Tryz.sizeOf0
 v0:=Tryz.zeroValue0
 t3:=Tryz.underlying3
 a3:=Tryz.isAgg3
 z3:=Tryz.sizeOf3
 v3:=Tryz.zeroValue3
 t4:=Tryz.underlying4
 a4:=Tryz.isAgg4
 z4:=Tryz.sizeOf4
 v4:=Tryz.zeroValue4
 t24:=Tryz.underlying49
 a24:=Tryz.isAgg49
 z24:=Tryz.sizeOf49
 v24:=Tryz.zeroValue49 }
theorem zJE {h:aC} {id jd n i:Nat} {es:List (List PV)} {x:List PV} (hid:h[id]? = some (.arr 2 es false)) (hjd:h[jd]? = some (.arr 2 [x] false)) (hne:id≠jd) (hn:n≤es.length) (hin:i≤n) (hn2:n≤1000000):
  aA Tryz.prog 117 [.c (.own id 0 n),.c (.p (.i .i64 i)),.c (.own jd 0 1)] h fun d h'=>d=.c (.own (h.length+1) 0 (n+1))∧h'=h.set id .dead++[.dead,.arr 2 (fA i x (es.take n)) false] :=
 qW (k:=2) aB zJD (enters Tryz.func117 rfl rfl) (by show (tab 73).size=2;rw [tab73]) (by decide) (by show (tab 49).k=_;rw [tab49];rfl)
  hid hjd hne hn hin (by show (n+1)*(tab 73).bytes≤_;rw [tab73];simp only;omega) (by omega)
end Go.Proofs.YtlbfnbldeefgmaaGreatDoor
end
