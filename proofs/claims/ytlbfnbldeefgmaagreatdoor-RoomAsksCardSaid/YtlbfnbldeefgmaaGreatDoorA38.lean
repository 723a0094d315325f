/- Part 39 of the proof of roomAsks_card, set without needless blanks. No condition. -/
import Derived.Test.YtlbfnbldeefgmaaGreatDoorA37
set_option linter.all false
section
namespace Go.Proofs.YtlbfnbldeefgmaaGreatDoor
open Go Go.Dm Go.Proofs
set_option maxRecDepth 100000
set_option maxHeartbeats 8000000
def PH (a b:List UInt8) (t:List It) (k:Nat):List It:=(t.take k).map (qI a b)++t.drop k
theorem zGY (a b:List UInt8) (t:List It) (k:Nat):(PH a b t k).length=t.length:=by
 simp only [PH,List.length_append,List.length_map,List.length_take,List.length_drop];omega
theorem zDx {a b:List UInt8} {t:List It} {k:Nat} {x:It} (hx:t[k]? = some x):(PH a b t k)[k]? = some x:=by
 have hk:=(List.getElem?_eq_some_iff.1 hx).1;have hl:((t.take k).map (qI a b)).length=k:=by rw [List.length_map,List.length_take];omega
 unfold PH;rw [List.getElem?_append_right (by omega),hl,Nat.sub_self,List.getElem?_drop,Nat.add_zero];exact hx
theorem zGZ {a b:List UInt8} {t:List It} {k:Nat} {x:It} (hx:t[k]? = some x):(PH a b t k).set k (qI a b x)=PH a b t (k+1):=by
 have hk:=(List.getElem?_eq_some_iff.1 hx).1;have hl:((t.take k).map (qI a b)).length=k:=by rw [List.length_map,List.length_take];omega
 unfold PH;rw [List.set_append_right _ _ (by omega),hl,Nat.sub_self,drop_at hx,List.set_cons_zero,List.take_add_one,hx,List.map_append];simp
theorem zEv {l:List (List PV)} {k:Nat} {e:List PV} (h:k<l.length):(l.set k e).getD k []=e:=by
 rw [List.getD_eq_getElem?_getD,List.getElem?_set_self h];rfl
theorem zLK {t:List It} {a b:List UInt8} (h:OkT t) (ha:a.length≤1000000000) (hb:b.length≤1000000000):
  aA Tryz.prog 246 [.c (.p (.sl 5 (aU t))),.c (.p (.s a)),.c (.p (.s b))] [] fun r h =>
   r=.tup [.c (.p (.sl 5 (aU (nN t a b).1))),.c (.p (.i .i64 (nN t a b).2))]∧h=[]:=by
 have htl:=h.len;have hdl:∀ x∈t,x.n.d.length≤140737488355328:=fun x hx=>Nat.le_trans (h.dlen x hx) (by decide);have hmay:=zDv (t:=t) (a:=a) (b:=b) (by omega) h.srt ha hb;refine bK ?_;by_cases h0:zGW t a b=0
 ·have hpre:a≠[]∧b≠[]∧bT b=true∧(aQ t b).isSome=false∧nN t a b=eW a b (bU t a) t:=by
   unfold zGW at h0;unfold nN;split at h0
   ·cases h0
   ·rename_i h1;rw [if_neg h1];split at h0
    ·cases h0
    ·rename_i h2;rw [if_neg h2];split at h0
     ·cases h0
     ·rename_i h3;rw [if_neg h3];split at h0
      ·cases h0
      ·rename_i h4;rw [if_neg h4];split at h0
       ·cases h0
       ·rename_i h5;rw [if_neg h5];simp only [Bool.or_eq_true,not_or,beq_iff_eq,Bool.not_eq_true',Bool.not_eq_false] at h1;exact ⟨h1.1.1.1,h1.1.1.2,h1.2,by simpa using h4,rfl⟩
  obtain ⟨p1,p2,p3,p4,p5⟩:=hpre;rw [p5,zJS h p1 p2 p3 p4];have hnd:=yP h p1 p2 p4;rw [h0] at hmay;have hpl:=h.plen;have hle0:t.length≤(aU t).length:=Nat.le_of_eq (cS t).symm;clear p5 p2 p3 p4 h0;have hR:∃ R,(if (HP t a b).all eD then (fH (HP t a b),0) else (([],12):List It × Int))=R:=⟨_,rfl⟩
  obtain ⟨R,hR⟩:=hR;rw [hR];have hRP:=PLift.up hR;clear hR;refine ent aB aK Tryz.func246 rfl rfl fun X0 hX=>?_;simp only [Tryz.f246,go_sem]
  repeat' (first|exact ⟨⟩|refine sp ?_|refine uF (hmay) ?_|refine xB (by omega) hdl ?_)
  refine aY aB aK (α:=Nat) (fun k=>⟨60,[(1,.c (.p (.s a))),(2,.c (.p (.s b))),(9,.c (.own 0 0 t.length)),(21,.c (.own 0 0 t.length)),(22,.c (.p (.i .i64 t.length))),(23,.c (.p (.i .i64 k)))],[.arr 5 (aU (PH a b t k)) false]⟩)
   (fun k=>k≤t.length∧((t.take k).map (qI a b)).all eD=true) (fun k=>t.length-k) 0 ⟨Nat.zero_le _,rfl⟩ (.inl (aI (by rw [hX];rfl) rfl rfl (by simp [aH,aL,aD,aJ,aF,]))) ?_
  rintro k ⟨hk,hs⟩;by_cases hlt:k<t.length
  ·have hx:t[k]? = some t[k]:=List.getElem?_eq_getElem hlt;have hg:=cQ (zDx (a:=a) (b:=b) hx);have hst:=zGZ (a:=a) (b:=b) hx;have hml:=zGY a b t k;have h1:decide ((k:Int)<(t.length:Int))=true:=decide_eq_true (by omega);have w1:IntKind.i64.wrap ((k:Int)+1)=k+1:=wrap_i64 (by omega) (by omega);have hxl:=hpl _ (List.getElem_mem hlt);have hnx:((t.take (k+1)).map (qI a b)).all eD=eD (qI a b t[k]):=by
    rw [List.take_add_one,hx,List.map_append,List.all_append,hs,Bool.true_and];simp
   have hbad:eD (qI a b t[k])=false→(HP t a b).all eD=false:=fun hb=>by
    rw [Bool.eq_false_iff];intro h2;have:=List.all_eq_true.1 h2 _ (List.mem_map_of_mem (f:=qI a b) (List.getElem_mem hlt));rw [hb] at this;cases this
   generalize t[k]=x at hx hg hst hxl hnx hbad;cases q1:(x.p == a) <;> cases q2:aP a x.p
   case false.false =>
    have hmi:qI a b x=x:=by unfold qI mvd;rw [q1,q2];rfl
    have hsx:eD x=true:=by
     simp only [eD,Bool.not_eq_true',decide_eq_false_iff_not];omega
    have hx120:decide ((120:Int)<(x.p.length:Int))=false:=by simpa [eD] using hsx
    rw [hmi] at hst hnx;have hst2:PH a b t k=PH a b t (k+1):=by
     rw [← hst];exact (List.ext_getElem? fun j=>by
      rw [List.getElem?_set];split
      ·rename_i e;subst e;rw [zDx hx];split
       ·rfl
       ·rename_i hh;rw [hml] at hh;exact absurd hlt hh
      ·rfl)
    have hJ:k+1≤t.length∧((t.take (k+1)).map (qI a b)).all eD=true:=⟨by omega,by rw [hnx];exact hsx⟩
    have hS:=PLift.up hst2;have hlr:k<(PH a b t k).length:=by omega
    clear hbad hmi hst hnx hx hst2 hml
    repeat' (first|exact ⟨⟩|refine sp ?_|refine uF (cK ha) ?_|((with_reducible refine And.intro ?_ ?_);omega))
    exact fD (k+1) hJ (by omega) (aI rfl (by rw [hS.down];rfl) rfl (by simp [aH,aL,aD,aJ,aF,]))
   all_goals
    have hmi:qI a b x=⟨b++x.p.drop a.length,x.n⟩:=by unfold qI mvd;rw [q1,q2];rfl
    rw [hmi] at hst hnx hbad;have hla:a.length≤x.p.length:=by
     first|(rw [eq_of_beq q1];exact Nat.le_refl _)|exact dO q2
    cases q3:eD ⟨b++x.p.drop a.length,x.n⟩
   all_goals have hlr:k<(PH a b t k).length:=by omega
   all_goals have hse:=rA (PH a b t k) k ⟨b++x.p.drop a.length,x.n⟩
   all_goals simp only at hse
   all_goals rw [hst] at hse
   all_goals have hS:=PLift.up hse
   all_goals have hlr2:k<(aU (PH a b t k)).length:=by rw [cS];exact hlr
   all_goals have hdp:b.length+(x.p.drop a.length).length≤9223372036854775807:=by rw [List.length_drop];omega
   all_goals have hki:(k:Int)<(t.length:Int):=by omega
   all_goals have hk0:(0:Int)≤(k:Int):=by omega
   all_goals have hq:decide ((120:Int)<((b.length+(x.p.drop a.length).length:Nat):Int)) = !(eD ⟨b++x.p.drop a.length,x.n⟩):=by unfold eD;rw [Bool.not_not,List.length_append]
   all_goals rw [q3] at hq hnx
   all_goals simp only [Bool.not_true,Bool.not_false] at hq
   case' false.true.false|true.false.false|true.true.false =>
    obtain rfl:(([],12):List It × Int)=R:=by rw [← hRP.down,hbad q3];rfl
    clear hbad hmi hst hnx hx hml hse
    repeat' (first|simp only [*,go_sem,Nat.reduceLT,Nat.reduceLeDiff,Nat.reduceEqDiff,↓reduceIte,Nat.reduceAdd,zEv hlr2,List.length_set,List.length_append]|refine uF (cK ha) ?_|((with_reducible refine And.intro ?_ ?_);omega))
   case' false.true.true|true.false.true|true.true.true =>
    have hJ:k+1≤t.length∧((t.take (k+1)).map (qI a b)).all eD=true:=⟨by omega,hnx⟩
    clear hbad hmi hst hnx hx hml hse
    repeat' (first|simp only [*,go_sem,Nat.reduceLT,Nat.reduceLeDiff,Nat.reduceEqDiff,↓reduceIte,Nat.reduceAdd,zEv hlr2,List.length_set,List.length_append]|refine uF (cK ha) ?_|((with_reducible refine And.intro ?_ ?_);omega))
   all_goals first|exact .inr ⟨_,rfl⟩|exact fD (k+1) hJ (by omega) (aI rfl (by rw [← hS.down];rfl) rfl (by simp [aH,aL,aD,aJ,aF,]))
  ·have h1:decide ((k:Int)<(t.length:Int))=false:=decide_eq_false (by omega);have hk2:k=t.length:=by omega
   subst hk2;have hmt:PH a b t t.length=HP t a b:=by
    unfold PH HP;rw [List.take_length,List.drop_length,List.append_nil]
   rw [List.take_length] at hs;obtain rfl:(fH (HP t a b),(0:Int))=R:=by
    rw [← hRP.down];have:(HP t a b).all eD=true:=hs;rw [this];rfl
   rw [hmt];have hml:(HP t a b).length=t.length:=List.length_map _;have hu:=nF hnd;rw [← hml];have hsl:(HP t a b).length<4611686018427387904:=by omega
   have hml2:=zY (HP t a b);clear hRP hs hnd hpl hmt hlt hml;clear h1;generalize HP t a b=q at hu hsl hml2 ⊢;have h1:decide ((q.length:Int)<(q.length:Int))=false:=decide_eq_false (by omega)
   repeat' (first|simp only [*,go_sem,Nat.reduceLT,Nat.reduceEqDiff,↓reduceIte,List.set_cons_zero]|refine zKg (id:=0) (l:=q) hu hsl rfl ?_)
   all_goals rw [List.take_of_length_le (by rw [hml2];exact Nat.le_refl _)]
 ·have hne:(zGW t a b == 0)=false:=by simpa using h0
  have hme:nN t a b=([],zGW t a b):=by
   unfold zGW at h0 ⊢;unfold nN;split
   ·rfl
   ·rename_i h1;rw [if_neg h1] at h0;split
    ·rfl
    ·rename_i h2;rw [if_neg h2] at h0;split
     ·rfl
     ·rename_i h3;rw [if_neg h3] at h0;split
      ·rfl
      ·rename_i h4;rw [if_neg h4] at h0;split
       ·rfl
       ·rename_i h5;rw [if_neg h5] at h0;exact absurd rfl h0
  rw [hme];have hne2:(zGW t a b != 0)=true:=by rw [bne,hne];rfl
  generalize zGW t a b=e at *;clear hme;refine ent aB aK Tryz.func246 rfl rfl fun X0 hX=>?_;simp only [Tryz.f246,go_sem]
  repeat' (first|exact ⟨⟩|refine sp ?_|refine uF (hmay) ?_)
  all_goals exact .inr ⟨_,rfl⟩
end Go.Proofs.YtlbfnbldeefgmaaGreatDoor
end
section
namespace Go.Proofs.YtlbfnbldeefgmaaGreatDoor
open Go Go.Dm Go.Proofs
set_option maxRecDepth 100000
set_option maxHeartbeats 8000000
abbrev plc (t:List It) (p:List UInt8) (is:Bool) (k m:Int) (tt:Nat) (d:List UInt8):List CV:=[.p (.sl 5 (aU t)),.p (.s p),.p (.b is),.p (.i .i64 k),.p (.i .i64 m),.p (.f tt),.p (.sl 1 (bO d))]
abbrev clc (k:Int) (p q:List UInt8) (m:Int) (tt:Nat) (a n:Int) (d:List UInt8):List CV:=[.p (.i .i64 k),.p (.s p),.p (.s q),.p (.i .i64 m),.p (.f tt),.p (.i .i64 a),.p (.i .i64 n),.p (.sl 1 (bO d))]
abbrev anc (e:Int) (k m:Int) (tt:Nat) (d b:List UInt8) (l:List (List UInt8)):List CV:=[.p (.i .i64 e),.p (.i .i64 k),.p (.i .i64 m),.p (.f tt),.p (.sl 1 (bO d)),.p (.sl 1 (bO b)),.p (.sl 1 (Go.Dm.encS l))]
theorem PN {k:Int}:aA Tryz.prog 33 [.c (.p (.i .i64 k))] [] fun r h=>r=.c (.p (.b (fI k)))∧h=[]:=by
 unfold fI;refine ent aB aK Tryz.func33 rfl rfl fun X0 hX=>?_;simp only [Tryz.f33,go_sem]
 repeat' (first|simp only [*,go_sem,Nat.reduceLT,Nat.reduceEqDiff,↓reduceIte,]|with_reducible refine bF (fun _=>?_) (fun _=>?_))
 all_goals first|(simp_all;done)|(simp_all;rfl)
theorem zCS {k:Int}:aA Tryz.prog 101 [.c (.p (.i .i64 k))] [] fun r h=>r=.c (.p (.b (fW k)))∧h=[]:=by
 unfold fW;refine ent aB aK Tryz.func101 rfl rfl fun X0 hX=>?_;simp only [Tryz.f101,go_sem]
 repeat' (first|simp only [*,go_sem,Nat.reduceLT,Nat.reduceEqDiff,↓reduceIte,]|with_reducible refine aO (fun _=>?_) (fun _=>?_))
 all_goals simp_all
theorem eL {m:Int}:aA Tryz.prog 240 [.c (.p (.i .i64 m))] [] fun r h=>r=.c (.p (.b (jC m)))∧h=[]:=by
 unfold jC;refine ent aB aK Tryz.func240 rfl rfl fun X0 hX=>?_;simp only [Tryz.f240,go_sem]
 repeat' (first|simp only [*,go_sem,Nat.reduceLT,Nat.reduceEqDiff,↓reduceIte,]|with_reducible refine bF (fun _=>?_) (fun _=>?_))
 all_goals simp_all
section places
variable {t:List It} {p:List UInt8} {is:Bool} {k m:Int} {tt:Nat} {d:List UInt8}
theorem jF:aA Tryz.prog 243 [.agg (plc t p is k m tt d)] [] fun r h=>r=.c (.p (.b (p == [])))∧h=[]:=by
 refine ent aB aK Tryz.func243 rfl rfl fun X0 hX=>?_;simp only [Tryz.f243,go_sem]
 repeat' (simp only [*,go_sem,Nat.reduceLT,Nat.reduceEqDiff,↓reduceIte,])
theorem dH:aA Tryz.prog 178 [.agg (plc t p is k m tt d)] [] fun r h=>r=.c (.p (.b (is && k == 2)))∧h=[]:=by
 refine ent aB aK Tryz.func178 rfl rfl fun X0 hX=>?_;simp only [Tryz.f178,go_sem]
 repeat' (first|simp only [*,go_sem,Nat.reduceLT,Nat.reduceEqDiff,↓reduceIte,]|with_reducible refine bF (fun _=>?_) (fun _=>?_))
 all_goals simp_all
theorem gO {k' m':Int} {tt':Nat} {d':List UInt8} (h:OkT t) (hp:p.length≤1000000000) (hd:d'.length≤140737488355328) (ht:tt'<18446744073709551616):
  aA Tryz.prog 242 [.agg (plc t p is k m tt d),.agg (ndc k' m' tt' d')] [] fun r h=>r=.tup [.c (.p (.sl 5 (aU (lV t p ⟨k',m',tt',d'⟩).1))),.c (.p (.i .i64 (lV t p ⟨k',m',tt',d'⟩).2))]∧h=[]:=by
 have hput:=zM8 (p:=p) (k:=k') (m:=m') (d:=d') h hp hd ht;refine ent aB aK Tryz.func242 rfl rfl fun X0 hX=>?_;simp only [Tryz.f242,go_sem]
 repeat' (first|simp only [*,go_sem,Nat.reduceLT,Nat.reduceLeDiff,Nat.reduceEqDiff,↓reduceIte,Nat.reduceAdd,]|((with_reducible refine kM (hput) ?_ ?_ ?_);exact rfl;exact fun _=>rfl))
theorem zIg:aA Tryz.prog 184 [.agg (plc t p is k m tt d)] [] fun r h=>r=.c (.p (.i .i64 (pL is ⟨k,m,tt,d⟩)))∧h=[]:=by
 unfold pL VE;cases is
 ·
  refine ent aB aK Tryz.func184 rfl rfl fun X0 hX=>?_;simp only [Tryz.f184,go_sem]
  repeat' (simp only [*,go_sem,Nat.reduceLT,Nat.reduceEqDiff,↓reduceIte,Bool.not_false])
  all_goals rfl
 ·cases hk:(k == 2)
  ·
   refine ent aB aK Tryz.func184 rfl rfl fun X0 hX=>?_;simp only [Tryz.f184,go_sem]
   repeat' (first|simp only [*,go_sem,Nat.reduceLT,Nat.reduceLeDiff,Nat.reduceEqDiff,↓reduceIte,Nat.reduceAdd,Bool.not_true]|((with_reducible refine dM (dH) ?_ ?_ ?_);exact rfl;exact rfl))
  ·
   refine ent aB aK Tryz.func184 rfl rfl fun X0 hX=>?_;simp only [Tryz.f184,go_sem]
   repeat' (first|simp only [*,go_sem,Nat.reduceLT,Nat.reduceLeDiff,Nat.reduceEqDiff,↓reduceIte,Nat.reduceAdd,Bool.not_true]|((with_reducible refine dM (dH) ?_ ?_ ?_);exact rfl;exact rfl))
theorem zND (h:OkT t) (hp:p.length≤1000000000):aA Tryz.prog 102 [.c (.p (.sl 5 (aU t))),.c (.p (.s p)),.c (.p (.b is))] [] fun r h=>r=.agg (plc t p is (nodeAt t p).k (nodeAt t p).m (nodeAt t p).t (nodeAt t p).d)∧h=[]:=by
 have htl:=h.len;have hget:=jL (t:=t) (p:=p) (by omega) h.srt h.ne fun x hx=>Nat.le_trans (h.dlen x hx) (by decide);refine bK ?_;unfold nodeAt;generalize (aQ t p).getD nd0=n at hget ⊢;generalize (aQ t p).isSome=b at hget;obtain ⟨k,m,tt,d⟩:=n;cases hpz:(p == [])
 ·
  refine ent aB aK Tryz.func102 rfl rfl fun X0 hX=>?_;simp only [Tryz.f102,go_sem]
  repeat' (first|simp only [*,go_sem,Nat.reduceLT,Nat.reduceLeDiff,Nat.reduceEqDiff,↓reduceIte,Nat.reduceAdd,]|((with_reducible refine kM (hget) ?_ ?_ ?_);exact rfl;exact fun _=>rfl))
 ·
  refine ent aB aK Tryz.func102 rfl rfl fun X0 hX=>?_;simp only [Tryz.f102,go_sem]
  repeat' (first|simp only [*,go_sem,Nat.reduceLT,Nat.reduceLeDiff,Nat.reduceEqDiff,↓reduceIte,Nat.reduceAdd,]|((with_reducible refine kM (hget) ?_ ?_ ?_);exact rfl;exact fun _=>rfl))
  all_goals exact .inr ⟨_,rfl⟩
end places
end Go.Proofs.YtlbfnbldeefgmaaGreatDoor
end
section
namespace Go.Proofs.YtlbfnbldeefgmaaGreatDoor
open Go Go.Dm Go.Proofs
set_option maxRecDepth 100000
set_option maxHeartbeats 8000000
theorem YD {a b:List UInt8} (ha:a.length≤100000) (hb:b.length≤100000):
  aA Tryz.prog 247 [.c (.p (.sl 1 [[.sl 1 (bO a)],[.sl 1 (bO b)]]))] [] fun r h=>r=.c (.own 0 0 (a.length+b.length))∧h=[.arr 1 (bO (a++b)) false]:=by
 have w1:IntKind.i64.wrap ((a.length:Int))=a.length:=wrap_i64 (by omega) (by omega);have w2:IntKind.i64.wrap ((a.length:Int)+b.length)=((a.length+b.length:Nat):Int):=by rw [wrap_i64 (by omega) (by omega)];omega
 have h1:decide ((a.length:Int)<0)=false:=decide_eq_false (by omega);have h2:decide (((a.length+b.length:Nat):Int)<0)=false:=decide_eq_false (by omega);refine zNG aB aK Tryz.func247 rfl rfl fun X0 hX=>?_;simp only [Tryz.f247,go_sem]
 repeat' (first|simp only [*,go_sem,Nat.reduceLT,Nat.reduceLeDiff,Nat.reduceEqDiff,↓reduceIte,Nat.reduceAdd,Int.reduceLT,Int.reduceLE,Int.reduceAdd,Int.reduceNeg,Int.reduceToNat,Int.zero_add]|refine fL aB aK 3 ?_|refine ZE (n:=a.length+b.length) (by omega) ?_|((with_reducible refine And.intro ?_ ?_);omega))
 all_goals exact ⟨rfl,Nat.zero_le _,rfl,_,_,rfl,rfl,rfl⟩
section places
variable {t:List It} {p:List UInt8} {is:Bool} {k m:Int} {tt:Nat} {d:List UInt8}
theorem zLH {kind ck:Int} {cp cq:List UInt8} {cm:Int} {ct:Nat} {ca cn:Int} {cd:List UInt8} (h:OkT t) (hp:p.length≤1000000000) (hd:cd.length≤140737488355328) (ht:ct<18446744073709551616) (hkind:kind=1∨kind=2∨kind=3):
  aA Tryz.prog 180 [.agg (plc t p is k m tt d),.c (.p (.i .i64 kind)),.agg (clc ck cp cq cm ct ca cn cd)] [] fun r h =>
   r=.tup [.c (.p (.sl 5 (aU (vN t p is kind ⟨ck,cp,cq,cm,ct,ca,cn,cd⟩).1))),.c (.p (.i .i64 (vN t p is kind ⟨ck,cp,cq,cm,ct,ca,cn,cd⟩).2))]∧h=[]:=by
 refine bK ?_;have hb:=oF ht;have hz:decide (0≤Lib.indexByte cd (Nat.toUInt8 0)) = !(cd.all fun b=>!(b == 0)):=by
  have:=indexByte_none 0 cd;rw [← this,← decide_not];exact decide_eq_decide.2 (by rw [Int.not_lt];exact Iff.rfl)
 unfold vN zJT;rcases hkind with rfl|rfl|rfl
 ·have hput:=gO (is:=is) (k:=k) (m:=m) (tt:=tt) (d:=d) (k':=1) (m':=cm) (tt':=cY ct) (d':=cd) h hp hd hb;generalize hP:lV t p ⟨1,cm,cY ct,cd⟩=P at hput;have e:lV t p ⟨1,if ((1:Int) == 3)=true then 511 else cm,cY ct,if ((1:Int) == 2)=true then [] else cd⟩=P:=hP;rw [e];cases is
  ·cases hm:jC cm
   ·
    refine ent aB aK Tryz.func180 rfl rfl fun X0 hX=>?_;simp only [Tryz.f180,go_sem]
    repeat' (first|exact ⟨⟩|refine sq ?_|((refine aN (id:=1) aB aK [7,8] [7,0,1,2,3,4,5,6,8] (by decide +kernel) ?_);(repeat' (first|(refine aT ?_)|((refine cV ?_ ?_ rfl rfl rfl ?_ ?_);(rotate_left 2);(focus ((repeat' (first|exact ⟨⟩|refine sp ?_));((refine And.intro ?_ ?_ <;> exact rfl))));(simp only [aG,bI]))|((refine cU ?_ rfl rfl rfl ?_ ?_);(rotate_left 1);(focus ((repeat' (first|exact bG|refine aZ ?_ ?_));(all_goals ((repeat' (first|exact ⟨⟩|refine sp ?_|refine uF (cX ct) ?_));(try (exact rfl))))));(simp only [aG])))))|refine uF (eL) ?_)
    all_goals exact .inr ⟨_,rfl⟩
   ·cases hl:decide ((2000:Int)<(cd.length:Int))
    ·
     refine ent aB aK Tryz.func180 rfl rfl fun X0 hX=>?_;simp only [Tryz.f180,go_sem]
     repeat' (first|exact ⟨⟩|refine sq ?_|((refine aN (id:=1) aB aK [7,8] [7,0,1,2,3,4,5,6,8] (by decide +kernel) ?_);(repeat' (first|(refine aT ?_)|((refine cV ?_ ?_ rfl rfl rfl ?_ ?_);(rotate_left 2);(focus ((repeat' (first|exact ⟨⟩|refine sp ?_));((refine And.intro ?_ ?_ <;> exact rfl))));(simp only [aG,bI]))|((refine cU ?_ rfl rfl rfl ?_ ?_);(rotate_left 1);(focus ((repeat' (first|exact bG|refine aZ ?_ ?_));(all_goals ((repeat' (first|exact ⟨⟩|refine sp ?_|refine uF (cX ct) ?_));(try (exact rfl))))));(simp only [aG])))))|refine uF (eL) ?_|refine uN (hput) ?_)
    ·
     refine ent aB aK Tryz.func180 rfl rfl fun X0 hX=>?_;simp only [Tryz.f180,go_sem]
     repeat' (first|exact ⟨⟩|refine sq ?_|((refine aN (id:=1) aB aK [7,8] [7,0,1,2,3,4,5,6,8] (by decide +kernel) ?_);(repeat' (first|(refine aT ?_)|((refine cV ?_ ?_ rfl rfl rfl ?_ ?_);(rotate_left 2);(focus ((repeat' (first|exact ⟨⟩|refine sp ?_));((refine And.intro ?_ ?_ <;> exact rfl))));(simp only [aG,bI]))|((refine cU ?_ rfl rfl rfl ?_ ?_);(rotate_left 1);(focus ((repeat' (first|exact bG|refine aZ ?_ ?_));(all_goals ((repeat' (first|exact ⟨⟩|refine sp ?_|refine uF (cX ct) ?_));(try (exact rfl))))));(simp only [aG])))))|refine uF (eL) ?_)
     all_goals exact .inr ⟨_,rfl⟩
  ·
   refine ent aB aK Tryz.func180 rfl rfl fun X0 hX=>?_;simp only [Tryz.f180,go_sem]
   repeat' (first|exact ⟨⟩|refine sp ?_|((refine aN (id:=1) aB aK [7,8] [7,0,1,2,3,4,5,6,8] (by decide +kernel) ?_);(repeat' (first|(refine aT ?_)|((refine cV ?_ ?_ rfl rfl rfl ?_ ?_);(rotate_left 2);(focus ((repeat' (first|exact ⟨⟩|refine sp ?_));((refine And.intro ?_ ?_ <;> exact rfl))));(simp only [aG,bI]))|((refine cU ?_ rfl rfl rfl ?_ ?_);(rotate_left 1);(focus ((repeat' (first|exact bG|refine aZ ?_ ?_));(all_goals ((repeat' (first|exact ⟨⟩|refine sp ?_|refine uF (cX ct) ?_));(try (exact rfl))))));(simp only [aG]))))))
   all_goals exact .inr ⟨_,rfl⟩
 ·have hput:=gO (is:=is) (k:=k) (m:=m) (tt:=tt) (d:=d) (k':=2) (m':=cm) (tt':=cY ct) (d':=[]) h hp (by simp) hb;generalize hP:lV t p ⟨2,cm,cY ct,[]⟩=P at hput;have e:lV t p ⟨2,if ((2:Int) == 3)=true then 511 else cm,cY ct,if ((2:Int) == 2)=true then [] else cd⟩=P:=hP;rw [e];have hput:aA Tryz.prog 242 [.agg (plc t p is k m tt d),.agg [.p (.i .i64 2),.p (.i .i64 cm),.p (.f (cY ct)),.p .nil]] [] fun r h=>r=.tup [.c (.p (.sl 5 (aU P.1))),.c (.p (.i .i64 P.2))]∧h=[]:=by
   refine aA.wkargs ?_ hput;simp [zE8,wkD,zE7,wkC,wkP,lJ]
  cases is
  ·cases hm:jC cm
   ·
    refine ent aB aK Tryz.func180 rfl rfl fun X0 hX=>?_;simp only [Tryz.f180,go_sem]
    repeat' (first|exact ⟨⟩|refine sq ?_|((refine aN (id:=1) aB aK [7,8] [7,0,1,2,3,4,5,6,8] (by decide +kernel) ?_);(repeat' (first|(refine aT ?_)|((refine cV ?_ ?_ rfl rfl rfl ?_ ?_);(rotate_left 2);(focus ((repeat' (first|exact ⟨⟩|refine sp ?_));((refine And.intro ?_ ?_ <;> exact rfl))));(simp only [aG,bI]))|((refine cU ?_ rfl rfl rfl ?_ ?_);(rotate_left 1);(focus ((repeat' (first|exact bG|refine aZ ?_ ?_));(all_goals ((repeat' (first|exact ⟨⟩|refine sp ?_|refine uF (cX ct) ?_));(try (exact rfl))))));(simp only [aG])))))|refine uF (eL) ?_)
    all_goals exact .inr ⟨_,rfl⟩
   ·
    refine ent aB aK Tryz.func180 rfl rfl fun X0 hX=>?_;simp only [Tryz.f180,go_sem]
    repeat' (first|exact ⟨⟩|refine sq ?_|((refine aN (id:=1) aB aK [7,8] [7,0,1,2,3,4,5,6,8] (by decide +kernel) ?_);(repeat' (first|(refine aT ?_)|((refine cV ?_ ?_ rfl rfl rfl ?_ ?_);(rotate_left 2);(focus ((repeat' (first|exact ⟨⟩|refine sp ?_));((refine And.intro ?_ ?_ <;> exact rfl))));(simp only [aG,bI]))|((refine cU ?_ rfl rfl rfl ?_ ?_);(rotate_left 1);(focus ((repeat' (first|exact bG|refine aZ ?_ ?_));(all_goals ((repeat' (first|exact ⟨⟩|refine sp ?_|refine uF (cX ct) ?_));(try (exact rfl))))));(simp only [aG])))))|refine uF (eL) ?_|refine uN (hput) ?_)
  ·
   refine ent aB aK Tryz.func180 rfl rfl fun X0 hX=>?_;simp only [Tryz.f180,go_sem]
   repeat' (first|exact ⟨⟩|refine sp ?_|((refine aN (id:=1) aB aK [7,8] [7,0,1,2,3,4,5,6,8] (by decide +kernel) ?_);(repeat' (first|(refine aT ?_)|((refine cV ?_ ?_ rfl rfl rfl ?_ ?_);(rotate_left 2);(focus ((repeat' (first|exact ⟨⟩|refine sp ?_));((refine And.intro ?_ ?_ <;> exact rfl))));(simp only [aG,bI]))|((refine cU ?_ rfl rfl rfl ?_ ?_);(rotate_left 1);(focus ((repeat' (first|exact bG|refine aZ ?_ ?_));(all_goals ((repeat' (first|exact ⟨⟩|refine sp ?_|refine uF (cX ct) ?_));(try (exact rfl))))));(simp only [aG]))))))
   all_goals exact .inr ⟨_,rfl⟩
 ·have hput:=gO (is:=is) (k:=k) (m:=m) (tt:=tt) (d:=d) (k':=3) (m':=511) (tt':=cY ct) (d':=cd) h hp hd hb;generalize hP:lV t p ⟨3,511,cY ct,cd⟩=P at hput;have e:lV t p ⟨3,if ((3:Int) == 3)=true then 511 else cm,cY ct,if ((3:Int) == 2)=true then [] else cd⟩=P:=hP;rw [e];have hm:jC 511=true:=rfl;have hrm:=eL (m:=511);rw [hm] at hrm;cases is
  ·cases cd with
   | nil =>
    refine ent aB aK Tryz.func180 rfl rfl fun X0 hX=>?_;simp only [Tryz.f180,go_sem]
    repeat' (first|exact ⟨⟩|refine sq ?_|((refine aN (id:=1) aB aK [7,8] [7,0,1,2,3,4,5,6,8] (by decide +kernel) ?_);(repeat' (first|(refine aT ?_)|((refine cV ?_ ?_ rfl rfl rfl ?_ ?_);(rotate_left 2);(focus ((repeat' (first|exact ⟨⟩|refine sp ?_));((refine And.intro ?_ ?_ <;> exact rfl))));(simp only [aG,bI]))|((refine cU ?_ rfl rfl rfl ?_ ?_);(rotate_left 1);(focus ((repeat' (first|exact bG|refine aZ ?_ ?_));(all_goals ((repeat' (first|exact ⟨⟩|refine sp ?_|refine uF (cX ct) ?_));(try (exact rfl))))));(simp only [aG])))))|refine uF (hrm) ?_)
    all_goals exact .inr ⟨_,rfl⟩
   | cons x l =>
    have h1:decide (((l.length+1:Nat):Int)<1)=false:=decide_eq_false (by omega);have hib:=mF (d:=x::l) (c:=0) (by simp);rw [show Int.toNat 0=0 from rfl] at hib
    cases hl:decide ((120:Int)<((l.length+1:Nat):Int))
    ·generalize ((x::l).all fun b=>!(b == 0))=q at hz ⊢;cases q
     ·
      refine ent aB aK Tryz.func180 rfl rfl fun X0 hX=>?_;simp only [Tryz.f180,go_sem]
      repeat' (first|exact ⟨⟩|refine sq ?_|((refine aN (id:=1) aB aK [7,8] [7,0,1,2,3,4,5,6,8] (by decide +kernel) ?_);(repeat' (first|(refine aT ?_)|((refine cV ?_ ?_ rfl rfl rfl ?_ ?_);(rotate_left 2);(focus ((repeat' (first|exact ⟨⟩|refine sp ?_));((refine And.intro ?_ ?_ <;> exact rfl))));(simp only [aG,bI]))|((refine cU ?_ rfl rfl rfl ?_ ?_);(rotate_left 1);(focus ((repeat' (first|exact bG|refine aZ ?_ ?_));(all_goals ((repeat' (first|exact ⟨⟩|refine sp ?_|refine uF (cX ct) ?_));(try (exact rfl))))));(simp only [aG])))))|refine uF (hrm) ?_|refine uF (hib) ?_)
      all_goals exact .inr ⟨_,rfl⟩
     ·
      refine ent aB aK Tryz.func180 rfl rfl fun X0 hX=>?_;simp only [Tryz.f180,go_sem]
      repeat' (first|exact ⟨⟩|refine sq ?_|((refine aN (id:=1) aB aK [7,8] [7,0,1,2,3,4,5,6,8] (by decide +kernel) ?_);(repeat' (first|(refine aT ?_)|((refine cV ?_ ?_ rfl rfl rfl ?_ ?_);(rotate_left 2);(focus ((repeat' (first|exact ⟨⟩|refine sp ?_));((refine And.intro ?_ ?_ <;> exact rfl))));(simp only [aG,bI]))|((refine cU ?_ rfl rfl rfl ?_ ?_);(rotate_left 1);(focus ((repeat' (first|exact bG|refine aZ ?_ ?_));(all_goals ((repeat' (first|exact ⟨⟩|refine sp ?_|refine uF (cX ct) ?_));(try (exact rfl))))));(simp only [aG])))))|refine uF (hrm) ?_|refine uF (hib) ?_|refine uN (hput) ?_)
    ·
     refine ent aB aK Tryz.func180 rfl rfl fun X0 hX=>?_;simp only [Tryz.f180,go_sem]
     repeat' (first|exact ⟨⟩|refine sq ?_|((refine aN (id:=1) aB aK [7,8] [7,0,1,2,3,4,5,6,8] (by decide +kernel) ?_);(repeat' (first|(refine aT ?_)|((refine cV ?_ ?_ rfl rfl rfl ?_ ?_);(rotate_left 2);(focus ((repeat' (first|exact ⟨⟩|refine sp ?_));((refine And.intro ?_ ?_ <;> exact rfl))));(simp only [aG,bI]))|((refine cU ?_ rfl rfl rfl ?_ ?_);(rotate_left 1);(focus ((repeat' (first|exact bG|refine aZ ?_ ?_));(all_goals ((repeat' (first|exact ⟨⟩|refine sp ?_|refine uF (cX ct) ?_));(try (exact rfl))))));(simp only [aG])))))|refine uF (hrm) ?_)
     all_goals exact .inr ⟨_,rfl⟩
  ·
   refine ent aB aK Tryz.func180 rfl rfl fun X0 hX=>?_;simp only [Tryz.f180,go_sem]
   repeat' (first|exact ⟨⟩|refine sp ?_|((refine aN (id:=1) aB aK [7,8] [7,0,1,2,3,4,5,6,8] (by decide +kernel) ?_);(repeat' (first|(refine aT ?_)|((refine cV ?_ ?_ rfl rfl rfl ?_ ?_);(rotate_left 2);(focus ((repeat' (first|exact ⟨⟩|refine sp ?_));((refine And.intro ?_ ?_ <;> exact rfl))));(simp only [aG,bI]))|((refine cU ?_ rfl rfl rfl ?_ ?_);(rotate_left 1);(focus ((repeat' (first|exact bG|refine aZ ?_ ?_));(all_goals ((repeat' (first|exact ⟨⟩|refine sp ?_|refine uF (cX ct) ?_));(try (exact rfl))))));(simp only [aG]))))))
   all_goals exact .inr ⟨_,rfl⟩
end places
end Go.Proofs.YtlbfnbldeefgmaaGreatDoor
end
