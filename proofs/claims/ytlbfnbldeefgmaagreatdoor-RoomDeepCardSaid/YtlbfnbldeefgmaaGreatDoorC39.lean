/- Part 40 of the proof of roomDeep_card, set without needless blanks. No condition. -/
import Derived.Test.YtlbfnbldeefgmaaGreatDoorC38
set_option linter.all false
section
namespace Go.Proofs.YtlbfnbldeefgmaaGreatDoor
open Go Go.Dm Go.Proofs
set_option maxRecDepth 100000
set_option maxHeartbeats 8000000
def JV (a b:List UInt8) (t:List It) (k:Nat):List It:=(t.take k).map (oR a b)++t.drop k
theorem zEg (a b:List UInt8) (t:List It) (k:Nat):(JV a b t k).length=t.length:=by
 simp only [JV,List.length_append,List.length_map,List.length_take,List.length_drop];omega
theorem zA2 {a b:List UInt8} {t:List It} {k:Nat} {x:It} (hx:t[k]? = some x):(JV a b t k)[k]? = some x:=by
 have hk:=(List.getElem?_eq_some_iff.1 hx).1;have hl:((t.take k).map (oR a b)).length=k:=by rw [List.length_map,List.length_take];omega
 unfold JV;rw [List.getElem?_append_right (by omega),hl,Nat.sub_self,List.getElem?_drop,Nat.add_zero];exact hx
theorem zEh {a b:List UInt8} {t:List It} {k:Nat} {x:It} (hx:t[k]? = some x):(JV a b t k).set k (oR a b x)=JV a b t (k+1):=by
 have hk:=(List.getElem?_eq_some_iff.1 hx).1;have hl:((t.take k).map (oR a b)).length=k:=by rw [List.length_map,List.length_take];omega
 unfold JV;rw [List.set_append_right _ _ (by omega),hl,Nat.sub_self,drop_at hx,List.set_cons_zero,List.take_add_one,hx,List.map_append];simp
theorem zBT {l:List (List PV)} {k:Nat} {e:List PV} (h:k<l.length):(l.set k e).getD k []=e:=by
 rw [List.getD_eq_getElem?_getD,List.getElem?_set_self h];rfl
theorem zIJ {t:List It} {a b:List UInt8} (h:OkT t) (ha:a.length≤1000000000) (hb:b.length≤1000000000):
  aA Tryz.prog 246 [.c (.p (.sl 5 (aZ t))),.c (.p (.s a)),.c (.p (.s b))] [] fun r h =>
   r=.tup [.c (.p (.sl 5 (aZ (mE t a b).1))),.c (.p (.i .i64 (mE t a b).2))]∧h=[]:=by
 have htl:=h.len;have hdl:∀ x∈t,x.n.d.length≤140737488355328:=fun x hx=>Nat.le_trans (h.dlen x hx) (by decide);have hmay:=zA1 (t:=t) (a:=a) (b:=b) (by omega) h.srt ha hb;refine bN ?_;by_cases h0:zEf t a b=0
 ·have hpre:a≠[]∧b≠[]∧cJ b=true∧(aW t b).isSome=false∧mE t a b=eQ a b (bR t a) t:=by
   unfold zEf at h0;unfold mE;split at h0
   ·cases h0
   ·rename_i h1;rw [if_neg h1];split at h0
    ·cases h0
    ·rename_i h2;rw [if_neg h2];split at h0
     ·cases h0
     ·rename_i h3;rw [if_neg h3];split at h0
      ·cases h0
      ·rename_i h4;rw [if_neg h4];split at h0
       ·cases h0
       ·rename_i h5;rw [if_neg h5];simp only [Bool.or_eq_true,not_or,beq_iff_eq,Bool.not_eq_true',Bool.not_eq_false] at h1;exact ⟨h1.1.1.1,h1.1.1.2,h1.2,by simpa using h4,rfl⟩
  obtain ⟨p1,p2,p3,p4,p5⟩:=hpre;rw [p5,zG1 h p1 p2 p3 p4];have hnd:=vV h p1 p2 p4;rw [h0] at hmay;have hpl:=h.plen;have hle0:t.length≤(aZ t).length:=Nat.le_of_eq (cS t).symm;clear p5 p2 p3 p4 h0;have hR:∃ R,(if (DU t a b).all dZ then (oN (DU t a b),0) else (([],12):List It × Int))=R:=⟨_,rfl⟩
  obtain ⟨R,hR⟩:=hR;rw [hR];have hRP:=PLift.up hR;clear hR;refine ent aC aK Tryz.func246 rfl rfl fun X0 hX=>?_;simp only [Tryz.f246,go_sem]
  repeat' (first|simp only [*,go_sem,Nat.reduceLT,Nat.reduceEqDiff,↓reduceIte,Nat.reduceAdd,bne_self_eq_false,]|((with_reducible refine aQ (hmay) ?_ ?_ ?_);exact rfl;exact rfl)|refine uG (by omega) hdl ?_)
  refine bQ aC aK (α:=Nat) (fun k=>⟨60,[(1,.c (.p (.s a))),(2,.c (.p (.s b))),(9,.c (.own 0 0 t.length)),(21,.c (.own 0 0 t.length)),(22,.c (.p (.i .i64 t.length))),(23,.c (.p (.i .i64 k)))],[.arr 5 (aZ (JV a b t k)) false]⟩)
   (fun k=>k≤t.length∧((t.take k).map (oR a b)).all dZ=true) (fun k=>t.length-k) 0 ⟨Nat.zero_le _,rfl⟩ (.inl (aJ (by rw [hX];rfl) rfl rfl (by simp [aH,aN,aD,aL,aG,]))) ?_
  rintro k ⟨hk,hs⟩;by_cases hlt:k<t.length
  ·have hx:t[k]? = some t[k]:=List.getElem?_eq_getElem hlt;have hg:=dD (zA2 (a:=a) (b:=b) hx);have hst:=zEh (a:=a) (b:=b) hx;have hml:=zEg a b t k;have h1:decide ((k:Int)<(t.length:Int))=true:=decide_eq_true (by omega);have w1:IntKind.i64.wrap ((k:Int)+1)=k+1:=wrap_i64 (by omega) (by omega);have hxl:=hpl _ (List.getElem_mem hlt);have hnx:((t.take (k+1)).map (oR a b)).all dZ=dZ (oR a b t[k]):=by
    rw [List.take_add_one,hx,List.map_append,List.all_append,hs,Bool.true_and];simp
   have hbad:dZ (oR a b t[k])=false→(DU t a b).all dZ=false:=fun hb=>by
    rw [Bool.eq_false_iff];intro h2;have:=List.all_eq_true.1 h2 _ (List.mem_map_of_mem (f:=oR a b) (List.getElem_mem hlt));rw [hb] at this;cases this
   generalize t[k]=x at hx hg hst hxl hnx hbad;cases q1:(x.p == a) <;> cases q2:aM a x.p
   case false.false =>
    have hmi:oR a b x=x:=by unfold oR mvd;rw [q1,q2];rfl
    have hsx:dZ x=true:=by
     simp only [dZ,Bool.not_eq_true',decide_eq_false_iff_not];omega
    have hx120:decide ((120:Int)<(x.p.length:Int))=false:=by simpa [dZ] using hsx
    rw [hmi] at hst hnx;have hst2:JV a b t k=JV a b t (k+1):=by
     rw [← hst];exact (List.ext_getElem? fun j=>by
      rw [List.getElem?_set];split
      ·rename_i e;subst e;rw [zA2 hx];split
       ·rfl
       ·rename_i hh;rw [hml] at hh;exact absurd hlt hh
      ·rfl)
    have hJ:k+1≤t.length∧((t.take (k+1)).map (oR a b)).all dZ=true:=⟨by omega,by rw [hnx];exact hsx⟩
    have hS:=PLift.up hst2;have hlr:k<(JV a b t k).length:=by omega
    clear hbad hmi hst hnx hx hst2 hml
    repeat' (first|simp only [*,go_sem,Nat.reduceLT,Nat.reduceLeDiff,Nat.reduceEqDiff,↓reduceIte,Nat.reduceAdd,]|((with_reducible refine aQ (cE ha) ?_ ?_ ?_);exact rfl;exact rfl)|((with_reducible refine And.intro ?_ ?_);omega))
    exact jC (k+1) hJ (by omega) (aJ rfl (by rw [hS.down];rfl) rfl (by simp [aH,aN,aD,aL,aG,]))
   all_goals
    have hmi:oR a b x=⟨b++x.p.drop a.length,x.n⟩:=by unfold oR mvd;rw [q1,q2];rfl
    rw [hmi] at hst hnx hbad;have hla:a.length≤x.p.length:=by
     first|(rw [eq_of_beq q1];exact Nat.le_refl _)|exact dM q2
    cases q3:dZ ⟨b++x.p.drop a.length,x.n⟩
   all_goals have hlr:k<(JV a b t k).length:=by omega
   all_goals have hse:=pK (JV a b t k) k ⟨b++x.p.drop a.length,x.n⟩
   all_goals simp only at hse
   all_goals rw [hst] at hse
   all_goals have hS:=PLift.up hse
   all_goals have hlr2:k<(aZ (JV a b t k)).length:=by rw [cS];exact hlr
   all_goals have hdp:b.length+(x.p.drop a.length).length≤9223372036854775807:=by rw [List.length_drop];omega
   all_goals have hki:(k:Int)<(t.length:Int):=by omega
   all_goals have hk0:(0:Int)≤(k:Int):=by omega
   all_goals have hq:decide ((120:Int)<((b.length+(x.p.drop a.length).length:Nat):Int)) = !(dZ ⟨b++x.p.drop a.length,x.n⟩):=by unfold dZ;rw [Bool.not_not,List.length_append]
   all_goals rw [q3] at hq hnx
   all_goals simp only [Bool.not_true,Bool.not_false] at hq
   case' false.true.false|true.false.false|true.true.false =>
    obtain rfl:(([],12):List It × Int)=R:=by rw [← hRP.down,hbad q3];rfl
    clear hbad hmi hst hnx hx hml hse
    repeat' (first|simp only [*,go_sem,Nat.reduceLT,Nat.reduceLeDiff,Nat.reduceEqDiff,↓reduceIte,Nat.reduceAdd,zBT hlr2,List.length_set,List.length_append]|((with_reducible refine aQ (cE ha) ?_ ?_ ?_);exact rfl;exact rfl)|((with_reducible refine And.intro ?_ ?_);omega))
   case' false.true.true|true.false.true|true.true.true =>
    have hJ:k+1≤t.length∧((t.take (k+1)).map (oR a b)).all dZ=true:=⟨by omega,hnx⟩
    clear hbad hmi hst hnx hx hml hse
    repeat' (first|simp only [*,go_sem,Nat.reduceLT,Nat.reduceLeDiff,Nat.reduceEqDiff,↓reduceIte,Nat.reduceAdd,zBT hlr2,List.length_set,List.length_append]|((with_reducible refine aQ (cE ha) ?_ ?_ ?_);exact rfl;exact rfl)|((with_reducible refine And.intro ?_ ?_);omega))
   all_goals first|exact .inr ⟨_,rfl⟩|exact jC (k+1) hJ (by omega) (aJ rfl (by rw [← hS.down];rfl) rfl (by simp [aH,aN,aD,aL,aG,]))
  ·have h1:decide ((k:Int)<(t.length:Int))=false:=decide_eq_false (by omega);have hk2:k=t.length:=by omega
   subst hk2;have hmt:JV a b t t.length=DU t a b:=by
    unfold JV DU;rw [List.take_length,List.drop_length,List.append_nil]
   rw [List.take_length] at hs;obtain rfl:(oN (DU t a b),(0:Int))=R:=by
    rw [← hRP.down];have:(DU t a b).all dZ=true:=hs;rw [this];rfl
   rw [hmt];have hml:(DU t a b).length=t.length:=List.length_map _;have hu:=sE hnd;rw [← hml];have hsl:(DU t a b).length<4611686018427387904:=by omega
   have hml2:=zBX (DU t a b);clear hRP hs hnd hpl hmt hlt hml;clear h1;generalize DU t a b=q at hu hsl hml2 ⊢;have h1:decide ((q.length:Int)<(q.length:Int))=false:=decide_eq_false (by omega)
   repeat' (first|simp only [*,go_sem,Nat.reduceLT,Nat.reduceEqDiff,↓reduceIte,List.set_cons_zero]|refine zHo (id:=0) (l:=q) hu hsl rfl ?_)
   all_goals rw [List.take_of_length_le (by rw [hml2];exact Nat.le_refl _)]
 ·have hne:(zEf t a b == 0)=false:=by simpa using h0
  have hme:mE t a b=([],zEf t a b):=by
   unfold zEf at h0 ⊢;unfold mE;split
   ·rfl
   ·rename_i h1;rw [if_neg h1] at h0;split
    ·rfl
    ·rename_i h2;rw [if_neg h2] at h0;split
     ·rfl
     ·rename_i h3;rw [if_neg h3] at h0;split
      ·rfl
      ·rename_i h4;rw [if_neg h4] at h0;split
       ·rfl
       ·rename_i h5;rw [if_neg h5] at h0;exact absurd rfl h0
  rw [hme];have hne2:(zEf t a b != 0)=true:=by rw [bne,hne];rfl
  generalize zEf t a b=e at *;clear hme;refine ent aC aK Tryz.func246 rfl rfl fun X0 hX=>?_;simp only [Tryz.f246,go_sem]
  repeat' (first|simp only [*,go_sem,Nat.reduceLT,Nat.reduceEqDiff,↓reduceIte,Nat.reduceAdd,]|((with_reducible refine aQ (hmay) ?_ ?_ ?_);exact rfl;exact rfl))
  all_goals exact .inr ⟨_,rfl⟩
end Go.Proofs.YtlbfnbldeefgmaaGreatDoor
end
section
namespace Go.Proofs.YtlbfnbldeefgmaaGreatDoor
open Go Go.Dm Go.Proofs
set_option maxRecDepth 100000
set_option maxHeartbeats 8000000
abbrev plc (t:List It) (p:List UInt8) (is:Bool) (k m:Int) (tt:Nat) (d:List UInt8):List CV:=[.p (.sl 5 (aZ t)),.p (.s p),.p (.b is),.p (.i .i64 k),.p (.i .i64 m),.p (.f tt),.p (.sl 1 (bW d))]
abbrev clc (k:Int) (p q:List UInt8) (m:Int) (tt:Nat) (a n:Int) (d:List UInt8):List CV:=[.p (.i .i64 k),.p (.s p),.p (.s q),.p (.i .i64 m),.p (.f tt),.p (.i .i64 a),.p (.i .i64 n),.p (.sl 1 (bW d))]
abbrev anc (e:Int) (k m:Int) (tt:Nat) (d b:List UInt8) (l:List (List UInt8)):List CV:=[.p (.i .i64 e),.p (.i .i64 k),.p (.i .i64 m),.p (.f tt),.p (.sl 1 (bW d)),.p (.sl 1 (bW b)),.p (.sl 1 (Go.Dm.encS l))]
theorem WE {k:Int}:aA Tryz.prog 33 [.c (.p (.i .i64 k))] [] fun r h=>r=.c (.p (.b (jZ k)))∧h=[]:=by
 unfold jZ;refine ent aC aK Tryz.func33 rfl rfl fun X0 hX=>?_;simp only [Tryz.f33,go_sem]
 repeat' (first|simp only [*,go_sem,Nat.reduceLT,Nat.reduceEqDiff,↓reduceIte,]|with_reducible refine cL (fun _=>?_) (fun _=>?_))
 all_goals first|(simp_all;done)|(simp_all;rfl)
theorem zAp {k:Int}:aA Tryz.prog 101 [.c (.p (.i .i64 k))] [] fun r h=>r=.c (.p (.b (fK k)))∧h=[]:=by
 unfold fK;refine ent aC aK Tryz.func101 rfl rfl fun X0 hX=>?_;simp only [Tryz.f101,go_sem]
 repeat' (first|simp only [*,go_sem,Nat.reduceLT,Nat.reduceEqDiff,↓reduceIte,]|with_reducible refine aR (fun _=>?_) (fun _=>?_))
 all_goals simp_all
theorem eE {m:Int}:aA Tryz.prog 240 [.c (.p (.i .i64 m))] [] fun r h=>r=.c (.p (.b (iN m)))∧h=[]:=by
 unfold iN;refine ent aC aK Tryz.func240 rfl rfl fun X0 hX=>?_;simp only [Tryz.f240,go_sem]
 repeat' (first|simp only [*,go_sem,Nat.reduceLT,Nat.reduceEqDiff,↓reduceIte,]|with_reducible refine cL (fun _=>?_) (fun _=>?_))
 all_goals simp_all
section places
variable {t:List It} {p:List UInt8} {is:Bool} {k m:Int} {tt:Nat} {d:List UInt8}
theorem iP:aA Tryz.prog 243 [.agg (plc t p is k m tt d)] [] fun r h=>r=.c (.p (.b (p == [])))∧h=[]:=by
 refine ent aC aK Tryz.func243 rfl rfl fun X0 hX=>?_;simp only [Tryz.f243,go_sem]
 repeat' (simp only [*,go_sem,Nat.reduceLT,Nat.reduceEqDiff,↓reduceIte,])
theorem dG:aA Tryz.prog 178 [.agg (plc t p is k m tt d)] [] fun r h=>r=.c (.p (.b (is && k == 2)))∧h=[]:=by
 refine ent aC aK Tryz.func178 rfl rfl fun X0 hX=>?_;simp only [Tryz.f178,go_sem]
 repeat' (first|simp only [*,go_sem,Nat.reduceLT,Nat.reduceEqDiff,↓reduceIte,]|with_reducible refine cL (fun _=>?_) (fun _=>?_))
 all_goals simp_all
theorem gE {k' m':Int} {tt':Nat} {d':List UInt8} (h:OkT t) (hp:p.length≤1000000000) (hd:d'.length≤140737488355328) (ht:tt'<18446744073709551616):
  aA Tryz.prog 242 [.agg (plc t p is k m tt d),.agg (ndc k' m' tt' d')] [] fun r h=>r=.tup [.c (.p (.sl 5 (aZ (sL t p ⟨k',m',tt',d'⟩).1))),.c (.p (.i .i64 (sL t p ⟨k',m',tt',d'⟩).2))]∧h=[]:=by
 have hput:=zJ4 (p:=p) (k:=k') (m:=m') (d:=d') h hp hd ht;refine ent aC aK Tryz.func242 rfl rfl fun X0 hX=>?_;simp only [Tryz.f242,go_sem]
 repeat' (first|simp only [*,go_sem,Nat.reduceLT,Nat.reduceLeDiff,Nat.reduceEqDiff,↓reduceIte,Nat.reduceAdd,]|((with_reducible refine cH (hput) ?_ ?_ ?_);exact rfl;exact fun _=>rfl))
theorem zFt:aA Tryz.prog 184 [.agg (plc t p is k m tt d)] [] fun r h=>r=.c (.p (.i .i64 (rF is ⟨k,m,tt,d⟩)))∧h=[]:=by
 unfold rF NT;cases is
 ·
  refine ent aC aK Tryz.func184 rfl rfl fun X0 hX=>?_;simp only [Tryz.f184,go_sem]
  repeat' (simp only [*,go_sem,Nat.reduceLT,Nat.reduceEqDiff,↓reduceIte,Bool.not_false])
  all_goals rfl
 ·cases hk:(k == 2)
  ·
   refine ent aC aK Tryz.func184 rfl rfl fun X0 hX=>?_;simp only [Tryz.f184,go_sem]
   repeat' (first|simp only [*,go_sem,Nat.reduceLT,Nat.reduceLeDiff,Nat.reduceEqDiff,↓reduceIte,Nat.reduceAdd,Bool.not_true]|((with_reducible refine aQ (dG) ?_ ?_ ?_);exact rfl;exact rfl))
  ·
   refine ent aC aK Tryz.func184 rfl rfl fun X0 hX=>?_;simp only [Tryz.f184,go_sem]
   repeat' (first|simp only [*,go_sem,Nat.reduceLT,Nat.reduceLeDiff,Nat.reduceEqDiff,↓reduceIte,Nat.reduceAdd,Bool.not_true]|((with_reducible refine aQ (dG) ?_ ?_ ?_);exact rfl;exact rfl))
theorem zKA (h:OkT t) (hp:p.length≤1000000000):aA Tryz.prog 102 [.c (.p (.sl 5 (aZ t))),.c (.p (.s p)),.c (.p (.b is))] [] fun r h=>r=.agg (plc t p is (nodeAt t p).k (nodeAt t p).m (nodeAt t p).t (nodeAt t p).d)∧h=[]:=by
 have htl:=h.len;have hget:=jY (t:=t) (p:=p) (by omega) h.srt h.ne fun x hx=>Nat.le_trans (h.dlen x hx) (by decide);refine bN ?_;unfold nodeAt;generalize (aW t p).getD nd0=n at hget ⊢;generalize (aW t p).isSome=b at hget;obtain ⟨k,m,tt,d⟩:=n;cases hpz:(p == [])
 ·
  refine ent aC aK Tryz.func102 rfl rfl fun X0 hX=>?_;simp only [Tryz.f102,go_sem]
  repeat' (first|simp only [*,go_sem,Nat.reduceLT,Nat.reduceLeDiff,Nat.reduceEqDiff,↓reduceIte,Nat.reduceAdd,]|((with_reducible refine cH (hget) ?_ ?_ ?_);exact rfl;exact fun _=>rfl))
 ·
  refine ent aC aK Tryz.func102 rfl rfl fun X0 hX=>?_;simp only [Tryz.f102,go_sem]
  repeat' (first|simp only [*,go_sem,Nat.reduceLT,Nat.reduceLeDiff,Nat.reduceEqDiff,↓reduceIte,Nat.reduceAdd,]|((with_reducible refine cH (hget) ?_ ?_ ?_);exact rfl;exact fun _=>rfl))
  all_goals exact .inr ⟨_,rfl⟩
end places
end Go.Proofs.YtlbfnbldeefgmaaGreatDoor
end
