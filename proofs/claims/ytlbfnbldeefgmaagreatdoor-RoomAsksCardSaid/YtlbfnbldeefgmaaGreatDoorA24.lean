/- Part 25 of the proof of roomAsks_card, set without needless blanks. No condition. -/
import Derived.Test.YtlbfnbldeefgmaaGreatDoorA13
import Derived.Test.YtlbfnbldeefgmaaGreatDoorA16
set_option linter.all false
section
namespace Go.Dm
open Go
theorem NJ (p:List UInt8) (n:Nd):∀ (t:List It) (d:Bool),(vD p n d t).length=(pI t p).length+(if d then 0 else 1)
 | [],d=>by cases d <;> rfl
 | x::r,d=>by
  have h:=NJ p n r (d || !bL x.p p);simp only [vD,pI,List.length_append,List.filter_cons] at h ⊢;cases d <;> cases hb:bL x.p p <;> cases hp:x.p == p <;> simp [hb] at h ⊢ <;> omega
theorem zJb {t:List It} {p:List UInt8} (h:(aQ t p).isSome=true):(pI t p).length<t.length:=by
 induction t with
 | nil=>cases h
 | cons x r ih =>
  rw [aQ] at h;simp only [pI,List.filter_cons];split at h
  ·rename_i hp;rw [hp];exact Nat.lt_succ_of_le (List.length_filter_le ..)
  ·rename_i hp;have hp:(x.p == p)=false:=by simpa using hp
   rw [hp];simp only [Bool.not_false,if_true,List.length_cons];exact Nat.succ_lt_succ (ih h)
theorem GN {t:List It} (h:OkT t) {p:List UInt8} {n:Nd} (hs:(aQ t p).isSome=true) (hn:aS n=true) (hk:(n.k == 2)=false→aV t p=false):lV t p n=(sP t p n,0):=by
 obtain ⟨h1,h2,_⟩:=h.getok hs;obtain ⟨m,hm⟩:=Option.isSome_iff_exists.1 hs;have h3:aV t (aR p)=true:=JQ h (.inr ⟨m,hm⟩);have h4:(if n.k != 2 then bE t p else t)=t:=by
  split
  ·rename_i hne;exact CF h h1 (hk (by simpa using hne))
  ·rfl
 have h5:(sP t p n).length≤120:=by
  have e:=NJ p n t false;have l:=zJb hs;have:=h.len;unfold sP;rw [e];simp only [Bool.false_eq_true,if_false];omega
 have hb:(p == [])=false:=by simpa using h1
 unfold lV;rw [h4,hb,h2,hn,h3,decide_eq_false (by omega)];rfl
theorem zK {n:Nd}:aS n=true↔(0≤n.m∧n.m≤4095∧zA n.t=true)∧(if n.k == 1 then decide ((n.d.length:Int)≤2000) else if n.k == 2 then (n.d.length:Int) == 0 else if n.k == 3 then jK n.d else false)=true:=by
 unfold aS;rw [Bool.and_eq_true];refine and_congr ?_ Iff.rfl;simp only [Bool.not_eq_true',Bool.or_eq_false_iff,decide_eq_false_iff_not,Bool.not_eq_false'];constructor
 ·rintro ⟨⟨a,b⟩,c⟩;exact ⟨by omega,by omega,c⟩
 ·rintro ⟨a,b,c⟩;exact ⟨⟨by omega,by omega⟩,c⟩
theorem zAd (x:Nat):zA (cY x)=true:=by
 unfold zA;rw [XT];simp
theorem zAq {n:Nd} {m:Int} (h:aS n=true) (hm:jC m=true):aS ⟨n.k,m,n.t,n.d⟩=true:=by
 rw [zK] at h ⊢;unfold jC at hm;simp only [Bool.and_eq_true,decide_eq_true_eq] at hm;exact ⟨⟨hm.1,hm.2,h.1.2.2⟩,h.2⟩
theorem zAs {n:Nd} {x:Nat} (h:aS n=true):aS ⟨n.k,n.m,cY x,n.d⟩=true:=by
 rw [zK] at h ⊢;exact ⟨⟨h.1.1,h.1.2.1,zAd x⟩,h.2⟩
theorem CY {n:Nd} {d:List UInt8} (h:aS n=true) (hk2:(n.k == 2)=false) (hk3:(n.k == 3)=false) (hd:d.length≤2000):aS ⟨n.k,n.m,n.t,d⟩=true:=by
 rw [zK] at h ⊢;refine ⟨h.1,?_⟩;have h2:=h.2;simp only [hk2,hk3,Bool.false_eq_true,if_false] at h2 ⊢;split
 ·exact decide_eq_true (by omega)
 ·rename_i hk1;rw [if_neg hk1] at h2;cases h2
theorem zE9 {had b:List UInt8} {f:Nat} (h1:had.length≤2000) (h2:f≤had.length) (h3:f+b.length≤2000):(wrD had f b).length≤2000:=by
 unfold wrD;simp only [List.length_append,List.length_take,List.length_drop];omega
def vG (x:List It × Int) (y:List It × An):Prop:=y.2=anE x.2∧(x.2=0→y.1=x.1)
theorem cR {t:List It} {e:Int} (he:e≠0):vG ([],e) (t,anE e):=⟨rfl,fun h=>absurd h he⟩
theorem oV {u:List It}:vG (u,0) (u,anE 0):=⟨rfl,fun _=>rfl⟩
theorem zJ1 {t:List It} {x:List It × Int} {y:List It × An} (h:vG x y):(if x.2 == 0 then (x.1,anE 0) else (t,anE x.2))=(if y.2.e == 0 then y else (t,anE y.2.e)):=by
 obtain ⟨y1,y2⟩:=y;obtain ⟨h1,h2⟩:=h;simp only at h1 h2;subst h1;by_cases h0:x.2=0
 ·have:(x.2 == 0)=true:=by simpa using h0
  rw [h2 h0,h0];rfl
 ·have h3:(x.2 == 0)=false:=by simpa using h0
  have h4:((anE x.2).e == 0)=false:=h3;rw [h3];simp only [h4,Bool.false_eq_true,if_false];rfl
theorem lC {t:List It} {p:List UInt8} {is fo:Bool} (h:jR t fo (p,is,0)):(p=[]→is=true)∧(p≠[]→is=(aQ t p).isSome):=by
 obtain ⟨h1,h2⟩:=h rfl;simp only at h1 h2;constructor
 ·intro hp;cases is
  ·exact absurd hp (h2 rfl).1
  ·rfl
 ·intro hp;cases is
  ·rw [(h2 rfl).2];rfl
  ·rcases h1 rfl with h|⟨n,h,_⟩
   ·exact absurd h hp
   ·rw [h];rfl
theorem pH {t:List It} {p:List UInt8} {is fo:Bool} (h:jR t fo (p,is,0)):VE is (nodeAt t p)=(is && aV t p):=by
 unfold VE nodeAt;by_cases hp:p=[]
 ·subst hp;rfl
 ·have hb:(p == [])=false:=by simpa using hp
  rw [hb,nG hp];simp only [Bool.false_eq_true,if_false];rw [(lC h).2 hp];cases aQ t p <;> rfl
theorem tT {t:List It} {p:List UInt8} (hp:p≠[]):nodeAt t p=(aQ t p).getD nd0:=by
 unfold nodeAt;rw [if_neg (by simpa using hp)]
section kinds
variable {t:List It} {p:List UInt8} {is fo:Bool} {c:Cl}
theorem BQ (h:OkT t) (hw:jR t true (p,true,0)) (hd:aV t p=false):p≠[]∧(aQ t p).isSome=true∧aS ((aQ t p).getD nd0)=true∧(((aQ t p).getD nd0).k == 2)=false∧(((aQ t p).getD nd0).k == 3)=false:=by
 have hp:p≠[]:=by intro hp;subst hp;cases hd
 have hs:(aQ t p).isSome=true:=((lC hw).2 hp).symm;have hr:=h.getok hs;obtain ⟨h1,_⟩:=hw rfl;rcases h1 rfl with h1|⟨n,h1,h2⟩
 ·exact absurd h1 hp
 ·rw [nG hp] at hd;simp only at h1;rw [h1] at hd hr ⊢;exact ⟨hp,rfl,hr.2.2,hd,h2 rfl⟩
theorem GS (h:OkT t) (kind:Int) (hk:(c.k == 7)=(kind == 3)) (hk1:(c.k == 2)=(kind == 1)) (hk2:kind=1∨kind=2∨kind=3):vG (vN t p is kind c) ((xE t c p is).1,anE (xE t c p is).2):=by
 unfold vN xE;cases is
 ·simp only [Bool.false_eq_true,if_false];have hm:(zJT kind c).m=if c.k == 7 then 511 else c.m:=by unfold zJT;rw [hk]
  rw [hm];generalize hmm:(if c.k == 7 then (511:Int) else c.m)=m
  have hM:(decide (m<0) || decide ((4095:Int)<m)) = !jC m:=by
   unfold jC;rw [Bool.not_and,← decide_not,← decide_not]
   congr 1 <;> exact decide_eq_decide.2 (by omega)
  have hT:(decide ((c.d.length:Int)<1) || decide ((120:Int)<c.d.length) || !(c.d.all fun b=>!(b == 0))) = !jK c.d:=by
   unfold jK;rw [Bool.not_and,Bool.not_and,← decide_not,← decide_not,Bool.or_comm];have e:(c.d.all fun b=>!(b == 0))=(c.d.all fun b=>!((b.toNat:Int) == 0)):=by
    congr 1;funext b
    congr 1
    rw [Bool.eq_iff_iff,beq_iff_eq,beq_iff_eq];constructor
    ·rintro rfl;rfl
    ·intro h;exact UInt8.toNat_inj.1 (by have:(0:UInt8).toNat=0:=rfl;omega)
   rw [e]
   congr 1
   congr 1 <;> exact decide_eq_decide.2 (by omega)
  rw [hT,hM,hk,hk1];cases jC m
  ·simp only [Bool.not_false,Bool.true_or,if_true];exact cR (by decide)
  ·simp only [Bool.not_true,Bool.false_or,Bool.false_eq_true,if_false];split
   ·exact cR (by decide)
   ·split
    ·exact cR (by decide)
    ·have e:zJT kind c=⟨if kind == 1 then 1 else if kind == 3 then 3 else 2,m,cY c.t,if kind == 1 || kind == 3 then c.d else []⟩:=by
      unfold zJT;rw [← hmm,hk];rcases hk2 with rfl|rfl|rfl <;> rfl
     rw [e];refine ⟨rfl,fun _=>rfl⟩
 ·simp only [if_true];exact cR (by decide)
theorem zEf (h:OkT t) (hw:jR t true (p,is,0)) (hk:c.k=3):vG (bY t p is (nodeAt t p) c) (qH t c p is):=by
 have hd:=pH hw;simp only [bY,qH,pL,hk,hd,Int.reduceBEq,Bool.or_self,Bool.false_and,Bool.false_eq_true,if_false,if_true];cases is
 ·exact cR (e:=6) (by decide)
 ·cases hdp:aV t p
  ·obtain ⟨hp,hs,hr,hk2,hk3⟩:=BQ h hw hdp;rw [tT hp];generalize (aQ t p).getD nd0=n at *;have hl:=gR hr;simp only [AM,Bool.not_true,Bool.true_and,Bool.false_eq_true,if_false,beq_self_eq_true];split
   ·exact cR (by decide)
   ·split
    ·exact cR (by decide)
    ·rename_i h1 h2;simp only [Bool.or_eq_true,decide_eq_true_eq,not_or] at h1 h2;rw [GN h hs (CY hr hk2 hk3 (zE9 hl (by omega) (by omega))) fun _=>hdp];exact oV
  ·exact cR (by decide)
theorem zEd (h:OkT t) (hw:jR t true (p,is,0)) (hk:c.k=4):vG (bY t p is (nodeAt t p) c) (qH t c p is):=by
 have hd:=pH hw;simp only [bY,qH,pL,hk,hd,Int.reduceBEq,Bool.or_self,Bool.false_and,Bool.false_eq_true,if_false,if_true];cases is
 ·exact cR (e:=6) (by decide)
 ·cases hdp:aV t p
  ·obtain ⟨hp,hs,hr,hk2,hk3⟩:=BQ h hw hdp;rw [tT hp];generalize (aQ t p).getD nd0=n at *;have hl:=gR hr;simp only [AG,Bool.not_true,Bool.true_and,Bool.false_eq_true,if_false,beq_self_eq_true];split
   ·exact cR (by decide)
   ·have hle:(n.d.take c.n.toNat).length≤n.d.length:=List.length_take_le' ..;rw [GN h hs (CY hr hk2 hk3 (by omega)) fun _=>hdp];exact oV
  ·exact cR (by decide)
theorem zAl (hw:jR t fo (p,is,0)) (hk:c.k=5):vG (bY t p is (nodeAt t p) c) (qH t c p is):=by
 have hd:=pH hw;simp only [bY,qH,pL,hk,hd,Int.reduceBEq,Bool.or_self,Bool.false_and,Bool.false_eq_true,if_false,if_true];cases is
 ·exact cR (e:=6) (by decide)
 ·cases aV t p
  ·exact oV
  ·exact cR (by decide)
theorem zEc (hw:jR t fo (p,is,0)) (hk:c.k=6):vG (bY t p is (nodeAt t p) c) (qH t c p is):=by
 have hd:=pH hw;simp only [bY,qH,zL,hk,hd,Int.reduceBEq,Bool.or_self,Bool.true_and,Bool.false_eq_true,if_false,if_true];cases p == []
 ·cases is
  ·exact cR (by decide)
  ·cases aV t p
   ·exact cR (by decide)
   ·simp only [Bool.not_true,Bool.and_self,Bool.false_eq_true,if_false];split
    ·exact cR (by decide)
    ·exact oV
 ·exact cR (by decide)
theorem zEb (h:OkT t) (hw:jR t fo (p,is,0)) (hk:c.k=10):vG (bY t p is (nodeAt t p) c) (qH t c p is):=by
 simp only [bY,qH,zIx,hk,Int.reduceBEq,Bool.or_self,Bool.or_false,Bool.true_and,Bool.false_and,Bool.false_eq_true,if_false,if_true];cases is
 ·exact cR (by decide)
 ·have hM:(p == [] || !jC c.m)=(p == [] || decide (c.m<0) || decide (4095<c.m)):=by
   unfold jC;rw [Bool.not_and,← decide_not,← decide_not,Bool.or_assoc]
   congr 2 <;> exact decide_eq_decide.2 (by omega)
  rw [← hM];simp only [Bool.not_true,Bool.false_eq_true,if_false];split
  ·exact cR (by decide)
  ·rename_i h1;simp only [Bool.or_eq_true,not_or,Bool.not_eq_true',Bool.not_eq_false,beq_iff_eq] at h1;have hs:(aQ t p).isSome=true:=((lC hw).2 h1.1).symm;rw [tT h1.1,GN h hs (zAq (h.getok hs).2.2 h1.2) fun hk2=>?_]
   ·exact oV
   ·rw [nG h1.1];obtain ⟨m,hm⟩:=Option.isSome_iff_exists.1 hs;rw [hm] at hk2 ⊢;exact hk2
theorem zEe (h:OkT t) (hw:jR t fo (p,is,0)) (hk:c.k=11):vG (bY t p is (nodeAt t p) c) (qH t c p is):=by
 simp only [bY,qH,zIx,hk,Int.reduceBEq,Bool.or_self,Bool.or_false,Bool.or_true,Bool.false_and,Bool.false_eq_true,if_false,if_true];cases is
 ·exact cR (by decide)
 ·simp only [Bool.not_true,Bool.false_eq_true,if_false];split
  ·exact cR (by decide)
  ·rename_i h1;simp only [beq_iff_eq] at h1;have hs:(aQ t p).isSome=true:=((lC hw).2 h1).symm;rw [tT h1,GN h hs (zAs (h.getok hs).2.2) fun hk2=>?_]
   ·exact oV
   ·rw [nG h1];obtain ⟨m,hm⟩:=Option.isSome_iff_exists.1 hs;rw [hm] at hk2 ⊢;exact hk2
theorem zAk (h:OkT t) (hw:jR t fo (p,is,0)) (hk:c.k=9):vG (bY t p is (nodeAt t p) c) (qH t c p is):=by
 have hd:=pH hw;have hw2:=AJ h c.to' false;simp only [bY,qH,qD,SE,hk,hd,Int.reduceBEq,Bool.or_self,Bool.false_and,Bool.false_eq_true,if_false,if_true];cases is
 ·exact cR (by decide)
 ·generalize cF t c.to' false=r at *;obtain ⟨q,is2,e⟩:=r;simp only [Bool.not_true,Bool.true_and,Bool.false_eq_true,if_false];by_cases he:e=0
  ·subst he;simp only [beq_self_eq_true,Bool.not_true,Bool.false_eq_true,if_false];cases hpq:(p == [] || q == [])
   ·simp only [Bool.or_eq_false_iff] at hpq;have hq:q≠[]:=by intro hq;rw [hq] at hpq;cases hpq.2
    simp only [Bool.false_eq_true,if_false];split
    ·exact ⟨rfl,fun _=>rfl⟩
    ·split
     ·exact cR (by decide)
     ·have hi2:=(lC hw2).2 hq;cases is2
      ·have:aQ t q=none:=by
        cases hg:aQ t q
        ·rfl
        ·rw [hg] at hi2;cases hi2
       rw [zEg h hq this];exact ⟨rfl,fun _=>rfl⟩
      ·simp only [ZY,pH hw2,Bool.not_true,Bool.true_and,Bool.false_eq_true,if_false,if_true];cases aV t p <;> cases aV t q <;> simp only [Bool.not_true,Bool.not_false,Bool.true_and,Bool.false_and,Bool.false_eq_true,if_false,if_true,beq_self_eq_true,Int.reduceBEq]
       ·exact ⟨rfl,fun _=>rfl⟩
       ·exact cR (by decide)
       ·exact cR (by decide)
       ·cases decide ((0:Int)<(fR t q).length)
        ·exact ⟨rfl,fun _=>rfl⟩
        ·exact cR (by decide)
   ·exact cR (by decide)
  ·have:(e == 0)=false:=by simpa using he
   rw [this];exact cR he
end kinds
theorem zGA {t:List It} (h:OkT t):aQ t []=none:=by
 cases hg:aQ t []
 ·rfl
 ·exact absurd rfl (h.getok (p:=[]) (by rw [hg];rfl)).1
theorem zBP {t:List It} (h:OkT t) {p:List UInt8} {is:Bool} {fo:Bool} {c:Cl} (hw:jR t fo (p,is,0)) (hk:c.k=8∨c.k=12∨c.k=13∨c.k=14∨c.k=15):qH t c p is=(t,gJ t p is (nodeAt t p) c):=by
 have hd:=pH hw;cases is
 ·rcases hk with hk|hk|hk|hk|hk <;> simp only [qH,gJ,rW,pL,hd,hk,Int.reduceBEq,Bool.or_self,Bool.false_or,Bool.or_false,Bool.false_and,Bool.not_false,Bool.false_eq_true,if_false,if_true] <;> rfl
 ·have key:(nodeAt t p).k=3∨(aV t p=false)→nodeAt t p=(aQ t p).getD nd0:=by
   intro h1;refine tT fun hp=>?_;subst hp;rcases h1 with h1|h1 <;> cases h1
  rcases hk with hk|hk|hk|hk|hk <;> simp only [qH,gJ,rW,pL,hd,hk,Int.reduceBEq,Bool.or_self,Bool.or_false,Bool.or_true,Bool.true_and,Bool.false_and,Bool.not_true,Bool.false_eq_true,if_false,if_true]
  ·by_cases hp:p=[]
   ·subst hp;rw [zGA h];rfl
   ·rw [tT hp];split <;> rfl
  ·cases hdp:aV t p
   ·rw [key (.inr hdp)];simp only [Bool.false_eq_true,if_false,beq_self_eq_true,Bool.not_true];split <;> rfl
   ·rfl
  ·split <;> rfl
theorem zA7 {t:List It} {p:List UInt8} {is:Bool} {n:Nd} {c:Cl} (h:(gJ t p is n c).e≠0):gJ t p is n c=anE (gJ t p is n c).e:=by
 unfold gJ rW at h ⊢
 repeat' split at h
 all_goals first|exact absurd rfl h|(simp only [*,if_true,if_false,Bool.false_eq_true];rfl)
theorem zMK {t:List It} (h:OkT t) (c:Cl):doP t c=doR t c:=by
 unfold doP doR;cases hr:(decide (c.k<1) || decide (15<c.k))
 ·simp only [Bool.or_eq_false_iff,decide_eq_false_iff_not] at hr;simp only [Bool.false_eq_true,if_false];have hw:=AJ h c.p (fW c.k);generalize cF t c.p (fW c.k)=r at *;obtain ⟨p,is,e⟩:=r;simp only;by_cases he:e=0
  ·subst he;simp only [beq_self_eq_true,Bool.not_true,Bool.false_eq_true,if_false];have hc:c.k=1∨c.k=2∨c.k=3∨c.k=4∨c.k=5∨c.k=6∨c.k=7∨c.k=9∨c.k=10∨c.k=11∨c.k=8∨c.k=12∨c.k=13∨c.k=14∨c.k=15:=by omega
   have asks:(c.k=8∨c.k=12∨c.k=13∨c.k=14∨c.k=15)→(if (!fI c.k)=true then (t,gJ t p is (nodeAt t p) c) else if ((bY t p is (nodeAt t p) c).2 == 0)=true then ((bY t p is (nodeAt t p) c).1,anE 0) else (t,anE (bY t p is (nodeAt t p) c).2))=if ((qH t c p is).2.e == 0)=true then qH t c p is else (t,anE (qH t c p is).2.e):=by
    intro hk;have ht:fI c.k=false:=by rcases hk with hk|hk|hk|hk|hk <;> rw [hk] <;> rfl
    rw [ht,zBP h hw hk];simp only [Bool.not_false,if_true];split
    ·rfl
    ·rename_i h0;rw [← zA7 (by simpa using h0)]
   have turns:fI c.k=true→vG (bY t p is (nodeAt t p) c) (qH t c p is)→(if (!fI c.k)=true then (t,gJ t p is (nodeAt t p) c) else if ((bY t p is (nodeAt t p) c).2 == 0)=true then ((bY t p is (nodeAt t p) c).1,anE 0) else (t,anE (bY t p is (nodeAt t p) c).2))=if ((qH t c p is).2.e == 0)=true then qH t c p is else (t,anE (qH t c p is).2.e):=by
    intro ht hrel;rw [ht];simp only [Bool.not_true,Bool.false_eq_true,if_false];exact zJ1 hrel
   rcases hc with hk|hk|hk|hk|hk|hk|hk|hk|hk|hk|hk
   ·refine turns (by rw [hk];rfl) ?_;have:=GS (p:=p) (is:=is) (c:=c) h 2 (by rw [hk];rfl) (by rw [hk];rfl) (by simp);simpa only [bY,qH,hk,Int.reduceBEq,Bool.true_or,Bool.or_self,Bool.false_eq_true,if_true] using this
   ·refine turns (by rw [hk];rfl) ?_;have:=GS (p:=p) (is:=is) (c:=c) h 1 (by rw [hk];rfl) (by rw [hk];rfl) (by simp);simpa only [bY,qH,hk,Int.reduceBEq,Bool.true_or,Bool.or_true,Bool.or_self,Bool.false_eq_true,if_true,if_false] using this
   ·exact turns (by rw [hk];rfl) (zEf h (by rw [hk] at hw;exact hw) hk)
   ·exact turns (by rw [hk];rfl) (zEd h (by rw [hk] at hw;exact hw) hk)
   ·exact turns (by rw [hk];rfl) (zAl hw hk)
   ·exact turns (by rw [hk];rfl) (zEc hw hk)
   ·refine turns (by rw [hk];rfl) ?_;have:=GS (p:=p) (is:=is) (c:=c) h 3 (by rw [hk];rfl) (by rw [hk];rfl) (by simp);simpa only [bY,qH,hk,Int.reduceBEq,Bool.true_or,Bool.or_true,Bool.or_self,Bool.false_eq_true,if_true,if_false] using this
   ·exact turns (by rw [hk];rfl) (zAk h hw hk)
   ·exact turns (by rw [hk];rfl) (zEb h hw hk)
   ·exact turns (by rw [hk];rfl) (zEe h hw hk)
   ·exact asks hk
  ·have:(e == 0)=false:=by simpa using he
   rw [this];rfl
 ·rfl
end Go.Dm
end
section
namespace Go.Dm
open Go
abbrev HQ (N:List Nm):Prop:=N.Pairwise fun x y=>bL x.n y.n=true
def pU (N:List Nm) (s:List UInt8):Nat:=(N.takeWhile fun x=>bL x.n s).length
def WB (N:List Nm) (s:List UInt8):Bool:=N.any fun x=>x.n == s
def GD (N:List Nm) (s:List UInt8):Option Nm:=N.find? fun x=>x.n == s
def cE (N:List Nm) (s:List UInt8) (id:Int):List Nm:=(N.takeWhile fun x=>bL x.n s)++⟨s,id⟩::(N.dropWhile fun x=>bL x.n s).filter fun x=>!(x.n == s)
theorem iH {N:List Nm} {s:List UInt8} {x:Nm} (h:GD N s=some x):x∈N∧x.n=s:=⟨List.mem_of_find?_eq_some h,eq_of_beq (List.find?_some (p:=fun z:Nm=>z.n == s) h)⟩
theorem RT (N:List Nm) (s:List UInt8):(GD N s).isSome=WB N s:=by
 unfold GD WB
 induction N with
 | nil=>rfl
 | cons x N ih =>
  rw [List.find?_cons,List.any_cons];cases x.n == s
  ·simpa using ih
  ·rfl
theorem XE {N:List Nm} {s:List UInt8}:∀ x∈N.takeWhile (fun x=>bL x.n s),bL x.n s=true∧x∈N:=by
 induction N with
 | nil=>intro x hx;cases hx
 | cons y N ih =>
  intro x hx;rw [List.takeWhile_cons] at hx;split at hx
  ·rename_i hy;rcases List.mem_cons.1 hx with rfl|hx
   ·exact ⟨hy,List.mem_cons_self⟩
   ·exact ⟨(ih x hx).1,List.mem_cons_of_mem _ (ih x hx).2⟩
  ·cases hx
theorem VF {N:List Nm} {s:List UInt8} (h:HQ N):∀ x∈N.dropWhile (fun x=>bL x.n s),bL x.n s=false∧x∈N:=by
 induction N with
 | nil=>intro x hx;cases hx
 | cons y N ih =>
  have h2:=List.pairwise_cons.1 h;intro x hx;rw [List.dropWhile_cons] at hx;split at hx
  ·exact ⟨(ih h2.2 x hx).1,List.mem_cons_of_mem _ (ih h2.2 x hx).2⟩
  ·rename_i hy;have hy:bL y.n s=false:=by simpa using hy
   rcases List.mem_cons.1 hx with e|hx'
   ·exact ⟨e▸hy,e▸List.mem_cons_self⟩
   ·refine ⟨?_,List.mem_cons_of_mem _ hx'⟩;cases hb:bL x.n s with
    | false=>rfl
    | true=>rw [cC (h2.1 x hx') hb] at hy;cases hy
theorem wV {N:List Nm} (h:HQ N) {s:List UInt8} {id:Int} {x:Nm}:x∈cE N s id↔x=⟨s,id⟩∨(x∈N∧x.n≠s):=by
 unfold cE;have hsp:N=N.takeWhile (fun x=>bL x.n s)++N.dropWhile (fun x=>bL x.n s):=(List.takeWhile_append_dropWhile).symm;rw [List.mem_append,List.mem_cons,List.mem_filter];constructor
 ·rintro (h1|rfl|⟨h1,h2⟩)
  ·obtain ⟨h3,h4⟩:=XE x h1;refine .inr ⟨h4,fun e=>?_⟩;rw [e,cM] at h3;cases h3
  ·exact .inl rfl
  ·exact .inr ⟨(VF h x h1).2,by simpa using h2⟩
 ·rintro (rfl|⟨h1,h2⟩)
  ·exact .inr (.inl rfl)
  ·rw [hsp] at h1;rcases List.mem_append.1 h1 with h3|h3
   ·exact .inl h3
   ·exact .inr (.inr ⟨h3,by simpa using h2⟩)
theorem mT {N:List Nm} (h:HQ N) (s:List UInt8) (id:Int):HQ (cE N s id):=by
 unfold cE;refine List.pairwise_append.2 ⟨List.Pairwise.sublist (List.takeWhile_sublist _) h,List.pairwise_cons.2 ⟨fun x hx=>?_,(List.Pairwise.sublist (List.dropWhile_sublist _) h).filter _⟩,fun x hx y hy=>?_⟩
 ·obtain ⟨h1,h2⟩:=List.mem_filter.1 hx;have h3:=(VF h x h1).1;cases hb:bL s x.n with
  | true=>rfl
  | false=>have:=dV hb h3;simp [this] at h2
 ·have h1:=(XE x hx).1;rcases List.mem_cons.1 hy with rfl|hy
  ·exact h1
  ·obtain ⟨h2,_⟩:=List.mem_filter.1 hy;have h3:=(VF h y h2).1;have h4:=(XE x hx).2;cases hb:bL s y.n with
   | true=>exact cC h1 hb
   | false=>have:=dV hb h3;rw [← this];exact h1
theorem qS (N:List Nm) (s:List UInt8) (id:Int):(cE N s id).length≤N.length+1:=by
 unfold cE;have h1:=List.length_filter_le (fun x:Nm=>!(x.n == s)) (N.dropWhile fun x=>bL x.n s);have h2:N.length=(N.takeWhile fun x=>bL x.n s).length+(N.dropWhile fun x=>bL x.n s).length:=by
  rw [← List.length_append,List.takeWhile_append_dropWhile]
 rw [List.length_append,List.length_cons];omega
theorem zDH (N:List Nm) (s:List UInt8):pU N s≤N.length:=List.Sublist.length_le (List.takeWhile_sublist _)
theorem zIC (N:List Nm) (s:List UInt8):N.take (pU N s)=N.takeWhile fun x=>bL x.n s:=by
 unfold pU
 induction N with
 | nil=>rfl
 | cons x N ih =>
  rw [List.takeWhile_cons];split
  ·simp only [List.length_cons,List.take_succ_cons,ih]
  ·rfl
theorem zBY (N:List Nm) (s:List UInt8):N.drop (pU N s)=N.dropWhile fun x=>bL x.n s:=by
 unfold pU
 induction N with
 | nil=>rfl
 | cons x N ih =>
  rw [List.takeWhile_cons,List.dropWhile_cons];split
  ·simp only [List.length_cons,List.drop_succ_cons,ih]
  ·rfl
theorem KK {l:List Nm} {s:List UInt8} (h:∀ x∈l,(x.n == s)=false):(l.filter fun x=>!(x.n == s))=l:=List.filter_eq_self.2 fun x hx=>by rw [h x hx];rfl
theorem zMU {l:List Nm} {y:Nm} {s:List UInt8} (h:∀ x∈l,bL y.n x.n=true) (e:y.n=s):∀ x∈l,(x.n == s)=false:=fun x hx=>by
 have:=h x hx;rw [e] at this;rw [Bool.eq_false_iff];intro h2;rw [eq_of_beq h2,cM] at this;cases this
theorem zM3 {N:List Nm} {s:List UInt8}:∀ x∈N.takeWhile (fun x=>bL x.n s),(x.n == s)=false:=fun x hx=>jT (XE x hx).1
theorem RS {N:List Nm} (h:HQ N) {x:Nm} (hx:x∈N):N[pU N x.n]? = some x:=by
 have h1:x∈N.dropWhile (fun y=>bL y.n x.n):=by
  have hsp:N=N.takeWhile (fun y=>bL y.n x.n)++N.dropWhile (fun y=>bL y.n x.n):=(List.takeWhile_append_dropWhile).symm;rw [hsp] at hx;rcases List.mem_append.1 hx with h2|h2
  ·have:=zM3 x h2;simp at this
  ·exact h2
 have h2:(N.drop (pU N x.n))[0]? = some x:=by
  rw [zBY];cases hd:N.dropWhile (fun y=>bL y.n x.n) with
  | nil=>rw [hd] at h1;cases h1
  | cons y r =>
   have hs:HQ (y::r):=by rw [← hd];exact List.Pairwise.sublist (List.dropWhile_sublist _) h
   have hy:=(VF h y (by rw [hd];exact List.mem_cons_self)).1;rw [hd] at h1;rcases List.mem_cons.1 h1 with e|h3
   ·rw [e];rfl
   ·have:=(List.pairwise_cons.1 hs).1 x h3;rw [this] at hy;cases hy
 rw [List.getElem?_drop] at h2;simpa using h2
theorem wW {N:List Nm} (h:HQ N) {x:Nm} (hx:x∈N) (id:Int):cE N x.n id=N.set (pU N x.n) ⟨x.n,id⟩:=by
 have h1:=RS h hx;have hlt:=(List.getElem?_eq_some_iff.1 h1).1;rw [List.set_eq_take_append_cons_drop,if_pos hlt];unfold cE;rw [← zIC,← zBY];have hd:N.drop (pU N x.n)=x::N.drop (pU N x.n+1):=by
  rw [List.drop_eq_getElem_cons hlt];rw [List.getElem?_eq_getElem hlt,Option.some.injEq] at h1;rw [h1]
 have hs:HQ (N.drop (pU N x.n)):=List.Pairwise.sublist (List.drop_sublist _ _) h;rw [hd] at hs ⊢;rw [List.filter_cons,if_neg (by simp),KK (zMU (List.pairwise_cons.1 hs).1 rfl)]
theorem HY {N:List Nm} {s:List UInt8} (hx:WB N s=false) (id:Int):cE N s id=N.take (pU N s)++⟨s,id⟩::N.drop (pU N s):=by
 unfold cE;rw [zIC,zBY,KK fun y hy=>?_];unfold WB at hx;rw [List.any_eq_false] at hx;have:=hx y (List.Sublist.subset (List.dropWhile_sublist _) hy);simpa using this
structure Dr where
 L:List (Ly × List It)
 N:List Nm
 x:Int
def Dr.G (d:Dr):List Ly:=d.L.map (·.1)
def tO (d:Dr) (id:Int):Option (Ly × List It):=d.L.find? fun y=>y.1.i == id
def dE (d:Dr) (id:Int):List It:=match tO d id with
 | some y=>y.2
 | none=>[]
def gH (N:List Nm) (s:List UInt8):Int:=match GD N s with
 | some x=>x.l
 | none=>0
def pM (d:Dr) (id:Int):Bool:=match tO d id with
 | some y=>y.1.f
 | none=>false
def AK (id:Int) (t:List It):List (Ly × List It)→List (Ly × List It)
 | []=>[]
 | y::l=>if y.1.i == id then (y.1,t)::l else y::AK id t l
def mC (d:Dr) (id:Int) (t:List It):Dr:=⟨AK id t d.L,d.N,d.x⟩
def xX (id:Int):List (Ly × List It)→List (Ly × List It)
 | []=>[]
 | y::l=>if y.1.i == id then (⟨y.1.i,y.1.p,y.1.s,true⟩,y.2)::l else y::xX id l
def xV (d:Dr) (s:List UInt8):Int:=if !aW s then 1 else if !(gH d.N s == 0) then 7 else if decide (20≤(d.N.length:Int)) || (decide (40≤(d.L.length:Int)) || decide (2147483647≤d.x)) then 16 else 0
def YJ (d:Dr) (on:Int):Bool:=decide (12<(((bQ d.G on).length:Int)+1))
def zDf (d:Dr):List (Ly × List It):=(iU d.G (d.N.map (·.l))).filterMap fun y=>tO d y.i
def yG (d:Dr):Dr:=⟨zDf d,d.N,d.x⟩
def zGD (d:Dr) (s:List UInt8) (p q:Int) (t:List It):Dr:=yG ⟨d.L++[(⟨d.x,p,q,false⟩,t)],cE d.N s d.x,d.x+1⟩
def doD (d:Dr) (s:List UInt8) (c:Cl):Dr × An :=
 if gH d.N s == 0 then (d,anE 6) else if pM d (gH d.N s) && fI c.k then (d,anE 14)
 else if !((doR (dE d (gH d.N s)) c).2.e == 0) then (d,(doR (dE d (gH d.N s)) c).2) else (mC d (gH d.N s) (doR (dE d (gH d.N s)) c).1,(doR (dE d (gH d.N s)) c).2)
def kG (d:Dr) (s sn:List UInt8):Dr × Int :=
 if gH d.N s == 0 then (d,6) else if pM d (gH d.N s) then (d,14) else if !(xV d sn == 0) then (d,xV d sn) else if YJ d (gH d.N s) then (d,15)
 else (zGD ⟨xX (gH d.N s) d.L,cE d.N sn (gH d.N s),d.x⟩ s (gH d.N s) 0 (dE d (gH d.N s)),0)
def PI:Dr:=⟨[(⟨1,0,0,true⟩,[]),(⟨2,1,0,false⟩,[])],[⟨[109,97,105,110],2⟩],3⟩
theorem lQ {d:Dr} {id:Int} {y:Ly × List It} (h:tO d id=some y):y∈d.L∧y.1.i=id:=⟨List.mem_of_find?_eq_some h,eq_of_beq (List.find?_some (p:=fun z:Ly × List It=>z.1.i == id) h)⟩
theorem FR {d:Dr} {id:Int} (h:tO d id=none):∀ y∈d.L,y.1.i≠id:=fun y hy e=>by
 have:=List.find?_eq_none.1 h y hy;simp [e] at this
theorem nK {d:Dr} (hi:oE d.G) {y:Ly × List It} (hy:y∈d.L):tO d y.1.i=some y:=by
 have key:∀ {l:List (Ly × List It)},oE (l.map (·.1))→y∈l→l.find? (fun z=>z.1.i == y.1.i)=some y:=by
  intro l
  induction l with
  | nil=>intro _ h;cases h
  | cons z l ih =>
   intro hp hm;have h2:=List.pairwise_cons.1 hp;rw [List.find?_cons];rcases List.mem_cons.1 hm with rfl|hm
   ·rw [show (y.1.i == y.1.i)=true by simp]
   ·have:z.1.i<y.1.i:=h2.1 y.1 (List.mem_map.2 ⟨y,hm,rfl⟩);rw [show (z.1.i == y.1.i)=false by simp;omega]
    exact ih h2.2 hm
 exact key hi hy
theorem zIh (d:Dr) (id:Int):eF d.G id=(tO d id).map (·.1):=by
 unfold eF tO Dr.G
 induction d.L with
 | nil=>rfl
 | cons y l ih =>
  rw [List.map_cons,List.find?_cons,List.find?_cons];cases y.1.i == id
  ·exact ih
  ·rfl
attribute [go_sem] fC
end Go.Dm
end
