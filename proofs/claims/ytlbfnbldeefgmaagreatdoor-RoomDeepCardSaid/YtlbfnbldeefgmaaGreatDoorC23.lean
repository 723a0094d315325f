/- Part 24 of the proof of roomDeep_card, set without needless blanks. No condition. -/
import Derived.Test.YtlbfnbldeefgmaaGreatDoorC12
import Derived.Test.YtlbfnbldeefgmaaGreatDoorC15
set_option linter.all false
section
namespace Go.Dm
open Go
theorem JB (p:List UInt8) (n:Nd):∀ (t:List It) (d:Bool),(xM p n d t).length=(nW t p).length+(if d then 0 else 1)
 | [],d=>by cases d <;> rfl
 | x::r,d=>by
  have h:=JB p n r (d || !bZ x.p p);simp only [xM,nW,List.length_append,List.filter_cons] at h ⊢;cases d <;> cases hb:bZ x.p p <;> cases hp:x.p == p <;> simp [hb] at h ⊢ <;> omega
theorem zGp {t:List It} {p:List UInt8} (h:(aW t p).isSome=true):(nW t p).length<t.length:=by
 induction t with
 | nil=>cases h
 | cons x r ih =>
  rw [aW] at h;simp only [nW,List.filter_cons];split at h
  ·rename_i hp;rw [hp];exact Nat.lt_succ_of_le (List.length_filter_le ..)
  ·rename_i hp;have hp:(x.p == p)=false:=by simpa using hp
   rw [hp];simp only [Bool.not_false,if_true,List.length_cons];exact Nat.succ_lt_succ (ih h)
theorem CS {t:List It} (h:OkT t) {p:List UInt8} {n:Nd} (hs:(aW t p).isSome=true) (hn:aV n=true) (hk:(n.k == 2)=false→aU t p=false):sL t p n=(sZ t p n,0):=by
 obtain ⟨h1,h2,_⟩:=h.getok hs;obtain ⟨m,hm⟩:=Option.isSome_iff_exists.1 hs;have h3:aU t (aP p)=true:=FA h (.inr ⟨m,hm⟩);have h4:(if n.k != 2 then bS t p else t)=t:=by
  split
  ·rename_i hne;exact yY h h1 (hk (by simpa using hne))
  ·rfl
 have h5:(sZ t p n).length≤120:=by
  have e:=JB p n t false;have l:=zGp hs;have:=h.len;unfold sZ;rw [e];simp only [Bool.false_eq_true,if_false];omega
 have hb:(p == [])=false:=by simpa using h1
 unfold sL;rw [h4,hb,h2,hn,h3,decide_eq_false (by omega)];rfl
theorem wQ {n:Nd}:aV n=true↔(0≤n.m∧n.m≤4095∧zI n.t=true)∧(if n.k == 1 then decide ((n.d.length:Int)≤2000) else if n.k == 2 then (n.d.length:Int) == 0 else if n.k == 3 then mQ n.d else false)=true:=by
 unfold aV;rw [Bool.and_eq_true];refine and_congr ?_ Iff.rfl;simp only [Bool.not_eq_true',Bool.or_eq_false_iff,decide_eq_false_iff_not,Bool.not_eq_false'];constructor
 ·rintro ⟨⟨a,b⟩,c⟩;exact ⟨by omega,by omega,c⟩
 ·rintro ⟨a,b,c⟩;exact ⟨⟨by omega,by omega⟩,c⟩
theorem TG (x:Nat):zI (cW x)=true:=by
 unfold zI;rw [QN];simp
theorem TS {n:Nd} {m:Int} (h:aV n=true) (hm:iN m=true):aV ⟨n.k,m,n.t,n.d⟩=true:=by
 rw [wQ] at h ⊢;unfold iN at hm;simp only [Bool.and_eq_true,decide_eq_true_eq] at hm;exact ⟨⟨hm.1,hm.2,h.1.2.2⟩,h.2⟩
theorem TV {n:Nd} {x:Nat} (h:aV n=true):aV ⟨n.k,n.m,cW x,n.d⟩=true:=by
 rw [wQ] at h ⊢;exact ⟨⟨h.1.1,h.1.2.1,TG x⟩,h.2⟩
theorem zS {n:Nd} {d:List UInt8} (h:aV n=true) (hk2:(n.k == 2)=false) (hk3:(n.k == 3)=false) (hd:d.length≤2000):aV ⟨n.k,n.m,n.t,d⟩=true:=by
 rw [wQ] at h ⊢;refine ⟨h.1,?_⟩;have h2:=h.2;simp only [hk2,hk3,Bool.false_eq_true,if_false] at h2 ⊢;split
 ·exact decide_eq_true (by omega)
 ·rename_i hk1;rw [if_neg hk1] at h2;cases h2
theorem zCu {had b:List UInt8} {f:Nat} (h1:had.length≤2000) (h2:f≤had.length) (h3:f+b.length≤2000):(wrD had f b).length≤2000:=by
 unfold wrD;simp only [List.length_append,List.length_take,List.length_drop];omega
def sQ (x:List It × Int) (y:List It × An):Prop:=y.2=anE x.2∧(x.2=0→y.1=x.1)
theorem cK {t:List It} {e:Int} (he:e≠0):sQ ([],e) (t,anE e):=⟨rfl,fun h=>absurd h he⟩
theorem nK {u:List It}:sQ (u,0) (u,anE 0):=⟨rfl,fun _=>rfl⟩
theorem zHa {t:List It} {x:List It × Int} {y:List It × An} (h:sQ x y):(if x.2 == 0 then (x.1,anE 0) else (t,anE x.2))=(if y.2.e == 0 then y else (t,anE y.2.e)):=by
 obtain ⟨y1,y2⟩:=y;obtain ⟨h1,h2⟩:=h;simp only at h1 h2;subst h1;by_cases h0:x.2=0
 ·have:(x.2 == 0)=true:=by simpa using h0
  rw [h2 h0,h0];rfl
 ·have h3:(x.2 == 0)=false:=by simpa using h0
  have h4:((anE x.2).e == 0)=false:=h3;rw [h3];simp only [h4,Bool.false_eq_true,if_false];rfl
theorem jX {t:List It} {p:List UInt8} {is fo:Bool} (h:iZ t fo (p,is,0)):(p=[]→is=true)∧(p≠[]→is=(aW t p).isSome):=by
 obtain ⟨h1,h2⟩:=h rfl;simp only at h1 h2;constructor
 ·intro hp;cases is
  ·exact absurd hp (h2 rfl).1
  ·rfl
 ·intro hp;cases is
  ·rw [(h2 rfl).2];rfl
  ·rcases h1 rfl with h|⟨n,h,_⟩
   ·exact absurd h hp
   ·rw [h];rfl
theorem nV {t:List It} {p:List UInt8} {is fo:Bool} (h:iZ t fo (p,is,0)):NT is (nodeAt t p)=(is && aU t p):=by
 unfold NT nodeAt;by_cases hp:p=[]
 ·subst hp;rfl
 ·have hb:(p == [])=false:=by simpa using hp
  rw [hb,lY hp];simp only [Bool.false_eq_true,if_false];rw [(jX h).2 hp];cases aW t p <;> rfl
theorem rL {t:List It} {p:List UInt8} (hp:p≠[]):nodeAt t p=(aW t p).getD nd0:=by
 unfold nodeAt;rw [if_neg (by simpa using hp)]
section kinds
variable {t:List It} {p:List UInt8} {is fo:Bool} {c:Cl}
theorem yL (h:OkT t) (hw:iZ t true (p,true,0)) (hd:aU t p=false):p≠[]∧(aW t p).isSome=true∧aV ((aW t p).getD nd0)=true∧(((aW t p).getD nd0).k == 2)=false∧(((aW t p).getD nd0).k == 3)=false:=by
 have hp:p≠[]:=by intro hp;subst hp;cases hd
 have hs:(aW t p).isSome=true:=((jX hw).2 hp).symm;have hr:=h.getok hs;obtain ⟨h1,_⟩:=hw rfl;rcases h1 rfl with h1|⟨n,h1,h2⟩
 ·exact absurd h1 hp
 ·rw [lY hp] at hd;simp only at h1;rw [h1] at hd hr ⊢;exact ⟨hp,rfl,hr.2.2,hd,h2 rfl⟩
theorem CX (h:OkT t) (kind:Int) (hk:(c.k == 7)=(kind == 3)) (hk1:(c.k == 2)=(kind == 1)) (hk2:kind=1∨kind=2∨kind=3):sQ (sX t p is kind c) ((uI t c p is).1,anE (uI t c p is).2):=by
 unfold sX uI;cases is
 ·simp only [Bool.false_eq_true,if_false];have hm:(zG2 kind c).m=if c.k == 7 then 511 else c.m:=by unfold zG2;rw [hk]
  rw [hm];generalize hmm:(if c.k == 7 then (511:Int) else c.m)=m
  have hM:(decide (m<0) || decide ((4095:Int)<m)) = !iN m:=by
   unfold iN;rw [Bool.not_and,← decide_not,← decide_not]
   congr 1 <;> exact decide_eq_decide.2 (by omega)
  have hT:(decide ((c.d.length:Int)<1) || decide ((120:Int)<c.d.length) || !(c.d.all fun b=>!(b == 0))) = !mQ c.d:=by
   unfold mQ;rw [Bool.not_and,Bool.not_and,← decide_not,← decide_not,Bool.or_comm];have e:(c.d.all fun b=>!(b == 0))=(c.d.all fun b=>!((b.toNat:Int) == 0)):=by
    congr 1;funext b
    congr 1
    rw [Bool.eq_iff_iff,beq_iff_eq,beq_iff_eq];constructor
    ·rintro rfl;rfl
    ·intro h;exact UInt8.toNat_inj.1 (by have:(0:UInt8).toNat=0:=rfl;omega)
   rw [e]
   congr 1
   congr 1 <;> exact decide_eq_decide.2 (by omega)
  rw [hT,hM,hk,hk1];cases iN m
  ·simp only [Bool.not_false,Bool.true_or,if_true];exact cK (by decide)
  ·simp only [Bool.not_true,Bool.false_or,Bool.false_eq_true,if_false];split
   ·exact cK (by decide)
   ·split
    ·exact cK (by decide)
    ·have e:zG2 kind c=⟨if kind == 1 then 1 else if kind == 3 then 3 else 2,m,cW c.t,if kind == 1 || kind == 3 then c.d else []⟩:=by
      unfold zG2;rw [← hmm,hk];rcases hk2 with rfl|rfl|rfl <;> rfl
     rw [e];refine ⟨rfl,fun _=>rfl⟩
 ·simp only [if_true];exact cK (by decide)
theorem zBB (h:OkT t) (hw:iZ t true (p,is,0)) (hk:c.k=3):sQ (bU t p is (nodeAt t p) c) (oQ t c p is):=by
 have hd:=nV hw;simp only [bU,oQ,rF,hk,hd,Int.reduceBEq,Bool.or_self,Bool.false_and,Bool.false_eq_true,if_false,if_true];cases is
 ·exact cK (e:=6) (by decide)
 ·cases hdp:aU t p
  ·obtain ⟨hp,hs,hr,hk2,hk3⟩:=yL h hw hdp;rw [rL hp];generalize (aW t p).getD nd0=n at *;have hl:=gH hr;simp only [xK,Bool.not_true,Bool.true_and,Bool.false_eq_true,if_false,beq_self_eq_true];split
   ·exact cK (by decide)
   ·split
    ·exact cK (by decide)
    ·rename_i h1 h2;simp only [Bool.or_eq_true,decide_eq_true_eq,not_or] at h1 h2;rw [CS h hs (zS hr hk2 hk3 (zCu hl (by omega) (by omega))) fun _=>hdp];exact nK
  ·exact cK (by decide)
theorem zBz (h:OkT t) (hw:iZ t true (p,is,0)) (hk:c.k=4):sQ (bU t p is (nodeAt t p) c) (oQ t c p is):=by
 have hd:=nV hw;simp only [bU,oQ,rF,hk,hd,Int.reduceBEq,Bool.or_self,Bool.false_and,Bool.false_eq_true,if_false,if_true];cases is
 ·exact cK (e:=6) (by decide)
 ·cases hdp:aU t p
  ·obtain ⟨hp,hs,hr,hk2,hk3⟩:=yL h hw hdp;rw [rL hp];generalize (aW t p).getD nd0=n at *;have hl:=gH hr;simp only [xG,Bool.not_true,Bool.true_and,Bool.false_eq_true,if_false,beq_self_eq_true];split
   ·exact cK (by decide)
   ·have hle:(n.d.take c.n.toNat).length≤n.d.length:=List.length_take_le' ..;rw [CS h hs (zS hr hk2 hk3 (by omega)) fun _=>hdp];exact nK
  ·exact cK (by decide)
theorem TN (hw:iZ t fo (p,is,0)) (hk:c.k=5):sQ (bU t p is (nodeAt t p) c) (oQ t c p is):=by
 have hd:=nV hw;simp only [bU,oQ,rF,hk,hd,Int.reduceBEq,Bool.or_self,Bool.false_and,Bool.false_eq_true,if_false,if_true];cases is
 ·exact cK (e:=6) (by decide)
 ·cases aU t p
  ·exact nK
  ·exact cK (by decide)
theorem zBy (hw:iZ t fo (p,is,0)) (hk:c.k=6):sQ (bU t p is (nodeAt t p) c) (oQ t c p is):=by
 have hd:=nV hw;simp only [bU,oQ,wR,hk,hd,Int.reduceBEq,Bool.or_self,Bool.true_and,Bool.false_eq_true,if_false,if_true];cases p == []
 ·cases is
  ·exact cK (by decide)
  ·cases aU t p
   ·exact cK (by decide)
   ·simp only [Bool.not_true,Bool.and_self,Bool.false_eq_true,if_false];split
    ·exact cK (by decide)
    ·exact nK
 ·exact cK (by decide)
theorem zBx (h:OkT t) (hw:iZ t fo (p,is,0)) (hk:c.k=10):sQ (bU t p is (nodeAt t p) c) (oQ t c p is):=by
 simp only [bU,oQ,zFJ,hk,Int.reduceBEq,Bool.or_self,Bool.or_false,Bool.true_and,Bool.false_and,Bool.false_eq_true,if_false,if_true];cases is
 ·exact cK (by decide)
 ·have hM:(p == [] || !iN c.m)=(p == [] || decide (c.m<0) || decide (4095<c.m)):=by
   unfold iN;rw [Bool.not_and,← decide_not,← decide_not,Bool.or_assoc]
   congr 2 <;> exact decide_eq_decide.2 (by omega)
  rw [← hM];simp only [Bool.not_true,Bool.false_eq_true,if_false];split
  ·exact cK (by decide)
  ·rename_i h1;simp only [Bool.or_eq_true,not_or,Bool.not_eq_true',Bool.not_eq_false,beq_iff_eq] at h1;have hs:(aW t p).isSome=true:=((jX hw).2 h1.1).symm;rw [rL h1.1,CS h hs (TS (h.getok hs).2.2 h1.2) fun hk2=>?_]
   ·exact nK
   ·rw [lY h1.1];obtain ⟨m,hm⟩:=Option.isSome_iff_exists.1 hs;rw [hm] at hk2 ⊢;exact hk2
theorem zBA (h:OkT t) (hw:iZ t fo (p,is,0)) (hk:c.k=11):sQ (bU t p is (nodeAt t p) c) (oQ t c p is):=by
 simp only [bU,oQ,zFJ,hk,Int.reduceBEq,Bool.or_self,Bool.or_false,Bool.or_true,Bool.false_and,Bool.false_eq_true,if_false,if_true];cases is
 ·exact cK (by decide)
 ·simp only [Bool.not_true,Bool.false_eq_true,if_false];split
  ·exact cK (by decide)
  ·rename_i h1;simp only [beq_iff_eq] at h1;have hs:(aW t p).isSome=true:=((jX hw).2 h1).symm;rw [rL h1,CS h hs (TV (h.getok hs).2.2) fun hk2=>?_]
   ·exact nK
   ·rw [lY h1];obtain ⟨m,hm⟩:=Option.isSome_iff_exists.1 hs;rw [hm] at hk2 ⊢;exact hk2
theorem TM (h:OkT t) (hw:iZ t fo (p,is,0)) (hk:c.k=9):sQ (bU t p is (nodeAt t p) c) (oQ t c p is):=by
 have hd:=nV hw;have hw2:=xI h c.to' false;simp only [bU,oQ,oK,MI,hk,hd,Int.reduceBEq,Bool.or_self,Bool.false_and,Bool.false_eq_true,if_false,if_true];cases is
 ·exact cK (by decide)
 ·generalize cF t c.to' false=r at *;obtain ⟨q,is2,e⟩:=r;simp only [Bool.not_true,Bool.true_and,Bool.false_eq_true,if_false];by_cases he:e=0
  ·subst he;simp only [beq_self_eq_true,Bool.not_true,Bool.false_eq_true,if_false];cases hpq:(p == [] || q == [])
   ·simp only [Bool.or_eq_false_iff] at hpq;have hq:q≠[]:=by intro hq;rw [hq] at hpq;cases hpq.2
    simp only [Bool.false_eq_true,if_false];split
    ·exact ⟨rfl,fun _=>rfl⟩
    ·split
     ·exact cK (by decide)
     ·have hi2:=(jX hw2).2 hq;cases is2
      ·have:aW t q=none:=by
        cases hg:aW t q
        ·rfl
        ·rw [hg] at hi2;cases hi2
       rw [zBC h hq this];exact ⟨rfl,fun _=>rfl⟩
      ·simp only [TB,nV hw2,Bool.not_true,Bool.true_and,Bool.false_eq_true,if_false,if_true];cases aU t p <;> cases aU t q <;> simp only [Bool.not_true,Bool.not_false,Bool.true_and,Bool.false_and,Bool.false_eq_true,if_false,if_true,beq_self_eq_true,Int.reduceBEq]
       ·exact ⟨rfl,fun _=>rfl⟩
       ·exact cK (by decide)
       ·exact cK (by decide)
       ·cases decide ((0:Int)<(gA t q).length)
        ·exact ⟨rfl,fun _=>rfl⟩
        ·exact cK (by decide)
   ·exact cK (by decide)
  ·have:(e == 0)=false:=by simpa using he
   rw [this];exact cK he
end kinds
theorem zDU {t:List It} (h:OkT t):aW t []=none:=by
 cases hg:aW t []
 ·rfl
 ·exact absurd rfl (h.getok (p:=[]) (by rw [hg];rfl)).1
theorem YC {t:List It} (h:OkT t) {p:List UInt8} {is:Bool} {fo:Bool} {c:Cl} (hw:iZ t fo (p,is,0)) (hk:c.k=8∨c.k=12∨c.k=13∨c.k=14∨c.k=15):oQ t c p is=(t,jM t p is (nodeAt t p) c):=by
 have hd:=nV hw;cases is
 ·rcases hk with hk|hk|hk|hk|hk <;> simp only [oQ,jM,wL,rF,hd,hk,Int.reduceBEq,Bool.or_self,Bool.false_or,Bool.or_false,Bool.false_and,Bool.not_false,Bool.false_eq_true,if_false,if_true] <;> rfl
 ·have key:(nodeAt t p).k=3∨(aU t p=false)→nodeAt t p=(aW t p).getD nd0:=by
   intro h1;refine rL fun hp=>?_;subst hp;rcases h1 with h1|h1 <;> cases h1
  rcases hk with hk|hk|hk|hk|hk <;> simp only [oQ,jM,wL,rF,hd,hk,Int.reduceBEq,Bool.or_self,Bool.or_false,Bool.or_true,Bool.true_and,Bool.false_and,Bool.not_true,Bool.false_eq_true,if_false,if_true]
  ·by_cases hp:p=[]
   ·subst hp;rw [zDU h];rfl
   ·rw [rL hp];split <;> rfl
  ·cases hdp:aU t p
   ·rw [key (.inr hdp)];simp only [Bool.false_eq_true,if_false,beq_self_eq_true,Bool.not_true];split <;> rfl
   ·rfl
  ·split <;> rfl
theorem WL {t:List It} {p:List UInt8} {is:Bool} {n:Nd} {c:Cl} (h:(jM t p is n c).e≠0):jM t p is n c=anE (jM t p is n c).e:=by
 unfold jM wL at h ⊢
 repeat' split at h
 all_goals first|exact absurd rfl h|(simp only [*,if_true,if_false,Bool.false_eq_true];rfl)
theorem zJG {t:List It} (h:OkT t) (c:Cl):doP t c=doR t c:=by
 unfold doP doR;cases hr:(decide (c.k<1) || decide (15<c.k))
 ·simp only [Bool.or_eq_false_iff,decide_eq_false_iff_not] at hr;simp only [Bool.false_eq_true,if_false];have hw:=xI h c.p (fK c.k);generalize cF t c.p (fK c.k)=r at *;obtain ⟨p,is,e⟩:=r;simp only;by_cases he:e=0
  ·subst he;simp only [beq_self_eq_true,Bool.not_true,Bool.false_eq_true,if_false];have hc:c.k=1∨c.k=2∨c.k=3∨c.k=4∨c.k=5∨c.k=6∨c.k=7∨c.k=9∨c.k=10∨c.k=11∨c.k=8∨c.k=12∨c.k=13∨c.k=14∨c.k=15:=by omega
   have asks:(c.k=8∨c.k=12∨c.k=13∨c.k=14∨c.k=15)→(if (!jZ c.k)=true then (t,jM t p is (nodeAt t p) c) else if ((bU t p is (nodeAt t p) c).2 == 0)=true then ((bU t p is (nodeAt t p) c).1,anE 0) else (t,anE (bU t p is (nodeAt t p) c).2))=if ((oQ t c p is).2.e == 0)=true then oQ t c p is else (t,anE (oQ t c p is).2.e):=by
    intro hk;have ht:jZ c.k=false:=by rcases hk with hk|hk|hk|hk|hk <;> rw [hk] <;> rfl
    rw [ht,YC h hw hk];simp only [Bool.not_false,if_true];split
    ·rfl
    ·rename_i h0;rw [← WL (by simpa using h0)]
   have turns:jZ c.k=true→sQ (bU t p is (nodeAt t p) c) (oQ t c p is)→(if (!jZ c.k)=true then (t,jM t p is (nodeAt t p) c) else if ((bU t p is (nodeAt t p) c).2 == 0)=true then ((bU t p is (nodeAt t p) c).1,anE 0) else (t,anE (bU t p is (nodeAt t p) c).2))=if ((oQ t c p is).2.e == 0)=true then oQ t c p is else (t,anE (oQ t c p is).2.e):=by
    intro ht hrel;rw [ht];simp only [Bool.not_true,Bool.false_eq_true,if_false];exact zHa hrel
   rcases hc with hk|hk|hk|hk|hk|hk|hk|hk|hk|hk|hk
   ·refine turns (by rw [hk];rfl) ?_;have:=CX (p:=p) (is:=is) (c:=c) h 2 (by rw [hk];rfl) (by rw [hk];rfl) (by simp);simpa only [bU,oQ,hk,Int.reduceBEq,Bool.true_or,Bool.or_self,Bool.false_eq_true,if_true] using this
   ·refine turns (by rw [hk];rfl) ?_;have:=CX (p:=p) (is:=is) (c:=c) h 1 (by rw [hk];rfl) (by rw [hk];rfl) (by simp);simpa only [bU,oQ,hk,Int.reduceBEq,Bool.true_or,Bool.or_true,Bool.or_self,Bool.false_eq_true,if_true,if_false] using this
   ·exact turns (by rw [hk];rfl) (zBB h (by rw [hk] at hw;exact hw) hk)
   ·exact turns (by rw [hk];rfl) (zBz h (by rw [hk] at hw;exact hw) hk)
   ·exact turns (by rw [hk];rfl) (TN hw hk)
   ·exact turns (by rw [hk];rfl) (zBy hw hk)
   ·refine turns (by rw [hk];rfl) ?_;have:=CX (p:=p) (is:=is) (c:=c) h 3 (by rw [hk];rfl) (by rw [hk];rfl) (by simp);simpa only [bU,oQ,hk,Int.reduceBEq,Bool.true_or,Bool.or_true,Bool.or_self,Bool.false_eq_true,if_true,if_false] using this
   ·exact turns (by rw [hk];rfl) (TM h hw hk)
   ·exact turns (by rw [hk];rfl) (zBx h hw hk)
   ·exact turns (by rw [hk];rfl) (zBA h hw hk)
   ·exact asks hk
  ·have:(e == 0)=false:=by simpa using he
   rw [this];rfl
 ·rfl
end Go.Dm
end
section
namespace Go.Dm
open Go
abbrev DW (N:List Nm):Prop:=N.Pairwise fun x y=>bZ x.n y.n=true
def oE (N:List Nm) (s:List UInt8):Nat:=(N.takeWhile fun x=>bZ x.n s).length
def PL (N:List Nm) (s:List UInt8):Bool:=N.any fun x=>x.n == s
def HA (N:List Nm) (s:List UInt8):Option Nm:=N.find? fun x=>x.n == s
def bY (N:List Nm) (s:List UInt8) (id:Int):List Nm:=(N.takeWhile fun x=>bZ x.n s)++⟨s,id⟩::(N.dropWhile fun x=>bZ x.n s).filter fun x=>!(x.n == s)
theorem gY {N:List Nm} {s:List UInt8} {x:Nm} (h:HA N s=some x):x∈N∧x.n=s:=⟨List.mem_of_find?_eq_some h,eq_of_beq (List.find?_some (p:=fun z:Nm=>z.n == s) h)⟩
theorem LZ (N:List Nm) (s:List UInt8):(HA N s).isSome=PL N s:=by
 unfold HA PL
 induction N with
 | nil=>rfl
 | cons x N ih =>
  rw [List.find?_cons,List.any_cons];cases x.n == s
  ·simpa using ih
  ·rfl
theorem QE {N:List Nm} {s:List UInt8}:∀ x∈N.takeWhile (fun x=>bZ x.n s),bZ x.n s=true∧x∈N:=by
 induction N with
 | nil=>intro x hx;cases hx
 | cons y N ih =>
  intro x hx;rw [List.takeWhile_cons] at hx;split at hx
  ·rename_i hy;rcases List.mem_cons.1 hx with rfl|hx
   ·exact ⟨hy,List.mem_cons_self⟩
   ·exact ⟨(ih x hx).1,List.mem_cons_of_mem _ (ih x hx).2⟩
  ·cases hx
theorem NU {N:List Nm} {s:List UInt8} (h:DW N):∀ x∈N.dropWhile (fun x=>bZ x.n s),bZ x.n s=false∧x∈N:=by
 induction N with
 | nil=>intro x hx;cases hx
 | cons y N ih =>
  have h2:=List.pairwise_cons.1 h;intro x hx;rw [List.dropWhile_cons] at hx;split at hx
  ·exact ⟨(ih h2.2 x hx).1,List.mem_cons_of_mem _ (ih h2.2 x hx).2⟩
  ·rename_i hy;have hy:bZ y.n s=false:=by simpa using hy
   rcases List.mem_cons.1 hx with e|hx'
   ·exact ⟨e▸hy,e▸List.mem_cons_self⟩
   ·refine ⟨?_,List.mem_cons_of_mem _ hx'⟩;cases hb:bZ x.n s with
    | false=>rfl
    | true=>rw [cO (h2.1 x hx') hb] at hy;cases hy
theorem uA {N:List Nm} (h:DW N) {s:List UInt8} {id:Int} {x:Nm}:x∈bY N s id↔x=⟨s,id⟩∨(x∈N∧x.n≠s):=by
 unfold bY;have hsp:N=N.takeWhile (fun x=>bZ x.n s)++N.dropWhile (fun x=>bZ x.n s):=(List.takeWhile_append_dropWhile).symm;rw [List.mem_append,List.mem_cons,List.mem_filter];constructor
 ·rintro (h1|rfl|⟨h1,h2⟩)
  ·obtain ⟨h3,h4⟩:=QE x h1;refine .inr ⟨h4,fun e=>?_⟩;rw [e,cR] at h3;cases h3
  ·exact .inl rfl
  ·exact .inr ⟨(NU h x h1).2,by simpa using h2⟩
 ·rintro (rfl|⟨h1,h2⟩)
  ·exact .inr (.inl rfl)
  ·rw [hsp] at h1;rcases List.mem_append.1 h1 with h3|h3
   ·exact .inl h3
   ·exact .inr (.inr ⟨h3,by simpa using h2⟩)
theorem lN {N:List Nm} (h:DW N) (s:List UInt8) (id:Int):DW (bY N s id):=by
 unfold bY;refine List.pairwise_append.2 ⟨List.Pairwise.sublist (List.takeWhile_sublist _) h,List.pairwise_cons.2 ⟨fun x hx=>?_,(List.Pairwise.sublist (List.dropWhile_sublist _) h).filter _⟩,fun x hx y hy=>?_⟩
 ·obtain ⟨h1,h2⟩:=List.mem_filter.1 hx;have h3:=(NU h x h1).1;cases hb:bZ s x.n with
  | true=>rfl
  | false=>have:=fM hb h3;simp [this] at h2
 ·have h1:=(QE x hx).1;rcases List.mem_cons.1 hy with rfl|hy
  ·exact h1
  ·obtain ⟨h2,_⟩:=List.mem_filter.1 hy;have h3:=(NU h y h2).1;have h4:=(QE x hx).2;cases hb:bZ s y.n with
   | true=>exact cO h1 hb
   | false=>have:=fM hb h3;rw [← this];exact h1
theorem pC (N:List Nm) (s:List UInt8) (id:Int):(bY N s id).length≤N.length+1:=by
 unfold bY;have h1:=List.length_filter_le (fun x:Nm=>!(x.n == s)) (N.dropWhile fun x=>bZ x.n s);have h2:N.length=(N.takeWhile fun x=>bZ x.n s).length+(N.dropWhile fun x=>bZ x.n s).length:=by
  rw [← List.length_append,List.takeWhile_append_dropWhile]
 rw [List.length_append,List.length_cons];omega
theorem zA9 (N:List Nm) (s:List UInt8):oE N s≤N.length:=List.Sublist.length_le (List.takeWhile_sublist _)
theorem zFN (N:List Nm) (s:List UInt8):N.take (oE N s)=N.takeWhile fun x=>bZ x.n s:=by
 unfold oE
 induction N with
 | nil=>rfl
 | cons x N ih =>
  rw [List.takeWhile_cons];split
  ·simp only [List.length_cons,List.take_succ_cons,ih]
  ·rfl
theorem YN (N:List Nm) (s:List UInt8):N.drop (oE N s)=N.dropWhile fun x=>bZ x.n s:=by
 unfold oE
 induction N with
 | nil=>rfl
 | cons x N ih =>
  rw [List.takeWhile_cons,List.dropWhile_cons];split
  ·simp only [List.length_cons,List.drop_succ_cons,ih]
  ·rfl
theorem FT {l:List Nm} {s:List UInt8} (h:∀ x∈l,(x.n == s)=false):(l.filter fun x=>!(x.n == s))=l:=List.filter_eq_self.2 fun x hx=>by rw [h x hx];rfl
theorem zJQ {l:List Nm} {y:Nm} {s:List UInt8} (h:∀ x∈l,bZ y.n x.n=true) (e:y.n=s):∀ x∈l,(x.n == s)=false:=fun x hx=>by
 have:=h x hx;rw [e] at this;rw [Bool.eq_false_iff];intro h2;rw [eq_of_beq h2,cR] at this;cases this
theorem zJZ {N:List Nm} {s:List UInt8}:∀ x∈N.takeWhile (fun x=>bZ x.n s),(x.n == s)=false:=fun x hx=>lC (QE x hx).1
theorem LY {N:List Nm} (h:DW N) {x:Nm} (hx:x∈N):N[oE N x.n]? = some x:=by
 have h1:x∈N.dropWhile (fun y=>bZ y.n x.n):=by
  have hsp:N=N.takeWhile (fun y=>bZ y.n x.n)++N.dropWhile (fun y=>bZ y.n x.n):=(List.takeWhile_append_dropWhile).symm;rw [hsp] at hx;rcases List.mem_append.1 hx with h2|h2
  ·have:=zJZ x h2;simp at this
  ·exact h2
 have h2:(N.drop (oE N x.n))[0]? = some x:=by
  rw [YN];cases hd:N.dropWhile (fun y=>bZ y.n x.n) with
  | nil=>rw [hd] at h1;cases h1
  | cons y r =>
   have hs:DW (y::r):=by rw [← hd];exact List.Pairwise.sublist (List.dropWhile_sublist _) h
   have hy:=(NU h y (by rw [hd];exact List.mem_cons_self)).1;rw [hd] at h1;rcases List.mem_cons.1 h1 with e|h3
   ·rw [e];rfl
   ·have:=(List.pairwise_cons.1 hs).1 x h3;rw [this] at hy;cases hy
 rw [List.getElem?_drop] at h2;simpa using h2
theorem uB {N:List Nm} (h:DW N) {x:Nm} (hx:x∈N) (id:Int):bY N x.n id=N.set (oE N x.n) ⟨x.n,id⟩:=by
 have h1:=LY h hx;have hlt:=(List.getElem?_eq_some_iff.1 h1).1;rw [List.set_eq_take_append_cons_drop,if_pos hlt];unfold bY;rw [← zFN,← YN];have hd:N.drop (oE N x.n)=x::N.drop (oE N x.n+1):=by
  rw [List.drop_eq_getElem_cons hlt];rw [List.getElem?_eq_getElem hlt,Option.some.injEq] at h1;rw [h1]
 have hs:DW (N.drop (oE N x.n)):=List.Pairwise.sublist (List.drop_sublist _ _) h;rw [hd] at hs ⊢;rw [List.filter_cons,if_neg (by simp),FT (zJQ (List.pairwise_cons.1 hs).1 rfl)]
theorem EI {N:List Nm} {s:List UInt8} (hx:PL N s=false) (id:Int):bY N s id=N.take (oE N s)++⟨s,id⟩::N.drop (oE N s):=by
 unfold bY;rw [zFN,YN,FT fun y hy=>?_];unfold PL at hx;rw [List.any_eq_false] at hx;have:=hx y (List.Sublist.subset (List.dropWhile_sublist _) hy);simpa using this
structure Dr where
 L:List (Ly × List It)
 N:List Nm
 x:Int
def Dr.G (d:Dr):List Ly:=d.L.map (·.1)
def pP (d:Dr) (id:Int):Option (Ly × List It):=d.L.find? fun y=>y.1.i == id
def dJ (d:Dr) (id:Int):List It:=match pP d id with
 | some y=>y.2
 | none=>[]
def gN (N:List Nm) (s:List UInt8):Int:=match HA N s with
 | some x=>x.l
 | none=>0
def rH (d:Dr) (id:Int):Bool:=match pP d id with
 | some y=>y.1.f
 | none=>false
def qN (id:Int) (t:List It):List (Ly × List It)→List (Ly × List It)
 | []=>[]
 | y::l=>if y.1.i == id then (y.1,t)::l else y::qN id t l
def nO (d:Dr) (id:Int) (t:List It):Dr:=⟨qN id t d.L,d.N,d.x⟩
def vB (id:Int):List (Ly × List It)→List (Ly × List It)
 | []=>[]
 | y::l=>if y.1.i == id then (⟨y.1.i,y.1.p,y.1.s,true⟩,y.2)::l else y::vB id l
def uZ (d:Dr) (s:List UInt8):Int:=if !bE s then 1 else if !(gN d.N s == 0) then 7 else if decide (20≤(d.N.length:Int)) || (decide (40≤(d.L.length:Int)) || decide (2147483647≤d.x)) then 16 else 0
def RE (d:Dr) (on:Int):Bool:=decide (12<(((bM d.G on).length:Int)+1))
def zAL (d:Dr):List (Ly × List It):=(iG d.G (d.N.map (·.l))).filterMap fun y=>pP d y.i
def vK (d:Dr):Dr:=⟨zAL d,d.N,d.x⟩
def zDX (d:Dr) (s:List UInt8) (p q:Int) (t:List It):Dr:=vK ⟨d.L++[(⟨d.x,p,q,false⟩,t)],bY d.N s d.x,d.x+1⟩
def doD (d:Dr) (s:List UInt8) (c:Cl):Dr × An :=
 if gN d.N s == 0 then (d,anE 6) else if rH d (gN d.N s) && jZ c.k then (d,anE 14)
 else if !((doR (dJ d (gN d.N s)) c).2.e == 0) then (d,(doR (dJ d (gN d.N s)) c).2) else (nO d (gN d.N s) (doR (dJ d (gN d.N s)) c).1,(doR (dJ d (gN d.N s)) c).2)
def rV (d:Dr) (s:List UInt8):List It × Int:=if gN d.N s == 0 then ([],6) else (dJ d (gN d.N s),0)
def gM (d:Dr) (s sn:List UInt8):Dr × Int :=
 if gN d.N s == 0 then (d,6) else if rH d (gN d.N s) then (d,14) else if !(uZ d sn == 0) then (d,uZ d sn) else if RE d (gN d.N s) then (d,15)
 else (zDX ⟨vB (gN d.N s) d.L,bY d.N sn (gN d.N s),d.x⟩ s (gN d.N s) 0 (dJ d (gN d.N s)),0)
def LV:Dr:=⟨[(⟨1,0,0,true⟩,[]),(⟨2,1,0,false⟩,[])],[⟨[109,97,105,110],2⟩],3⟩
theorem kQ {d:Dr} {id:Int} {y:Ly × List It} (h:pP d id=some y):y∈d.L∧y.1.i=id:=⟨List.mem_of_find?_eq_some h,eq_of_beq (List.find?_some (p:=fun z:Ly × List It=>z.1.i == id) h)⟩
theorem CD {d:Dr} {id:Int} (h:pP d id=none):∀ y∈d.L,y.1.i≠id:=fun y hy e=>by
 have:=List.find?_eq_none.1 h y hy;simp [e] at this
theorem mB {d:Dr} (hi:mV d.G) {y:Ly × List It} (hy:y∈d.L):pP d y.1.i=some y:=by
 have key:∀ {l:List (Ly × List It)},mV (l.map (·.1))→y∈l→l.find? (fun z=>z.1.i == y.1.i)=some y:=by
  intro l
  induction l with
  | nil=>intro _ h;cases h
  | cons z l ih =>
   intro hp hm;have h2:=List.pairwise_cons.1 hp;rw [List.find?_cons];rcases List.mem_cons.1 hm with rfl|hm
   ·rw [show (y.1.i == y.1.i)=true by simp]
   ·have:z.1.i<y.1.i:=h2.1 y.1 (List.mem_map.2 ⟨y,hm,rfl⟩);rw [show (z.1.i == y.1.i)=false by simp;omega]
    exact ih h2.2 hm
 exact key hi hy
theorem zFu (d:Dr) (id:Int):eA d.G id=(pP d id).map (·.1):=by
 unfold eA pP Dr.G
 induction d.L with
 | nil=>rfl
 | cons y l ih =>
  rw [List.map_cons,List.find?_cons,List.find?_cons];cases y.1.i == id
  ·exact ih
  ·rfl
attribute [go_sem] eV
end Go.Dm
end
