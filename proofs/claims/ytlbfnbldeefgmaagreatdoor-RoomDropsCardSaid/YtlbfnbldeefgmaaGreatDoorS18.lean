/- Part 19 of the proof of roomDrops_card, set without needless blanks. No condition. -/
import Derived.Test.YtlbfnbldeefgmaaGreatDoorS11
import Derived.Test.YtlbfnbldeefgmaaGreatDoorS14
set_option linter.all false
set_option maxRecDepth 100000
set_option maxHeartbeats 16000000
section
namespace Go.Dm
open Go
section
variable {t:List It}{p:List UInt8}{n:Nd}{is fo:Bool}
theorem PZ(p:List UInt8)(n:Nd):∀(t:List It) (d:Bool),(CH p n d t).length=(qX t p).length+(if d then 0 else 1)
 | [],d=>by cases d<;>rfl
 | x::r,d=>by
  have h:=PZ p n r (d || !bS x.p p);simp only[CH,qX,List.length_append,List.filter_cons] at h ⊢;cases d<;>cases hb:bS x.p p<;>cases hp:x.p==p<;>simp[hb] at h ⊢<;>omega
theorem zKx(h:(aN t p).isSome=true):(qX t p).length<t.length:=by
 induction t with
 | nil=>cases h
 | cons x r ih =>
  rw[aN] at h;simp only[qX,List.filter_cons];split at h
  .rename_i hp;rw[hp];exact Nat.lt_succ_of_le (List.length_filter_le ..)
  .rename_i hp;have hp:(x.p==p)=false:=by simpa using hp
   rw[hp];simp only[Bool.not_false,if_true,List.length_cons];exact Nat.succ_lt_succ (ih h)
theorem JD(h:OkT t)(hs:(aN t p).isSome=true)(hn:aO n=true)(hk:(n.k==2)=false->aW t p=false):wJ t p n=(xC t p n,0):=by
 obtain ⟨h1,h2,_⟩:=h.getok hs;obtain⟨m,hm⟩:=Option.isSome_iff_exists.1 hs;have h3:aW t (aM p)=true:=LB h (.inr ⟨m,hm⟩);have h4:(if n.k != 2 then bY t p else t)=t:=by
  split
  .rename_i hne;exact EF h h1 (hk (by simpa using hne))
  .rfl
 have h5:(xC t p n).length<=120:=by
  have e:=PZ p n t false;have l:=zKx hs;have:=h.len;unfold xC;rw[e];simp only[Bool.false_eq_true,if_false];omega
 have hb:(p == [])=false:=by simpa using h1
 unfold wJ;rw[h4,hb,h2,hn,h3,decide_eq_false (by omega)];rfl
theorem BF: aO n=true↔(0<=n.m/\n.m<=4095/\EP n.t=true)/\(if n.k==1 then decide ((n.d.length:Int)<=2000) else if n.k==2 then (n.d.length:Int)==0 else if n.k==3 then pD n.d else false)=true:=by
 unfold aO;rw[Bool.and_eq_true];refine and_congr ?_ Iff.rfl;simp only[Bool.not_eq_true',Bool.or_eq_false_iff,decide_eq_false_iff_not,Bool.not_eq_false'];constructor
 .rintro⟨⟨a,b⟩,c⟩;exact⟨by omega,by omega,c⟩
 .rintro⟨a,b,c⟩;exact⟨⟨by omega,by omega⟩,c⟩
theorem zAK(x:Nat):EP (cZ x)=true:=by
 unfold EP;rw[YW];simp
theorem zAZ{m:Int}(h:aO n=true)(hm:kL m=true):aO ⟨n.k,m,n.t,n.d⟩=true:=by
 rw[BF] at h ⊢;unfold kL at hm;simp only[Bool.and_eq_true,decide_eq_true_eq] at hm;exact⟨⟨hm.1,hm.2,h.1.2.2⟩,h.2⟩
theorem zA1{x:Nat}(h:aO n=true):aO ⟨n.k,n.m,cZ x,n.d⟩=true:=by
 rw[BF] at h ⊢;exact⟨⟨h.1.1,h.1.2.1,zAK x⟩,h.2⟩
theorem FA{d:List UInt8}(h:aO n=true)(hk2:(n.k==2)=false)(hk3:(n.k==3)=false)(hd:d.length<=2000):aO ⟨n.k,n.m,n.t,d⟩=true:=by
 rw[BF] at h ⊢;refine⟨h.1,?_⟩;have h2:=h.2;simp only[hk2,hk3,Bool.false_eq_true,if_false] at h2 ⊢;split
 .exact decide_eq_true (by omega)
 .rename_i hk1;rw[if_neg hk1] at h2;cases h2
theorem zFX{had b:List UInt8}{f:Nat}(h1:had.length<=2000)(h2:f<=had.length)(h3:f+b.length<=2000):(wrD had f b).length<=2000:=by
 unfold wrD;simp only[List.length_append,List.length_take,List.length_drop];omega
def wR(x:List It × Int)(y:List It × An):Prop:=y.2=anE x.2/\(x.2=0->y.1=x.1)
theorem cX{e:Int}(he:e≠0):wR ([],e) (t,anE e):=⟨rfl,λh=>absurd h he⟩
theorem pY{u:List It}:wR (u,0) (u,anE 0):=⟨rfl,λ_=>rfl⟩
theorem zLs{x:List It × Int}{y:List It × An}(h:wR x y):(if x.2==0 then (x.1,anE 0) else (t,anE x.2))=(if y.2.e==0 then y else (t,anE y.2.e)):=by
 obtain⟨y1,y2⟩:=y;obtain⟨h1,h2⟩:=h;simp only at h1 h2;subst h1;by_cases h0:x.2=0
 .have:(x.2==0)=true:=by simpa using h0
  rw[h2 h0,h0];rfl
 .have h3:(x.2==0)=false:=by simpa using h0
  have h4:((anE x.2).e==0)=false:=h3;rw[h3];simp only[h4,Bool.false_eq_true,if_false];rfl
theorem mO(h:lA t fo (p,is,0)):(p=[]->is=true)/\(p≠[]->is=(aN t p).isSome):=by
 obtain⟨h1,h2⟩:=h rfl;simp only at h1 h2;constructor
 .intro hp;cases is
  .exact absurd hp (h2 rfl).1
  .rfl
 .intro hp;cases is
  .rw[(h2 rfl).2];rfl
  .rcases h1 rfl with h|⟨n,h,_⟩
   .exact absurd h hp
   .rw[h];rfl
theorem qU(h:lA t fo (p,is,0)):WQ is (nodeAt t p)=(is && aW t p):=by
 unfold WQ nodeAt;by_cases hp:p=[]
 .subst hp;rfl
 .have hb:(p == [])=false:=by simpa using hp
  rw[hb,oL hp];simp only[Bool.false_eq_true,if_false];rw[(mO h).2 hp];cases aN t p<;>rfl
theorem vH(hp:p≠[]):nodeAt t p=(aN t p).getD nd0:=by
 unfold nodeAt;rw[if_neg (by simpa using hp)]
section kinds
variable {t:List It}{p:List UInt8}{is fo:Bool}{c:Cl}
theorem DO(h:OkT t)(hw:lA t true (p,true,0))(hd:aW t p=false):p≠[]/\(aN t p).isSome=true/\aO ((aN t p).getD nd0)=true/\(((aN t p).getD nd0).k==2)=false/\(((aN t p).getD nd0).k==3)=false:=by
 have hp:p≠[]:=by intro hp;subst hp;cases hd
 have hs:(aN t p).isSome=true:=((mO hw).2 hp).symm;have hr:=h.getok hs;obtain⟨h1,_⟩:=hw rfl;rcases h1 rfl with h1|⟨n,h1,h2⟩
 .exact absurd h1 hp
 .rw[oL hp] at hd;simp only at h1;rw[h1] at hd hr ⊢;exact⟨hp,rfl,hr.2.2,hd,h2 rfl⟩
theorem JI(h:OkT t)(kind:Int)(hk:(c.k==7)=(kind==3))(hk1:(c.k==2)=(kind==1))(hk2:kind=1∨kind=2∨kind=3):wR (wZ t p is kind c) ((yS t c p is).1,anE (yS t c p is).2):=by
 unfold wZ yS;cases is
 .simp only[Bool.false_eq_true,if_false];have hm:(zLg kind c).m=if c.k==7 then 511 else c.m:=by unfold zLg;rw[hk]
  rw[hm];generalize hmm:(if c.k==7 then (511:Int) else c.m)=m
  have hM:(decide (m<0) || decide ((4095:Int)<m)) = !kL m:=by
   unfold kL;rw[Bool.not_and,<- decide_not,<- decide_not]
   congr 1<;>exact decide_eq_decide.2 (by omega)
  have hT:(decide ((c.d.length:Int)<1) || decide ((120:Int)<c.d.length) || !(c.d.all λb=>!(b==0))) = !pD c.d:=by
   unfold pD;rw[Bool.not_and,Bool.not_and,<- decide_not,<- decide_not,Bool.or_comm];have e:(c.d.all λb=>!(b==0))=(c.d.all λb=>!((b.toNat:Int)==0)):=by
    congr 1;funext b
    congr 1
    rw[Bool.eq_iff_iff,beq_iff_eq,beq_iff_eq];constructor
    .rintro rfl;rfl
    .intro h;exact UInt8.toNat_inj.1 (by have:(0:UInt8).toNat=0:=rfl;omega)
   rw[e]
   congr 1
   congr 1<;>exact decide_eq_decide.2 (by omega)
  rw[hT,hM,hk,hk1];cases kL m
  .simp only[Bool.not_false,Bool.true_or,if_true];exact cX (by decide)
  .simp only[Bool.not_true,Bool.false_or,Bool.false_eq_true,if_false];split
   .exact cX (by decide)
   .split
    .exact cX (by decide)
    .have e:zLg kind c=⟨if kind==1 then 1 else if kind==3 then 3 else 2,m,cZ c.t,if kind==1 || kind==3 then c.d else []⟩:=by
      unfold zLg;rw[<- hmm,hk];rcases hk2 with rfl|rfl|rfl<;>rfl
     rw[e];refine⟨rfl,λ_=>rfl⟩
 .simp only[if_true];exact cX (by decide)
theorem zE0(h:OkT t)(hw:lA t true (p,is,0))(hk:c.k=3):wR (cA t p is (nodeAt t p) c) (rW t c p is):=by
 have hd:=qU hw;simp only[cA,rW,vC,hk,hd,Int.reduceBEq,Bool.or_self,Bool.false_and,Bool.false_eq_true,if_false,if_true];cases is
 .exact cX (e:=6) (by decide)
 .cases hdp:aW t p
  .obtain ⟨hp,hs,hr,hk2,hk3⟩:=DO h hw hdp;rw[vH hp];generalize (aN t p).getD nd0=n at *;have hl:=iO hr;simp only[CD,Bool.not_true,Bool.true_and,Bool.false_eq_true,if_false,beq_self_eq_true];split
   .exact cX (by decide)
   .split
    .exact cX (by decide)
    .rename_i h1 h2;simp only[Bool.or_eq_true,decide_eq_true_eq,not_or] at h1 h2;rw[JD h hs (FA hr hk2 hk3 (zFX hl (by omega) (by omega))) λ_=>hdp];exact pY
  .exact cX (by decide)
theorem zEY(h:OkT t)(hw:lA t true (p,is,0))(hk:c.k=4):wR (cA t p is (nodeAt t p) c) (rW t c p is):=by
 have hd:=qU hw;simp only[cA,rW,vC,hk,hd,Int.reduceBEq,Bool.or_self,Bool.false_and,Bool.false_eq_true,if_false,if_true];cases is
 .exact cX (e:=6) (by decide)
 .cases hdp:aW t p
  .obtain⟨hp,hs,hr,hk2,hk3⟩:=DO h hw hdp;rw[vH hp];generalize (aN t p).getD nd0=n at *;have hl:=iO hr;simp only[BX,Bool.not_true,Bool.true_and,Bool.false_eq_true,if_false,beq_self_eq_true];split
   .exact cX (by decide)
   .have hle:(n.d.take c.n.toNat).length<=n.d.length:=List.length_take_le' ..;rw[JD h hs (FA hr hk2 hk3 (by omega)) λ_=>hdp];exact pY
  .exact cX (by decide)
theorem zAU(hw:lA t fo (p,is,0))(hk:c.k=5):wR (cA t p is (nodeAt t p) c) (rW t c p is):=by
 have hd:=qU hw;simp only[cA,rW,vC,hk,hd,Int.reduceBEq,Bool.or_self,Bool.false_and,Bool.false_eq_true,if_false,if_true];cases is
 .exact cX (e:=6) (by decide)
 .cases aW t p
  .exact pY
  .exact cX (by decide)
theorem zEX(hw:lA t fo (p,is,0))(hk:c.k=6):wR (cA t p is (nodeAt t p) c) (rW t c p is):=by
 have hd:=qU hw;simp only[cA,rW,BG,hk,hd,Int.reduceBEq,Bool.or_self,Bool.true_and,Bool.false_eq_true,if_false,if_true];cases p == []
 .cases is
  .exact cX (by decide)
  .cases aW t p
   .exact cX (by decide)
   .simp only[Bool.not_true,Bool.and_self,Bool.false_eq_true,if_false];split
    .exact cX (by decide)
    .exact pY
 .exact cX (by decide)
theorem zEW(h:OkT t)(hw:lA t fo (p,is,0))(hk:c.k=10):wR (cA t p is (nodeAt t p) c) (rW t c p is):=by
 simp only[cA,rW,zJN,hk,Int.reduceBEq,Bool.or_self,Bool.or_false,Bool.true_and,Bool.false_and,Bool.false_eq_true,if_false,if_true];cases is
 .exact cX (by decide)
 .have hM:(p == [] || !kL c.m)=(p == [] || decide (c.m<0) || decide (4095<c.m)):=by
   unfold kL;rw[Bool.not_and,<- decide_not,<- decide_not,Bool.or_assoc]
   congr 2<;>exact decide_eq_decide.2 (by omega)
  rw[<- hM];simp only[Bool.not_true,Bool.false_eq_true,if_false];split
  .exact cX (by decide)
  .rename_i h1;simp only[Bool.or_eq_true,not_or,Bool.not_eq_true',Bool.not_eq_false,beq_iff_eq] at h1;have hs:(aN t p).isSome=true:=((mO hw).2 h1.1).symm;rw[vH h1.1,JD h hs (zAZ (h.getok hs).2.2 h1.2) λhk2=>?_]
   .exact pY
   .rw[oL h1.1];obtain⟨m,hm⟩:=Option.isSome_iff_exists.1 hs;rw[hm] at hk2 ⊢;exact hk2
theorem zEZ(h:OkT t)(hw:lA t fo (p,is,0))(hk:c.k=11):wR (cA t p is (nodeAt t p) c) (rW t c p is):=by
 simp only[cA,rW,zJN,hk,Int.reduceBEq,Bool.or_self,Bool.or_false,Bool.or_true,Bool.false_and,Bool.false_eq_true,if_false,if_true];cases is
 .exact cX (by decide)
 .simp only[Bool.not_true,Bool.false_eq_true,if_false];split
  .exact cX (by decide)
  .rename_i h1;simp only[beq_iff_eq] at h1;have hs:(aN t p).isSome=true:=((mO hw).2 h1).symm;rw[vH h1,JD h hs (zA1 (h.getok hs).2.2) λhk2=>?_]
   .exact pY
   .rw[oL h1];obtain⟨m,hm⟩:=Option.isSome_iff_exists.1 hs;rw[hm] at hk2 ⊢;exact hk2
theorem zAT(h:OkT t)(hw:lA t fo (p,is,0))(hk:c.k=9):wR (cA t p is (nodeAt t p) c) (rW t c p is):=by
 have hd:=qU hw;have hw2:=CA h c.to' false;simp only[cA,rW,rR,VF,hk,hd,Int.reduceBEq,Bool.or_self,Bool.false_and,Bool.false_eq_true,if_false,if_true];cases is
 .exact cX (by decide)
 .generalize cR t c.to' false=r at *;obtain⟨q,is2,e⟩:=r;simp only[Bool.not_true,Bool.true_and,Bool.false_eq_true,if_false];by_cases he:e=0
  .subst he;simp only[beq_self_eq_true,Bool.not_true,Bool.false_eq_true,if_false];cases hpq:(p == [] || q == [])
   .simp only[Bool.or_eq_false_iff] at hpq;have hq:q≠[]:=by intro hq;rw[hq] at hpq;cases hpq.2
    simp only[Bool.false_eq_true,if_false];split
    .exact⟨rfl,λ_=>rfl⟩
    .split
     .exact cX (by decide)
     .have hi2:=(mO hw2).2 hq;cases is2
      .have:aN t q=none:=by
        cases hg:aN t q
        .rfl
        .rw[hg] at hi2;cases hi2
       rw[zE1 h hq this];exact⟨rfl,λ_=>rfl⟩
      .simp only[zAC,qU hw2,Bool.not_true,Bool.true_and,Bool.false_eq_true,if_false,if_true];cases aW t p<;>cases aW t q<;>simp only[Bool.not_true,Bool.not_false,Bool.true_and,Bool.false_and,Bool.false_eq_true,if_false,if_true,beq_self_eq_true,Int.reduceBEq]
       .exact⟨rfl,λ_=>rfl⟩
       .exact cX (by decide)
       .exact cX (by decide)
       .cases decide ((0:Int)<(hD t q).length)
        .exact⟨rfl,λ_=>rfl⟩
        .exact cX (by decide)
   .exact cX (by decide)
  .have:(e==0)=false:=by simpa using he
   rw[this];exact cX he
end kinds
variable {t:List It}{p:List UInt8}{is:Bool}{c:Cl}
theorem zHD(h:OkT t):aN t []=none:=by
 cases hg:aN t []
 .rfl
 .exact absurd rfl (h.getok (p:=[]) (by rw[hg];rfl)).1
theorem zCm(h:OkT t){fo:Bool}(hw:lA t fo (p,is,0))(hk:c.k=8∨c.k=12∨c.k=13∨c.k=14∨c.k=15):rW t c p is=(t,mA t p is (nodeAt t p) c):=by
 have hd:=qU hw;cases is
 .rcases hk with hk|hk|hk|hk|hk<;>simp only[rW,mA,BB,vC,hd,hk,Int.reduceBEq,Bool.or_self,Bool.false_or,Bool.or_false,Bool.false_and,Bool.not_false,Bool.false_eq_true,if_false,if_true]<;>rfl
 .have key:(nodeAt t p).k=3∨(aW t p=false)->nodeAt t p=(aN t p).getD nd0:=by
   intro h1;refine vH λhp=>?_;subst hp;rcases h1 with h1|h1<;>cases h1
  rcases hk with hk|hk|hk|hk|hk<;>simp only[rW,mA,BB,vC,hd,hk,Int.reduceBEq,Bool.or_self,Bool.or_false,Bool.or_true,Bool.true_and,Bool.false_and,Bool.not_true,Bool.false_eq_true,if_false,if_true]
  .by_cases hp:p=[]
   .subst hp;rw[zHD h];rfl
   .rw[vH hp];split<;>rfl
  .cases hdp:aW t p
   .rw[key (.inr hdp)];simp only[Bool.false_eq_true,if_false,beq_self_eq_true,Bool.not_true];split<;>rfl
   .rfl
  .split<;>rfl
theorem zBC{n:Nd}(h:(mA t p is n c).e≠0):mA t p is n c=anE (mA t p is n c).e:=by
 unfold mA BB at h ⊢
 repeat' split at h
 all_goals first|exact absurd rfl h|(simp only[*,if_true,if_false,Bool.false_eq_true];rfl)
theorem zOi(h:OkT t)(c:Cl):doP t c=doR t c:=by
 unfold doP doR;cases hr:(decide (c.k<1) || decide (15<c.k))
 .simp only[Bool.or_eq_false_iff,decide_eq_false_iff_not] at hr;simp only[Bool.false_eq_true,if_false];have hw:=CA h c.p (gE c.k);generalize cR t c.p (gE c.k)=r at *;obtain⟨p,is,e⟩:=r;simp only;by_cases he:e=0
  .subst he;simp only[beq_self_eq_true,Bool.not_true,Bool.false_eq_true,if_false];have hc:c.k=1∨c.k=2∨c.k=3∨c.k=4∨c.k=5∨c.k=6∨c.k=7∨c.k=9∨c.k=10∨c.k=11∨c.k=8∨c.k=12∨c.k=13∨c.k=14∨c.k=15:=by omega
   have asks:(c.k=8∨c.k=12∨c.k=13∨c.k=14∨c.k=15)->(if (!mQ c.k)=true then (t,mA t p is (nodeAt t p) c) else if ((cA t p is (nodeAt t p) c).2==0)=true then ((cA t p is (nodeAt t p) c).1,anE 0) else (t,anE (cA t p is (nodeAt t p) c).2))=if ((rW t c p is).2.e==0)=true then rW t c p is else (t,anE (rW t c p is).2.e):=by
    intro hk;have ht:mQ c.k=false:=by rcases hk with hk|hk|hk|hk|hk<;>rw[hk]<;>rfl
    rw[ht,zCm h hw hk];simp only[Bool.not_false,if_true];split
    .rfl
    .rename_i h0;rw[<- zBC (by simpa using h0)]
   have turns:mQ c.k=true->wR (cA t p is (nodeAt t p) c) (rW t c p is)->(if (!mQ c.k)=true then (t,mA t p is (nodeAt t p) c) else if ((cA t p is (nodeAt t p) c).2==0)=true then ((cA t p is (nodeAt t p) c).1,anE 0) else (t,anE (cA t p is (nodeAt t p) c).2))=if ((rW t c p is).2.e==0)=true then rW t c p is else (t,anE (rW t c p is).2.e):=by
    intro ht hrel;rw[ht];simp only[Bool.not_true,Bool.false_eq_true,if_false];exact zLs hrel
   rcases hc with hk|hk|hk|hk|hk|hk|hk|hk|hk|hk|hk
   .refine turns (by rw[hk];rfl) ?_;have:=JI (p:=p) (is:=is) (c:=c) h 2 (by rw[hk];rfl) (by rw[hk];rfl) (by simp);simpa only[cA,rW,hk,Int.reduceBEq,Bool.true_or,Bool.or_self,Bool.false_eq_true,if_true] using this
   .refine turns (by rw[hk];rfl) ?_;have:=JI (p:=p) (is:=is) (c:=c) h 1 (by rw[hk];rfl) (by rw[hk];rfl) (by simp);simpa only[cA,rW,hk,Int.reduceBEq,Bool.true_or,Bool.or_true,Bool.or_self,Bool.false_eq_true,if_true,if_false] using this
   .exact turns (by rw[hk];rfl) (zE0 h (by rw[hk] at hw;exact hw) hk)
   .exact turns (by rw[hk];rfl) (zEY h (by rw[hk] at hw;exact hw) hk)
   .exact turns (by rw[hk];rfl) (zAU hw hk)
   .exact turns (by rw[hk];rfl) (zEX hw hk)
   .refine turns (by rw[hk];rfl) ?_;have:=JI (p:=p) (is:=is) (c:=c) h 3 (by rw[hk];rfl) (by rw[hk];rfl) (by simp);simpa only[cA,rW,hk,Int.reduceBEq,Bool.true_or,Bool.or_true,Bool.or_self,Bool.false_eq_true,if_true,if_false] using this
   .exact turns (by rw[hk];rfl) (zAT h hw hk)
   .exact turns (by rw[hk];rfl) (zEW h hw hk)
   .exact turns (by rw[hk];rfl) (zEZ h hw hk)
   .exact asks hk
  .have:(e==0)=false:=by simpa using he
   rw[this];rfl
 .rfl
end
section
variable {N l:List Nm}{s:List UInt8}{x:Nm}{id:Int}{y:Ly × List It}
abbrev uL(N:List Nm):Prop:=N.Pairwise λx y=>bS x.n y.n=true
def kY(N:List Nm)(s:List UInt8):Nat:=(N.takeWhile λx=>bS x.n s).length
def JW(N:List Nm)(s:List UInt8):Bool:=N.any λx=>x.n==s
def lX(N:List Nm)(s:List UInt8):Option Nm:=N.find? λx=>x.n==s
def bV(N:List Nm)(s:List UInt8)(id:Int):List Nm:=(N.takeWhile λx=>bS x.n s)++⟨s,id⟩::(N.dropWhile λx=>bS x.n s).filter λx=>!(x.n==s)
def iA(N:List Nm)(s:List UInt8):List Nm:=N.filter λx=>!(x.n==s)
theorem dO(h:lX N s=some x):x∈N/\x.n=s:=⟨List.mem_of_find?_eq_some h,eq_of_beq (List.find?_some (p:=λz:Nm=>z.n==s) h)⟩
theorem zEl(h:lX N s=none):∀x∈N,(x.n==s)=false:=λx hx=>by
 have:=List.find?_eq_none.1 h x hx;simpa using this
theorem vG(N:List Nm)(s:List UInt8):(lX N s).isSome=JW N s:=by
 unfold lX JW
 induction N with
 | nil=>rfl
 | cons x N ih =>
  rw[List.find?_cons,List.any_cons];cases x.n==s
  .simpa using ih
  .rfl
theorem zIG(h:uL N):∀x∈N,∀y∈N,x.n=y.n->x=y:=by
 induction N with
 | nil=>intro x hx;cases hx
 | cons z N ih =>
  have h2:=List.pairwise_cons.1 h;intro x hx y hy e;rcases List.mem_cons.1 hx with h3|h3<;>rcases List.mem_cons.1 hy with h4|h4
  .rw[h3,h4]
  .have h5:=h2.1 y h4;rw[<- h3,e] at h5;rw[bM] at h5;cases h5
  .have h5:=h2.1 x h3;rw[<- h4,e] at h5;rw[bM] at h5;cases h5
  .exact ih h2.2 x h3 y h4 e
theorem zEm(h:uL N)(hx:x∈N):lX N x.n=some x:=by
 cases hf:lX N x.n with
 | none=>have:=zEl hf x hx;simp at this
 | some y=>obtain⟨h1,h2⟩:=dO hf;rw[zIG h y h1 x hx h2]
theorem YM: ∀x∈N.takeWhile (λx=>bS x.n s),bS x.n s=true/\x∈N:=by
 induction N with
 | nil=>intro x hx;cases hx
 | cons y N ih =>
  intro x hx;rw[List.takeWhile_cons] at hx;split at hx
  .rename_i hy;rcases List.mem_cons.1 hx with rfl|hx
   .exact⟨hy,List.mem_cons_self⟩
   .exact⟨(ih x hx).1,List.mem_cons_of_mem _ (ih x hx).2⟩
  .cases hx
theorem WS(h:uL N):∀x∈N.dropWhile (λx=>bS x.n s),bS x.n s=false/\x∈N:=by
 induction N with
 | nil=>intro x hx;cases hx
 | cons y N ih =>
  have h2:=List.pairwise_cons.1 h;intro x hx;rw[List.dropWhile_cons] at hx;split at hx
  .exact⟨(ih h2.2 x hx).1,List.mem_cons_of_mem _ (ih h2.2 x hx).2⟩
  .rename_i hy;have hy:bS y.n s=false:=by simpa using hy
   rcases List.mem_cons.1 hx with e|hx'
   .exact⟨e▸hy,e▸List.mem_cons_self⟩
   .refine⟨?_,List.mem_cons_of_mem _ hx'⟩;cases hb:bS x.n s with
    | false=>rfl
    | true=>rw[cB (h2.1 x hx') hb] at hy;cases hy
theorem sI(h:uL N):x∈bV N s id↔x=⟨s,id⟩∨(x∈N/\x.n≠s):=by
 unfold bV;have hsp:N=N.takeWhile (λx=>bS x.n s)++N.dropWhile (λx=>bS x.n s):=(List.takeWhile_append_dropWhile).symm;rw[List.mem_append,List.mem_cons,List.mem_filter];constructor
 .rintro (h1|rfl|⟨h1,h2⟩)
  .obtain⟨h3,h4⟩:=YM x h1;refine .inr ⟨h4,λe=>?_⟩;rw[e,bM] at h3;cases h3
  .exact .inl rfl
  .exact .inr ⟨(WS h x h1).2,by simpa using h2⟩
 .rintro (rfl|⟨h1,h2⟩)
  .exact .inr (.inl rfl)
  .rw[hsp] at h1;rcases List.mem_append.1 h1 with h3|h3
   .exact .inl h3
   .exact .inr (.inr ⟨h3,by simpa using h2⟩)
theorem nZ(h:uL N)(s:List UInt8)(id:Int):uL (bV N s id):=by
 unfold bV;refine List.pairwise_append.2 ⟨List.Pairwise.sublist (List.takeWhile_sublist _) h,List.pairwise_cons.2 ⟨λx hx=>?_,(List.Pairwise.sublist (List.dropWhile_sublist _) h).filter _⟩,λx hx y hy=>?_⟩
 .obtain⟨h1,h2⟩:=List.mem_filter.1 hx;have h3:=(WS h x h1).1;cases hb:bS s x.n with
  | true=>rfl
  | false=>have:=eE hb h3;simp[this] at h2
 .have h1:=(YM x hx).1;rcases List.mem_cons.1 hy with rfl|hy
  .exact h1
  .obtain⟨h2,_⟩:=List.mem_filter.1 hy;have h3:=(WS h y h2).1;have h4:=(YM x hx).2;cases hb:bS s y.n with
   | true=>exact cB h1 hb
   | false=>have:=eE hb h3;rw[<- this];exact h1
theorem iS(N:List Nm)(s:List UInt8)(id:Int):(bV N s id).length<=N.length+1:=by
 unfold bV;have h1:=List.length_filter_le (λx:Nm=>!(x.n==s)) (N.dropWhile λx=>bS x.n s);have h2:N.length=(N.takeWhile λx=>bS x.n s).length+(N.dropWhile λx=>bS x.n s).length:=by
  rw[<- List.length_append,List.takeWhile_append_dropWhile]
 rw[List.length_append,List.length_cons];omega
theorem gK: x∈iA N s↔x∈N/\x.n≠s:=by
 unfold iA;rw[List.mem_filter];simp
theorem sQ(h:uL N)(s:List UInt8):uL (iA N s):=h.filter _
theorem zC(N:List Nm)(s:List UInt8):(iA N s).length<=N.length:=List.length_filter_le _ _
theorem zEj(N:List Nm)(s:List UInt8):kY N s<=N.length:=List.Sublist.length_le (List.takeWhile_sublist _)
theorem zFx(N:List Nm)(s:List UInt8):N.take (kY N s)=N.takeWhile λx=>bS x.n s:=by
 unfold kY
 induction N with
 | nil=>rfl
 | cons x N ih =>
  rw[List.takeWhile_cons];split
  .simp only[List.length_cons,List.take_succ_cons,ih]
  .rfl
theorem zCu(N:List Nm)(s:List UInt8):N.drop (kY N s)=N.dropWhile λx=>bS x.n s:=by
 unfold kY
 induction N with
 | nil=>rfl
 | cons x N ih =>
  rw[List.takeWhile_cons,List.dropWhile_cons];split
  .simp only[List.length_cons,List.drop_succ_cons,ih]
  .rfl
theorem sV(h:∀x∈l,(x.n==s)=false):(l.filter λx=>!(x.n==s))=l:=List.filter_eq_self.2 λx hx=>by rw[h x hx];rfl
theorem zMV{y:Nm}(h:∀x∈l,bS y.n x.n=true)(e:y.n=s):∀x∈l,(x.n==s)=false:=λx hx=>by
 have:=h x hx;rw[e] at this;rw[Bool.eq_false_iff];intro h2;rw[eq_of_beq h2,bM] at this;cases this
theorem zNb: ∀x∈N.takeWhile (λx=>bS x.n s),(x.n==s)=false:=λx hx=>lC (YM x hx).1
theorem vF(h:uL N)(hx:x∈N):N[kY N x.n]?=some x:=by
 have h1:x∈N.dropWhile (λy=>bS y.n x.n):=by
  have hsp:N=N.takeWhile (λy=>bS y.n x.n)++N.dropWhile (λy=>bS y.n x.n):=(List.takeWhile_append_dropWhile).symm;rw[hsp] at hx;rcases List.mem_append.1 hx with h2|h2
  .have:=zNb x h2;simp at this
  .exact h2
 have h2:(N.drop (kY N x.n))[0]?=some x:=by
  rw[zCu];cases hd:N.dropWhile (λy=>bS y.n x.n) with
  | nil=>rw[hd] at h1;cases h1
  | cons y r =>
   have hs:uL (y::r):=by rw[<- hd];exact List.Pairwise.sublist (List.dropWhile_sublist _) h
   have hy:=(WS h y (by rw[hd];exact List.mem_cons_self)).1;rw[hd] at h1;rcases List.mem_cons.1 h1 with e|h3
   .rw[e];rfl
   .have:=(List.pairwise_cons.1 hs).1 x h3;rw[this] at hy;cases hy
 rw[List.getElem?_drop] at h2;simpa using h2
theorem nY(h:uL N)(hx:x∈N)(id:Int):bV N x.n id=N.set (kY N x.n) ⟨x.n,id⟩:=by
 have h1:=vF h hx;have hlt:=(List.getElem?_eq_some_iff.1 h1).1;rw[List.set_eq_take_append_cons_drop,if_pos hlt];unfold bV;rw[<- zFx,<- zCu];have hd:N.drop (kY N x.n)=x::N.drop (kY N x.n+1):=by
  rw[List.drop_eq_getElem_cons hlt];rw[List.getElem?_eq_getElem hlt,Option.some.injEq] at h1;rw[h1]
 have hs:uL (N.drop (kY N x.n)):=List.Pairwise.sublist (List.drop_sublist _ _) h;rw[hd] at hs ⊢;rw[List.filter_cons,if_neg (by simp),sV (zMV (List.pairwise_cons.1 hs).1 rfl)]
theorem KG(hx:JW N s=false)(id:Int):bV N s id=N.take (kY N s)++⟨s,id⟩::N.drop (kY N s):=by
 unfold bV;rw[zFx,zCu,sV λy hy=>?_];unfold JW at hx;rw[List.any_eq_false] at hx;have:=hx y (List.Sublist.subset (List.dropWhile_sublist _) hy);simpa using this
theorem qV(h:uL N)(hx:x∈N):iA N x.n=N.take (kY N x.n)++N.drop (kY N x.n+1):=by
 have h1:=vF h hx;have hlt:=(List.getElem?_eq_some_iff.1 h1).1;have hd:N.drop (kY N x.n)=x::N.drop (kY N x.n+1):=by
  rw[List.drop_eq_getElem_cons hlt];rw[List.getElem?_eq_getElem hlt,Option.some.injEq] at h1;rw[h1]
 have hs:uL (N.drop (kY N x.n)):=List.Pairwise.sublist (List.drop_sublist _ _) h;have e:iA N x.n=(N.take (kY N x.n)++N.drop (kY N x.n)).filter λy=>!(y.n==x.n):=by rw[List.take_append_drop];rfl
 rw[e,List.filter_append];rw[hd] at hs ⊢;rw[List.filter_cons,if_neg (by simp),sV (zMV (List.pairwise_cons.1 hs).1 rfl),sV (by rw[zFx];exact zNb)]
structure Dr where
 L:List (Ly × List It)
 N:List Nm
 x:Int
variable {d:Dr}
def Dr.G(d:Dr):List Ly:=d.L.map (·.1)
def rI(d:Dr)(id:Int):Option (Ly × List It):=d.L.find? λy=>y.1.i==id
def cF(d:Dr)(id:Int):List It:=match rI d id with
 | some y=>y.2
 | none=>[]
def cQ(N:List Nm)(s:List UInt8):Int:=match lX N s with
 | some x=>x.l
 | none=>0
def lR(d:Dr)(id:Int):Bool:=match rI d id with
 | some y=>y.1.f
 | none=>false
def CB(id:Int)(t:List It):List (Ly × List It)->List (Ly × List It)
 | []=>[]
 | y::l=>if y.1.i==id then (y.1,t)::l else y::CB id t l
def pI(d:Dr)(id:Int)(t:List It):Dr:=⟨CB id t d.L,d.N,d.x⟩
def zN(id:Int):List (Ly × List It)->List (Ly × List It)
 | []=>[]
 | y::l=>if y.1.i==id then (⟨y.1.i,y.1.p,y.1.s,true⟩,y.2)::l else y::zN id l
def mH(d:Dr)(s:List UInt8):Int:=if !bD s then 1 else if !(cQ d.N s==0) then 7 else if decide (20<=(d.N.length:Int)) || (decide (40<=(d.L.length:Int)) || decide (2147483647<=d.x)) then 16 else 0
def wW(d:Dr)(on:Int):Bool:=decide (12<(((bL d.G on).length:Int)+1))
def zAn(d:Dr):List (Ly × List It):=(gX d.G (d.N.map (·.l))).filterMap λy=>rI d y.i
def oN(d:Dr):Dr:=⟨zAn d,d.N,d.x⟩
def MH(d:Dr)(s:List UInt8)(p q:Int)(t:List It):Dr:=oN ⟨d.L++[(⟨d.x,p,q,false⟩,t)],bV d.N s d.x,d.x+1⟩
def doD(d:Dr)(s:List UInt8)(c:Cl):Dr × An :=
 if cQ d.N s==0 then (d,anE 6) else if lR d (cQ d.N s) && mQ c.k then (d,anE 14)
 else if !((doR (cF d (cQ d.N s)) c).2.e==0) then (d,(doR (cF d (cQ d.N s)) c).2) else (pI d (cQ d.N s) (doR (cF d (cQ d.N s)) c).1,(doR (cF d (cQ d.N s)) c).2)
def eP(d:Dr)(s:List UInt8):List It × Int:=if cQ d.N s==0 then ([],6) else (cF d (cQ d.N s),0)
def jX(d:Dr)(s sn:List UInt8):Dr × Int :=
 if cQ d.N s==0 then (d,6) else if lR d (cQ d.N s) then (d,14) else if !(mH d sn==0) then (d,mH d sn) else if wW d (cQ d.N s) then (d,15)
 else (MH ⟨zN (cQ d.N s) d.L,bV d.N sn (cQ d.N s),d.x⟩ s (cQ d.N s) 0 (cF d (cQ d.N s)),0)
def zDq(d:Dr)(sn s:List UInt8):Dr × Int :=
 if cQ d.N sn==0 then (d,6) else if !lR d (cQ d.N sn) then (d,13) else if !(mH d s==0) then (d,mH d s) else if wW d (cQ d.N sn) then (d,15)
 else (MH d s (cQ d.N sn) 0 (cF d (cQ d.N sn)),0)
def SF(d:Dr)(s:List UInt8):Dr × Int:=if cQ d.N s==0 then (d,6) else (oN ⟨d.L,iA d.N s,d.x⟩,0)
def TQ: Dr:=⟨[(⟨1,0,0,true⟩,[]),(⟨2,1,0,false⟩,[])],[⟨[109,97,105,110],2⟩],3⟩
theorem nF(h:rI d id=some y):y∈d.L/\y.1.i=id:=⟨List.mem_of_find?_eq_some h,eq_of_beq (List.find?_some (p:=λz:Ly × List It=>z.1.i==id) h)⟩
theorem HM(h:rI d id=none):∀y∈d.L,y.1.i≠id:=λy hy e=>by
 have:=List.find?_eq_none.1 h y hy;simp[e] at this
theorem oP(hi:pJ d.G)(hy:y∈d.L):rI d y.1.i=some y:=by
 have key:∀{l:List (Ly × List It)},pJ (l.map (·.1))->y∈l->l.find? (λz=>z.1.i==y.1.i)=some y:=by
  intro l
  induction l with
  | nil=>intro _ h;cases h
  | cons z l ih =>
   intro hp hm;have h2:=List.pairwise_cons.1 hp;rw[List.find?_cons];rcases List.mem_cons.1 hm with rfl|hm
   .rw[show (y.1.i==y.1.i)=true by simp]
   .have:z.1.i<y.1.i:=h2.1 y.1 (List.mem_map.2 ⟨y,hm,rfl⟩);rw[show (z.1.i==y.1.i)=false by simp;omega]
    exact ih h2.2 hm
 exact key hi hy
theorem zJs(d:Dr)(id:Int):eU d.G id=(rI d id).map (·.1):=by
 unfold eU rI Dr.G
 induction d.L with
 | nil=>rfl
 | cons y l ih =>
  rw[List.map_cons,List.find?_cons,List.find?_cons];cases y.1.i==id
  .exact ih
  .rfl
attribute [go_sem] gM
end
end Go.Dm
end
