/- Part 19 of the proof of roomStays_card, set without needless blanks. No condition. -/
import Derived.Test.YtlbfnbldeefgmaaGreatDoorT11
import Derived.Test.YtlbfnbldeefgmaaGreatDoorT14
set_option linter.all false
set_option maxRecDepth 100000
set_option maxHeartbeats 16000000
section
namespace Go.Dm
open Go
section
variable {t:List It}{p:List UInt8}{n:Nd}{is fo:Bool}
theorem RA(p:List UInt8)(n:Nd):∀(t:List It) (d:Bool),(CW p n d t).length=(rG t p).length+(if d then 0 else 1)
 | [],d=>by cases d<;>rfl
 | x::r,d=>by
  have h:=RA p n r (d || !bT x.p p);simp only[CW,rG,List.length_append,List.filter_cons] at h ⊢;cases d<;>cases hb:bT x.p p<;>cases hp:x.p==p<;>simp[hb] at h ⊢<;>omega
theorem zLn(h:(aN t p).isSome=true):(rG t p).length<t.length:=by
 induction t with
 | nil=>cases h
 | cons x r ih =>
  rw[aN] at h;simp only[rG,List.filter_cons];split at h
  .rename_i hp;rw[hp];exact Nat.lt_succ_of_le (List.length_filter_le ..)
  .rename_i hp;have hp:(x.p==p)=false:=by simpa using hp
   rw[hp];simp only[Bool.not_false,if_true,List.length_cons];exact Nat.succ_lt_succ (ih h)
theorem JZ(h:OkT t)(hs:(aN t p).isSome=true)(hn:aP n=true)(hk:(n.k==2)=false->aX t p=false):wR t p n=(xL t p n,0):=by
 obtain ⟨h1,h2,_⟩:=h.getok hs;obtain⟨m,hm⟩:=Option.isSome_iff_exists.1 hs;have h3:aX t (aM p)=true:=MB h (.inr ⟨m,hm⟩);have h4:(if n.k != 2 then cB t p else t)=t:=by
  split
  .rename_i hne;exact EX h h1 (hk (by simpa using hne))
  .rfl
 have h5:(xL t p n).length<=120:=by
  have e:=RA p n t false;have l:=zLn hs;have:=h.len;unfold xL;rw[e];simp only[Bool.false_eq_true,if_false];omega
 have hb:(p == [])=false:=by simpa using h1
 unfold wR;rw[h4,hb,h2,hn,h3,decide_eq_false (by omega)];rfl
theorem BQ: aP n=true↔(0<=n.m/\n.m<=4095/\FJ n.t=true)/\(if n.k==1 then decide ((n.d.length:Int)<=2000) else if n.k==2 then (n.d.length:Int)==0 else if n.k==3 then pQ n.d else false)=true:=by
 unfold aP;rw[Bool.and_eq_true];refine and_congr ?_ Iff.rfl;simp only[Bool.not_eq_true',Bool.or_eq_false_iff,decide_eq_false_iff_not,Bool.not_eq_false'];constructor
 .rintro⟨⟨a,b⟩,c⟩;exact⟨by omega,by omega,c⟩
 .rintro⟨a,b,c⟩;exact⟨⟨by omega,by omega⟩,c⟩
theorem zBl(x:Nat):FJ (dC x)=true:=by
 unfold FJ;rw[zAb];simp
theorem zBC{m:Int}(h:aP n=true)(hm:kX m=true):aP ⟨n.k,m,n.t,n.d⟩=true:=by
 rw[BQ] at h ⊢;unfold kX at hm;simp only[Bool.and_eq_true,decide_eq_true_eq] at hm;exact⟨⟨hm.1,hm.2,h.1.2.2⟩,h.2⟩
theorem zBE{x:Nat}(h:aP n=true):aP ⟨n.k,n.m,dC x,n.d⟩=true:=by
 rw[BQ] at h ⊢;exact⟨⟨h.1.1,h.1.2.1,zBl x⟩,h.2⟩
theorem FT{d:List UInt8}(h:aP n=true)(hk2:(n.k==2)=false)(hk3:(n.k==3)=false)(hd:d.length<=2000):aP ⟨n.k,n.m,n.t,d⟩=true:=by
 rw[BQ] at h ⊢;refine⟨h.1,?_⟩;have h2:=h.2;simp only[hk2,hk3,Bool.false_eq_true,if_false] at h2 ⊢;split
 .exact decide_eq_true (by omega)
 .rename_i hk1;rw[if_neg hk1] at h2;cases h2
theorem zGO{had b:List UInt8}{f:Nat}(h1:had.length<=2000)(h2:f<=had.length)(h3:f+b.length<=2000):(wrD had f b).length<=2000:=by
 unfold wrD;simp only[List.length_append,List.length_take,List.length_drop];omega
def wY(x:List It × Int)(y:List It × An):Prop:=y.2=anE x.2/\(x.2=0->y.1=x.1)
theorem dA{e:Int}(he:e≠0):wY ([],e) (t,anE e):=⟨rfl,λh=>absurd h he⟩
theorem qM{u:List It}:wY (u,0) (u,anE 0):=⟨rfl,λ_=>rfl⟩
theorem zMh{x:List It × Int}{y:List It × An}(h:wY x y):(if x.2==0 then (x.1,anE 0) else (t,anE x.2))=(if y.2.e==0 then y else (t,anE y.2.e)):=by
 obtain⟨y1,y2⟩:=y;obtain⟨h1,h2⟩:=h;simp only at h1 h2;subst h1;by_cases h0:x.2=0
 .have:(x.2==0)=true:=by simpa using h0
  rw[h2 h0,h0];rfl
 .have h3:(x.2==0)=false:=by simpa using h0
  have h4:((anE x.2).e==0)=false:=h3;rw[h3];simp only[h4,Bool.false_eq_true,if_false];rfl
theorem mX(h:lM t fo (p,is,0)):(p=[]->is=true)/\(p≠[]->is=(aN t p).isSome):=by
 obtain⟨h1,h2⟩:=h rfl;simp only at h1 h2;constructor
 .intro hp;cases is
  .exact absurd hp (h2 rfl).1
  .rfl
 .intro hp;cases is
  .rw[(h2 rfl).2];rfl
  .rcases h1 rfl with h|⟨n,h,_⟩
   .exact absurd h hp
   .rw[h];rfl
theorem rF(h:lM t fo (p,is,0)):XV is (nodeAt t p)=(is && aX t p):=by
 unfold XV nodeAt;by_cases hp:p=[]
 .subst hp;rfl
 .have hb:(p == [])=false:=by simpa using hp
  rw[hb,oW hp];simp only[Bool.false_eq_true,if_false];rw[(mX h).2 hp];cases aN t p<;>rfl
theorem vP(hp:p≠[]):nodeAt t p=(aN t p).getD nd0:=by
 unfold nodeAt;rw[if_neg (by simpa using hp)]
section kinds
variable {t:List It}{p:List UInt8}{is fo:Bool}{c:Cl}
theorem EH(h:OkT t)(hw:lM t true (p,true,0))(hd:aX t p=false):p≠[]/\(aN t p).isSome=true/\aP ((aN t p).getD nd0)=true/\(((aN t p).getD nd0).k==2)=false/\(((aN t p).getD nd0).k==3)=false:=by
 have hp:p≠[]:=by intro hp;subst hp;cases hd
 have hs:(aN t p).isSome=true:=((mX hw).2 hp).symm;have hr:=h.getok hs;obtain⟨h1,_⟩:=hw rfl;rcases h1 rfl with h1|⟨n,h1,h2⟩
 .exact absurd h1 hp
 .rw[oW hp] at hd;simp only at h1;rw[h1] at hd hr ⊢;exact⟨hp,rfl,hr.2.2,hd,h2 rfl⟩
theorem KE(h:OkT t)(kind:Int)(hk:(c.k==7)=(kind==3))(hk1:(c.k==2)=(kind==1))(hk2:kind=1∨kind=2∨kind=3):wY (xI t p is kind c) ((zF t c p is).1,anE (zF t c p is).2):=by
 unfold xI zF;cases is
 .simp only[Bool.false_eq_true,if_false];have hm:(zL7 kind c).m=if c.k==7 then 511 else c.m:=by unfold zL7;rw[hk]
  rw[hm];generalize hmm:(if c.k==7 then (511:Int) else c.m)=m
  have hM:(decide (m<0) || decide ((4095:Int)<m)) = !kX m:=by
   unfold kX;rw[Bool.not_and,<- decide_not,<- decide_not]
   congr 1<;>exact decide_eq_decide.2 (by omega)
  have hT:(decide ((c.d.length:Int)<1) || decide ((120:Int)<c.d.length) || !(c.d.all λb=>!(b==0))) = !pQ c.d:=by
   unfold pQ;rw[Bool.not_and,Bool.not_and,<- decide_not,<- decide_not,Bool.or_comm];have e:(c.d.all λb=>!(b==0))=(c.d.all λb=>!((b.toNat:Int)==0)):=by
    congr 1;funext b
    congr 1
    rw[Bool.eq_iff_iff,beq_iff_eq,beq_iff_eq];constructor
    .rintro rfl;rfl
    .intro h;exact UInt8.toNat_inj.1 (by have:(0:UInt8).toNat=0:=rfl;omega)
   rw[e]
   congr 1
   congr 1<;>exact decide_eq_decide.2 (by omega)
  rw[hT,hM,hk,hk1];cases kX m
  .simp only[Bool.not_false,Bool.true_or,if_true];exact dA (by decide)
  .simp only[Bool.not_true,Bool.false_or,Bool.false_eq_true,if_false];split
   .exact dA (by decide)
   .split
    .exact dA (by decide)
    .have e:zL7 kind c=⟨if kind==1 then 1 else if kind==3 then 3 else 2,m,dC c.t,if kind==1 || kind==3 then c.d else []⟩:=by
      unfold zL7;rw[<- hmm,hk];rcases hk2 with rfl|rfl|rfl<;>rfl
     rw[e];refine⟨rfl,λ_=>rfl⟩
 .simp only[if_true];exact dA (by decide)
theorem zFN(h:OkT t)(hw:lM t true (p,is,0))(hk:c.k=3):wY (cE t p is (nodeAt t p) c) (sI t c p is):=by
 have hd:=rF hw;simp only[cE,sI,vJ,hk,hd,Int.reduceBEq,Bool.or_self,Bool.false_and,Bool.false_eq_true,if_false,if_true];cases is
 .exact dA (e:=6) (by decide)
 .cases hdp:aX t p
  .obtain ⟨hp,hs,hr,hk2,hk3⟩:=EH h hw hdp;rw[vP hp];generalize (aN t p).getD nd0=n at *;have hl:=iW hr;simp only[CS,Bool.not_true,Bool.true_and,Bool.false_eq_true,if_false,beq_self_eq_true];split
   .exact dA (by decide)
   .split
    .exact dA (by decide)
    .rename_i h1 h2;simp only[Bool.or_eq_true,decide_eq_true_eq,not_or] at h1 h2;rw[JZ h hs (FT hr hk2 hk3 (zGO hl (by omega) (by omega))) λ_=>hdp];exact qM
  .exact dA (by decide)
theorem zFL(h:OkT t)(hw:lM t true (p,is,0))(hk:c.k=4):wY (cE t p is (nodeAt t p) c) (sI t c p is):=by
 have hd:=rF hw;simp only[cE,sI,vJ,hk,hd,Int.reduceBEq,Bool.or_self,Bool.false_and,Bool.false_eq_true,if_false,if_true];cases is
 .exact dA (e:=6) (by decide)
 .cases hdp:aX t p
  .obtain⟨hp,hs,hr,hk2,hk3⟩:=EH h hw hdp;rw[vP hp];generalize (aN t p).getD nd0=n at *;have hl:=iW hr;simp only[CN,Bool.not_true,Bool.true_and,Bool.false_eq_true,if_false,beq_self_eq_true];split
   .exact dA (by decide)
   .have hle:(n.d.take c.n.toNat).length<=n.d.length:=List.length_take_le' ..;rw[JZ h hs (FT hr hk2 hk3 (by omega)) λ_=>hdp];exact qM
  .exact dA (by decide)
theorem zBx(hw:lM t fo (p,is,0))(hk:c.k=5):wY (cE t p is (nodeAt t p) c) (sI t c p is):=by
 have hd:=rF hw;simp only[cE,sI,vJ,hk,hd,Int.reduceBEq,Bool.or_self,Bool.false_and,Bool.false_eq_true,if_false,if_true];cases is
 .exact dA (e:=6) (by decide)
 .cases aX t p
  .exact qM
  .exact dA (by decide)
theorem zFK(hw:lM t fo (p,is,0))(hk:c.k=6):wY (cE t p is (nodeAt t p) c) (sI t c p is):=by
 have hd:=rF hw;simp only[cE,sI,BR,hk,hd,Int.reduceBEq,Bool.or_self,Bool.true_and,Bool.false_eq_true,if_false,if_true];cases p == []
 .cases is
  .exact dA (by decide)
  .cases aX t p
   .exact dA (by decide)
   .simp only[Bool.not_true,Bool.and_self,Bool.false_eq_true,if_false];split
    .exact dA (by decide)
    .exact qM
 .exact dA (by decide)
theorem zFJ(h:OkT t)(hw:lM t fo (p,is,0))(hk:c.k=10):wY (cE t p is (nodeAt t p) c) (sI t c p is):=by
 simp only[cE,sI,zKD,hk,Int.reduceBEq,Bool.or_self,Bool.or_false,Bool.true_and,Bool.false_and,Bool.false_eq_true,if_false,if_true];cases is
 .exact dA (by decide)
 .have hM:(p == [] || !kX c.m)=(p == [] || decide (c.m<0) || decide (4095<c.m)):=by
   unfold kX;rw[Bool.not_and,<- decide_not,<- decide_not,Bool.or_assoc]
   congr 2<;>exact decide_eq_decide.2 (by omega)
  rw[<- hM];simp only[Bool.not_true,Bool.false_eq_true,if_false];split
  .exact dA (by decide)
  .rename_i h1;simp only[Bool.or_eq_true,not_or,Bool.not_eq_true',Bool.not_eq_false,beq_iff_eq] at h1;have hs:(aN t p).isSome=true:=((mX hw).2 h1.1).symm;rw[vP h1.1,JZ h hs (zBC (h.getok hs).2.2 h1.2) λhk2=>?_]
   .exact qM
   .rw[oW h1.1];obtain⟨m,hm⟩:=Option.isSome_iff_exists.1 hs;rw[hm] at hk2 ⊢;exact hk2
theorem zFM(h:OkT t)(hw:lM t fo (p,is,0))(hk:c.k=11):wY (cE t p is (nodeAt t p) c) (sI t c p is):=by
 simp only[cE,sI,zKD,hk,Int.reduceBEq,Bool.or_self,Bool.or_false,Bool.or_true,Bool.false_and,Bool.false_eq_true,if_false,if_true];cases is
 .exact dA (by decide)
 .simp only[Bool.not_true,Bool.false_eq_true,if_false];split
  .exact dA (by decide)
  .rename_i h1;simp only[beq_iff_eq] at h1;have hs:(aN t p).isSome=true:=((mX hw).2 h1).symm;rw[vP h1,JZ h hs (zBE (h.getok hs).2.2) λhk2=>?_]
   .exact qM
   .rw[oW h1];obtain⟨m,hm⟩:=Option.isSome_iff_exists.1 hs;rw[hm] at hk2 ⊢;exact hk2
theorem zBw(h:OkT t)(hw:lM t fo (p,is,0))(hk:c.k=9):wY (cE t p is (nodeAt t p) c) (sI t c p is):=by
 have hd:=rF hw;have hw2:=CP h c.to' false;simp only[cE,sI,sC,WO,hk,hd,Int.reduceBEq,Bool.or_self,Bool.false_and,Bool.false_eq_true,if_false,if_true];cases is
 .exact dA (by decide)
 .generalize cV t c.to' false=r at *;obtain⟨q,is2,e⟩:=r;simp only[Bool.not_true,Bool.true_and,Bool.false_eq_true,if_false];by_cases he:e=0
  .subst he;simp only[beq_self_eq_true,Bool.not_true,Bool.false_eq_true,if_false];cases hpq:(p == [] || q == [])
   .simp only[Bool.or_eq_false_iff] at hpq;have hq:q≠[]:=by intro hq;rw[hq] at hpq;cases hpq.2
    simp only[Bool.false_eq_true,if_false];split
    .exact⟨rfl,λ_=>rfl⟩
    .split
     .exact dA (by decide)
     .have hi2:=(mX hw2).2 hq;cases is2
      .have:aN t q=none:=by
        cases hg:aN t q
        .rfl
        .rw[hg] at hi2;cases hi2
       rw[zFO h hq this];exact⟨rfl,λ_=>rfl⟩
      .simp only[zBc,rF hw2,Bool.not_true,Bool.true_and,Bool.false_eq_true,if_false,if_true];cases aX t p<;>cases aX t q<;>simp only[Bool.not_true,Bool.not_false,Bool.true_and,Bool.false_and,Bool.false_eq_true,if_false,if_true,beq_self_eq_true,Int.reduceBEq]
       .exact⟨rfl,λ_=>rfl⟩
       .exact dA (by decide)
       .exact dA (by decide)
       .cases decide ((0:Int)<(iI t q).length)
        .exact⟨rfl,λ_=>rfl⟩
        .exact dA (by decide)
   .exact dA (by decide)
  .have:(e==0)=false:=by simpa using he
   rw[this];exact dA he
end kinds
variable {t:List It}{p:List UInt8}{is:Bool}{c:Cl}
theorem zIv(h:OkT t):aN t []=none:=by
 cases hg:aN t []
 .rfl
 .exact absurd rfl (h.getok (p:=[]) (by rw[hg];rfl)).1
theorem zC8(h:OkT t){fo:Bool}(hw:lM t fo (p,is,0))(hk:c.k=8∨c.k=12∨c.k=13∨c.k=14∨c.k=15):sI t c p is=(t,mJ t p is (nodeAt t p) c):=by
 have hd:=rF hw;cases is
 .rcases hk with hk|hk|hk|hk|hk<;>simp only[sI,mJ,BM,vJ,hd,hk,Int.reduceBEq,Bool.or_self,Bool.false_or,Bool.or_false,Bool.false_and,Bool.not_false,Bool.false_eq_true,if_false,if_true]<;>rfl
 .have key:(nodeAt t p).k=3∨(aX t p=false)->nodeAt t p=(aN t p).getD nd0:=by
   intro h1;refine vP λhp=>?_;subst hp;rcases h1 with h1|h1<;>cases h1
  rcases hk with hk|hk|hk|hk|hk<;>simp only[sI,mJ,BM,vJ,hd,hk,Int.reduceBEq,Bool.or_self,Bool.or_false,Bool.or_true,Bool.true_and,Bool.false_and,Bool.not_true,Bool.false_eq_true,if_false,if_true]
  .by_cases hp:p=[]
   .subst hp;rw[zIv h];rfl
   .rw[vP hp];split<;>rfl
  .cases hdp:aX t p
   .rw[key (.inr hdp)];simp only[Bool.false_eq_true,if_false,beq_self_eq_true,Bool.not_true];split<;>rfl
   .rfl
  .split<;>rfl
theorem zCn{n:Nd}(h:(mJ t p is n c).e≠0):mJ t p is n c=anE (mJ t p is n c).e:=by
 unfold mJ BM at h ⊢
 repeat' split at h
 all_goals first|exact absurd rfl h|(simp only[*,if_true,if_false,Bool.false_eq_true];rfl)
theorem zNy(h:OkT t)(c:Cl):doP t c=doR t c:=by
 unfold doP doR;cases hr:(decide (c.k<1) || decide (15<c.k))
 .simp only[Bool.or_eq_false_iff,decide_eq_false_iff_not] at hr;simp only[Bool.false_eq_true,if_false];have hw:=CP h c.p (gY c.k);generalize cV t c.p (gY c.k)=r at *;obtain⟨p,is,e⟩:=r;simp only;by_cases he:e=0
  .subst he;simp only[beq_self_eq_true,Bool.not_true,Bool.false_eq_true,if_false];have hc:c.k=1∨c.k=2∨c.k=3∨c.k=4∨c.k=5∨c.k=6∨c.k=7∨c.k=9∨c.k=10∨c.k=11∨c.k=8∨c.k=12∨c.k=13∨c.k=14∨c.k=15:=by omega
   have asks:(c.k=8∨c.k=12∨c.k=13∨c.k=14∨c.k=15)->(if (!mZ c.k)=true then (t,mJ t p is (nodeAt t p) c) else if ((cE t p is (nodeAt t p) c).2==0)=true then ((cE t p is (nodeAt t p) c).1,anE 0) else (t,anE (cE t p is (nodeAt t p) c).2))=if ((sI t c p is).2.e==0)=true then sI t c p is else (t,anE (sI t c p is).2.e):=by
    intro hk;have ht:mZ c.k=false:=by rcases hk with hk|hk|hk|hk|hk<;>rw[hk]<;>rfl
    rw[ht,zC8 h hw hk];simp only[Bool.not_false,if_true];split
    .rfl
    .rename_i h0;rw[<- zCn (by simpa using h0)]
   have turns:mZ c.k=true->wY (cE t p is (nodeAt t p) c) (sI t c p is)->(if (!mZ c.k)=true then (t,mJ t p is (nodeAt t p) c) else if ((cE t p is (nodeAt t p) c).2==0)=true then ((cE t p is (nodeAt t p) c).1,anE 0) else (t,anE (cE t p is (nodeAt t p) c).2))=if ((sI t c p is).2.e==0)=true then sI t c p is else (t,anE (sI t c p is).2.e):=by
    intro ht hrel;rw[ht];simp only[Bool.not_true,Bool.false_eq_true,if_false];exact zMh hrel
   rcases hc with hk|hk|hk|hk|hk|hk|hk|hk|hk|hk|hk
   .refine turns (by rw[hk];rfl) ?_;have:=KE (p:=p) (is:=is) (c:=c) h 2 (by rw[hk];rfl) (by rw[hk];rfl) (by simp);simpa only[cE,sI,hk,Int.reduceBEq,Bool.true_or,Bool.or_self,Bool.false_eq_true,if_true] using this
   .refine turns (by rw[hk];rfl) ?_;have:=KE (p:=p) (is:=is) (c:=c) h 1 (by rw[hk];rfl) (by rw[hk];rfl) (by simp);simpa only[cE,sI,hk,Int.reduceBEq,Bool.true_or,Bool.or_true,Bool.or_self,Bool.false_eq_true,if_true,if_false] using this
   .exact turns (by rw[hk];rfl) (zFN h (by rw[hk] at hw;exact hw) hk)
   .exact turns (by rw[hk];rfl) (zFL h (by rw[hk] at hw;exact hw) hk)
   .exact turns (by rw[hk];rfl) (zBx hw hk)
   .exact turns (by rw[hk];rfl) (zFK hw hk)
   .refine turns (by rw[hk];rfl) ?_;have:=KE (p:=p) (is:=is) (c:=c) h 3 (by rw[hk];rfl) (by rw[hk];rfl) (by simp);simpa only[cE,sI,hk,Int.reduceBEq,Bool.true_or,Bool.or_true,Bool.or_self,Bool.false_eq_true,if_true,if_false] using this
   .exact turns (by rw[hk];rfl) (zBw h hw hk)
   .exact turns (by rw[hk];rfl) (zFJ h hw hk)
   .exact turns (by rw[hk];rfl) (zFM h hw hk)
   .exact asks hk
  .have:(e==0)=false:=by simpa using he
   rw[this];rfl
 .rfl
end
section
variable {N l:List Nm}{s:List UInt8}{x:Nm}{id:Int}{y:Ly × List It}
abbrev wZ(N:List Nm):Prop:=N.Pairwise λx y=>bT x.n y.n=true
def lJ(N:List Nm)(s:List UInt8):Nat:=(N.takeWhile λx=>bT x.n s).length
def SC(N:List Nm)(s:List UInt8):Bool:=N.any λx=>x.n==s
def fV(N:List Nm)(s:List UInt8):Option Nm:=N.find? λx=>x.n==s
def bL(N:List Nm)(s:List UInt8)(id:Int):List Nm:=(N.takeWhile λx=>bT x.n s)++⟨s,id⟩::(N.dropWhile λx=>bT x.n s).filter λx=>!(x.n==s)
def lI(N:List Nm)(s:List UInt8):List Nm:=N.filter λx=>!(x.n==s)
theorem cN(h:fV N s=some x):x∈N/\x.n=s:=⟨List.mem_of_find?_eq_some h,eq_of_beq (List.find?_some (p:=λz:Nm=>z.n==s) h)⟩
theorem WC(h:fV N s=none):∀x∈N,(x.n==s)=false:=λx hx=>by
 have:=List.find?_eq_none.1 h x hx;simpa using this
theorem JP(N:List Nm)(s:List UInt8):(fV N s).isSome=SC N s:=by
 unfold fV SC
 induction N with
 | nil=>rfl
 | cons x N ih =>
  rw[List.find?_cons,List.any_cons];cases x.n==s
  .simpa using ih
  .rfl
theorem zJw(h:wZ N):∀x∈N,∀y∈N,x.n=y.n->x=y:=by
 induction N with
 | nil=>intro x hx;cases hx
 | cons z N ih =>
  have h2:=List.pairwise_cons.1 h;intro x hx y hy e;rcases List.mem_cons.1 hx with h3|h3<;>rcases List.mem_cons.1 hy with h4|h4
  .rw[h3,h4]
  .have h5:=h2.1 y h4;rw[<- h3,e] at h5;rw[bX] at h5;cases h5
  .have h5:=h2.1 x h3;rw[<- h4,e] at h5;rw[bX] at h5;cases h5
  .exact ih h2.2 x h3 y h4 e
theorem JQ(h:wZ N)(hx:x∈N):fV N x.n=some x:=by
 cases hf:fV N x.n with
 | none=>have:=WC hf x hx;simp at this
 | some y=>obtain⟨h1,h2⟩:=cN hf;rw[zJw h y h1 x hx h2]
theorem ZS: ∀x∈N.takeWhile (λx=>bT x.n s),bT x.n s=true/\x∈N:=by
 induction N with
 | nil=>intro x hx;cases hx
 | cons y N ih =>
  intro x hx;rw[List.takeWhile_cons] at hx;split at hx
  .rename_i hy;rcases List.mem_cons.1 hx with rfl|hx
   .exact⟨hy,List.mem_cons_self⟩
   .exact⟨(ih x hx).1,List.mem_cons_of_mem _ (ih x hx).2⟩
  .cases hx
theorem XW(h:wZ N):∀x∈N.dropWhile (λx=>bT x.n s),bT x.n s=false/\x∈N:=by
 induction N with
 | nil=>intro x hx;cases hx
 | cons y N ih =>
  have h2:=List.pairwise_cons.1 h;intro x hx;rw[List.dropWhile_cons] at hx;split at hx
  .exact⟨(ih h2.2 x hx).1,List.mem_cons_of_mem _ (ih h2.2 x hx).2⟩
  .rename_i hy;have hy:bT y.n s=false:=by simpa using hy
   rcases List.mem_cons.1 hx with e|hx'
   .exact⟨e▸hy,e▸List.mem_cons_self⟩
   .refine⟨?_,List.mem_cons_of_mem _ hx'⟩;cases hb:bT x.n s with
    | false=>rfl
    | true=>rw[cH (h2.1 x hx') hb] at hy;cases hy
theorem jB(h:wZ N):x∈bL N s id↔x=⟨s,id⟩∨(x∈N/\x.n≠s):=by
 unfold bL;have hsp:N=N.takeWhile (λx=>bT x.n s)++N.dropWhile (λx=>bT x.n s):=(List.takeWhile_append_dropWhile).symm;rw[List.mem_append,List.mem_cons,List.mem_filter];constructor
 .rintro (h1|rfl|⟨h1,h2⟩)
  .obtain⟨h3,h4⟩:=ZS x h1;refine .inr ⟨h4,λe=>?_⟩;rw[e,bX] at h3;cases h3
  .exact .inl rfl
  .exact .inr ⟨(XW h x h1).2,by simpa using h2⟩
 .rintro (rfl|⟨h1,h2⟩)
  .exact .inr (.inl rfl)
  .rw[hsp] at h1;rcases List.mem_append.1 h1 with h3|h3
   .exact .inl h3
   .exact .inr (.inr ⟨h3,by simpa using h2⟩)
theorem jC(h:wZ N)(s:List UInt8)(id:Int):wZ (bL N s id):=by
 unfold bL;refine List.pairwise_append.2 ⟨List.Pairwise.sublist (List.takeWhile_sublist _) h,List.pairwise_cons.2 ⟨λx hx=>?_,(List.Pairwise.sublist (List.dropWhile_sublist _) h).filter _⟩,λx hx y hy=>?_⟩
 .obtain⟨h1,h2⟩:=List.mem_filter.1 hx;have h3:=(XW h x h1).1;cases hb:bT s x.n with
  | true=>rfl
  | false=>have:=eL hb h3;simp[this] at h2
 .have h1:=(ZS x hx).1;rcases List.mem_cons.1 hy with rfl|hy
  .exact h1
  .obtain⟨h2,_⟩:=List.mem_filter.1 hy;have h3:=(XW h y h2).1;have h4:=(ZS x hx).2;cases hb:bT s y.n with
   | true=>exact cH h1 hb
   | false=>have:=eL hb h3;rw[<- this];exact h1
theorem fE(N:List Nm)(s:List UInt8)(id:Int):(bL N s id).length<=N.length+1:=by
 unfold bL;have h1:=List.length_filter_le (λx:Nm=>!(x.n==s)) (N.dropWhile λx=>bT x.n s);have h2:N.length=(N.takeWhile λx=>bT x.n s).length+(N.dropWhile λx=>bT x.n s).length:=by
  rw[<- List.length_append,List.takeWhile_append_dropWhile]
 rw[List.length_append,List.length_cons];omega
theorem iA: x∈lI N s↔x∈N/\x.n≠s:=by
 unfold lI;rw[List.mem_filter];simp
theorem tC(h:wZ N)(s:List UInt8):wZ (lI N s):=h.filter _
theorem zP(N:List Nm)(s:List UInt8):(lI N s).length<=N.length:=List.length_filter_le _ _
theorem zE7(N:List Nm)(s:List UInt8):lJ N s<=N.length:=List.Sublist.length_le (List.takeWhile_sublist _)
theorem zGp(N:List Nm)(s:List UInt8):N.take (lJ N s)=N.takeWhile λx=>bT x.n s:=by
 unfold lJ
 induction N with
 | nil=>rfl
 | cons x N ih =>
  rw[List.takeWhile_cons];split
  .simp only[List.length_cons,List.take_succ_cons,ih]
  .rfl
theorem zDh(N:List Nm)(s:List UInt8):N.drop (lJ N s)=N.dropWhile λx=>bT x.n s:=by
 unfold lJ
 induction N with
 | nil=>rfl
 | cons x N ih =>
  rw[List.takeWhile_cons,List.dropWhile_cons];split
  .simp only[List.length_cons,List.drop_succ_cons,ih]
  .rfl
theorem tG(h:∀x∈l,(x.n==s)=false):(l.filter λx=>!(x.n==s))=l:=List.filter_eq_self.2 λx hx=>by rw[h x hx];rfl
theorem zNQ{y:Nm}(h:∀x∈l,bT y.n x.n=true)(e:y.n=s):∀x∈l,(x.n==s)=false:=λx hx=>by
 have:=h x hx;rw[e] at this;rw[Bool.eq_false_iff];intro h2;rw[eq_of_beq h2,bX] at this;cases this
theorem zN6: ∀x∈N.takeWhile (λx=>bT x.n s),(x.n==s)=false:=λx hx=>lO (ZS x hx).1
theorem JO(h:wZ N)(hx:x∈N):N[lJ N x.n]?=some x:=by
 have h1:x∈N.dropWhile (λy=>bT y.n x.n):=by
  have hsp:N=N.takeWhile (λy=>bT y.n x.n)++N.dropWhile (λy=>bT y.n x.n):=(List.takeWhile_append_dropWhile).symm;rw[hsp] at hx;rcases List.mem_append.1 hx with h2|h2
  .have:=zN6 x h2;simp at this
  .exact h2
 have h2:(N.drop (lJ N x.n))[0]?=some x:=by
  rw[zDh];cases hd:N.dropWhile (λy=>bT y.n x.n) with
  | nil=>rw[hd] at h1;cases h1
  | cons y r =>
   have hs:wZ (y::r):=by rw[<- hd];exact List.Pairwise.sublist (List.dropWhile_sublist _) h
   have hy:=(XW h y (by rw[hd];exact List.mem_cons_self)).1;rw[hd] at h1;rcases List.mem_cons.1 h1 with e|h3
   .rw[e];rfl
   .have:=(List.pairwise_cons.1 hs).1 x h3;rw[this] at hy;cases hy
 rw[List.getElem?_drop] at h2;simpa using h2
theorem kG(h:wZ N)(hx:x∈N)(id:Int):bL N x.n id=N.set (lJ N x.n) ⟨x.n,id⟩:=by
 have h1:=JO h hx;have hlt:=(List.getElem?_eq_some_iff.1 h1).1;rw[List.set_eq_take_append_cons_drop,if_pos hlt];unfold bL;rw[<- zGp,<- zDh];have hd:N.drop (lJ N x.n)=x::N.drop (lJ N x.n+1):=by
  rw[List.drop_eq_getElem_cons hlt];rw[List.getElem?_eq_getElem hlt,Option.some.injEq] at h1;rw[h1]
 have hs:wZ (N.drop (lJ N x.n)):=List.Pairwise.sublist (List.drop_sublist _ _) h;rw[hd] at hs ⊢;rw[List.filter_cons,if_neg (by simp),tG (zNQ (List.pairwise_cons.1 hs).1 rfl)]
theorem LF(hx:SC N s=false)(id:Int):bL N s id=N.take (lJ N s)++⟨s,id⟩::N.drop (lJ N s):=by
 unfold bL;rw[zGp,zDh,tG λy hy=>?_];unfold SC at hx;rw[List.any_eq_false] at hx;have:=hx y (List.Sublist.subset (List.dropWhile_sublist _) hy);simpa using this
theorem TO(h:wZ N)(hx:x∈N):lI N x.n=N.take (lJ N x.n)++N.drop (lJ N x.n+1):=by
 have h1:=JO h hx;have hlt:=(List.getElem?_eq_some_iff.1 h1).1;have hd:N.drop (lJ N x.n)=x::N.drop (lJ N x.n+1):=by
  rw[List.drop_eq_getElem_cons hlt];rw[List.getElem?_eq_getElem hlt,Option.some.injEq] at h1;rw[h1]
 have hs:wZ (N.drop (lJ N x.n)):=List.Pairwise.sublist (List.drop_sublist _ _) h;have e:lI N x.n=(N.take (lJ N x.n)++N.drop (lJ N x.n)).filter λy=>!(y.n==x.n):=by rw[List.take_append_drop];rfl
 rw[e,List.filter_append];rw[hd] at hs ⊢;rw[List.filter_cons,if_neg (by simp),tG (zNQ (List.pairwise_cons.1 hs).1 rfl),tG (by rw[zGp];exact zN6)]
structure Dr where
 L:List (Ly × List It)
 N:List Nm
 x:Int
variable {d:Dr}
def Dr.G(d:Dr):List Ly:=d.L.map (·.1)
def qY(d:Dr)(id:Int):Option (Ly × List It):=d.L.find? λy=>y.1.i==id
def bU(d:Dr)(id:Int):List It:=match qY d id with
 | some y=>y.2
 | none=>[]
def bQ(N:List Nm)(s:List UInt8):Int:=match fV N s with
 | some x=>x.l
 | none=>0
def eM(d:Dr)(id:Int):Bool:=match qY d id with
 | some y=>y.1.f
 | none=>false
def CQ(id:Int)(t:List It):List (Ly × List It)->List (Ly × List It)
 | []=>[]
 | y::l=>if y.1.i==id then (y.1,t)::l else y::CQ id t l
def mD(d:Dr)(id:Int)(t:List It):Dr:=⟨CQ id t d.L,d.N,d.x⟩
def vM(id:Int):List (Ly × List It)->List (Ly × List It)
 | []=>[]
 | y::l=>if y.1.i==id then (⟨y.1.i,y.1.p,y.1.s,true⟩,y.2)::l else y::vM id l
def jS(d:Dr)(s:List UInt8):Int:=if !aZ s then 1 else if !(bQ d.N s==0) then 7 else if decide (20<=(d.N.length:Int)) || (decide (40<=(d.L.length:Int)) || decide (2147483647<=d.x)) then 16 else 0
def qT(d:Dr)(on:Int):Bool:=decide (12<(((bN d.G on).length:Int)+1))
def zAW(d:Dr):List (Ly × List It):=(kL d.G (d.N.map (·.l))).filterMap λy=>qY d y.i
def oY(d:Dr):Dr:=⟨zAW d,d.N,d.x⟩
def DG(d:Dr)(s:List UInt8)(p q:Int)(t:List It):Dr:=oY ⟨d.L++[(⟨d.x,p,q,false⟩,t)],bL d.N s d.x,d.x+1⟩
def doD(d:Dr)(s:List UInt8)(c:Cl):Dr × An :=
 if bQ d.N s==0 then (d,anE 6) else if eM d (bQ d.N s) && mZ c.k then (d,anE 14)
 else if !((doR (bU d (bQ d.N s)) c).2.e==0) then (d,(doR (bU d (bQ d.N s)) c).2) else (mD d (bQ d.N s) (doR (bU d (bQ d.N s)) c).1,(doR (bU d (bQ d.N s)) c).2)
def aW(d:Dr)(s:List UInt8):List It × Int:=if bQ d.N s==0 then ([],6) else (bU d (bQ d.N s),0)
def iM(d:Dr)(s sn:List UInt8):Dr × Int :=
 if bQ d.N s==0 then (d,6) else if eM d (bQ d.N s) then (d,14) else if !(jS d sn==0) then (d,jS d sn) else if qT d (bQ d.N s) then (d,15)
 else (DG ⟨vM (bQ d.N s) d.L,bL d.N sn (bQ d.N s),d.x⟩ s (bQ d.N s) 0 (bU d (bQ d.N s)),0)
def TY(d:Dr)(sn s:List UInt8):Dr × Int :=
 if bQ d.N sn==0 then (d,6) else if !eM d (bQ d.N sn) then (d,13) else if !(jS d s==0) then (d,jS d s) else if qT d (bQ d.N sn) then (d,15)
 else (DG d s (bQ d.N sn) 0 (bU d (bQ d.N sn)),0)
def TN(d:Dr)(s:List UInt8):Dr × Int:=if bQ d.N s==0 then (d,6) else (oY ⟨d.L,lI d.N s,d.x⟩,0)
def VY: Dr:=⟨[(⟨1,0,0,true⟩,[]),(⟨2,1,0,false⟩,[])],[⟨[109,97,105,110],2⟩],3⟩
theorem nO(h:qY d id=some y):y∈d.L/\y.1.i=id:=⟨List.mem_of_find?_eq_some h,eq_of_beq (List.find?_some (p:=λz:Ly × List It=>z.1.i==id) h)⟩
theorem JE(h:qY d id=none):∀y∈d.L,y.1.i≠id:=λy hy e=>by
 have:=List.find?_eq_none.1 h y hy;simp[e] at this
theorem nP(hi:pV d.G)(hy:y∈d.L):qY d y.1.i=some y:=by
 have key:∀{l:List (Ly × List It)},pV (l.map (·.1))->y∈l->l.find? (λz=>z.1.i==y.1.i)=some y:=by
  intro l
  induction l with
  | nil=>intro _ h;cases h
  | cons z l ih =>
   intro hp hm;have h2:=List.pairwise_cons.1 hp;rw[List.find?_cons];rcases List.mem_cons.1 hm with rfl|hm
   .rw[show (y.1.i==y.1.i)=true by simp]
   .have:z.1.i<y.1.i:=h2.1 y.1 (List.mem_map.2 ⟨y,hm,rfl⟩);rw[show (z.1.i==y.1.i)=false by simp;omega]
    exact ih h2.2 hm
 exact key hi hy
theorem zD6(d:Dr)(id:Int):dR d.G id=(qY d id).map (·.1):=by
 unfold dR qY Dr.G
 induction d.L with
 | nil=>rfl
 | cons y l ih =>
  rw[List.map_cons,List.find?_cons,List.find?_cons];cases y.1.i==id
  .exact ih
  .rfl
attribute [go_sem] fF
end
end Go.Dm
end
