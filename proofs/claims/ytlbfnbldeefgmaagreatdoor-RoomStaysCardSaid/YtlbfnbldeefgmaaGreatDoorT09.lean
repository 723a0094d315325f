/- Part 10 of the proof of roomStays_card, set without needless blanks. No condition. -/
import Derived.Test.YtlbfnbldeefgmaaGreatDoorT08
set_option linter.all false
set_option maxRecDepth 100000
set_option maxHeartbeats 16000000
section
section
namespace Go.Dm
open Go
theorem zKa:∀a b:List UInt8,bT a b=decide (a<b)
 | a,[]=>by rw[GZ];simp
 | [],y::b=>by show true=_;simp
 | x::a,y::b=>by
  rw[sR,zKa a b];by_cases h1:x<y
  .simp[h1,List.cons_lt_cons_iff]
  .by_cases h2:x=y
   .subst h2;simp[List.cons_lt_cons_iff]
   .simp[h1,h2,List.cons_lt_cons_iff]
theorem zKp{a b:List UInt8}:a<=b↔bT b a=false:=by rw[zKa,decide_eq_false_iff_not,List.not_lt]
def leS(x y:List UInt8):Bool:=decide (x<=y)
theorem AH{a b:List UInt8}:leS a b = !bT b a:=by
 unfold leS;cases h:bT b a
 .simpa using zKp.2 h
 .have:¬ a<=b:=λh2=>by rw[zKp.1 h2] at h;cases h
  simpa using this
theorem zEG{a b c:List UInt8}(h1:leS a b=true)(h2:leS b c=true):leS a c=true:=by
 rw[AH] at *;cases hc:bT c a
 .rfl
 .have h1':bT b a=false:=by simpa using h1
  have h2':bT c b=false:=by simpa using h2
  cases hb:bT a b
  .have:=eL hb h1';subst this;rw[hc] at h2';cases h2'
  .have:=cH hc hb;rw[this] at h2';cases h2'
theorem zEF{a b:List UInt8}:(leS a b || leS b a)=true:=by
 rw[AH,AH];cases h:bT b a
 .rfl
 .rw[gB h];rfl
theorem wW(l:List (List UInt8)):(l.mergeSort λx y=>decide (x<=y)).Pairwise λx y=>leS x y=true :=
 List.pairwise_mergeSort (le:=leS) (λa b c=>zEG) (λa b=>zEF) l
theorem lX{l:List (List UInt8)}(hl:l.Pairwise λx y=>leS x y=true):∀m,m<=l.length->(Lib.compactUpTo l.toArray m).Pairwise (λx y=>bT x y=true)/\∀x∈Lib.compactUpTo l.toArray m,∃(j:Nat) (_:j<m) (h:j<l.length),x=l[j]
 | 0,_=>by simp[Lib.compactUpTo]
 | m+1,hm=>by
  obtain⟨h1,h2⟩:=lX hl m (by omega);rw[Lib.compactUpTo_succ];have hg:l.toArray[m]! = l[m]:=by simp[getElem!_pos,show m<l.length by omega]
  split
  .rename_i hk;rw[hg];refine⟨List.pairwise_append.2 ⟨h1,by simp,λx hx y hy=>?_⟩,λx hx=>?_⟩
   .obtain ⟨j,hj,hjl,rfl⟩:=h2 x hx;have:y=l[m]:=by simpa using hy
    subst this;have hm1:m-1<l.length:=by omega
    have hg1:l.toArray[m-1]! = l[m-1]:=by simp[getElem!_pos,hm1]
    unfold Lib.keeps at hk;rw[hg,hg1] at hk;simp only[decide_eq_true_eq] at hk;have hne:l[m]≠l[m-1]:=by rcases hk with hk|hk;omega;exact hk
    have a1:leS l[m-1] l[m]=true:=List.pairwise_iff_getElem.1 hl _ _ hm1 (by omega) (by omega);have a2:bT l[m-1] l[m]=true:=by
     cases h:bT l[m-1] l[m]
     .rw[AH] at a1;exact absurd (eL h (by simpa using a1)).symm hne
     .rfl
    rcases Nat.lt_or_ge j (m-1) with h|h
    .have a3:leS l[j] l[m-1]=true:=List.pairwise_iff_getElem.1 hl _ _ hjl hm1 h;cases h5:bT l[j] l[m-1]
     .rw[AH] at a3;rw[eL h5 (by simpa using a3)];exact a2
     .exact cH h5 a2
    .have:j=m-1:=by omega
     subst this;exact a2
   .rcases List.mem_append.1 hx with hx|hx
    .obtain⟨j,hj,hjl,he⟩:=h2 x hx;exact⟨j,by omega,hjl,he⟩
    .have:x=l[m]:=by simpa using hx
     exact⟨m,by omega,by omega,this⟩
  .rw[List.append_nil];exact⟨h1,λx hx=>by obtain⟨j,hj,hjl,he⟩:=h2 x hx;exact⟨j,by omega,hjl,he⟩⟩
theorem PO(l:List (List UInt8)):(Lib.compact (l.mergeSort λx y=>decide (x<=y))).Pairwise λx y=>bT x y=true :=
 (lX (wW l) _ (Nat.le_refl _)).1
theorem SO{a b:List It}{p:List UInt8}{x:Ch}(h:x∈chF a b p):x=⟨p,rS (aN a p).isSome (aN b p).isSome ((aN a p).getD nd0) ((aN b p).getD nd0),(aN a p).getD nd0,(aN b p).getD nd0⟩/\rS (aN a p).isSome (aN b p).isSome ((aN a p).getD nd0) ((aN b p).getD nd0)≠0:=by
 unfold chF at h;split at h
 .rename_i hb;exact⟨by simpa using h,by simpa using hb⟩
 .simp at h
theorem xO{a b:List It}{x:Ch}:∀{l:List (List UInt8)},x∈zCC a b l->x.p∈l/\x∈chF a b x.p
 | [],h=>by simp[zCC] at h
 | p::r,h=>by
  rcases List.mem_append.1 h with h|h
  .have:=(SO h).1;have hp:x.p=p:=by rw[this]
   rw[hp];exact⟨List.mem_cons_self,h⟩
  .obtain⟨h1,h2⟩:=xO h;exact⟨List.mem_cons_of_mem _ h1,h2⟩
end Go.Dm
end
section
namespace Go.Dm
open Go
theorem rD{l:List (List UInt8)}:∀m,m<=l.length->∀j (hj:j<l.length),j<m->l[j]∈Lib.compactUpTo l.toArray m
 | 0,_,_,_,h=>by omega
 | m+1,hm,j,hj,h=>by
  rw[Lib.compactUpTo_succ];have hg:l.toArray[m]! = l[m]:=by simp[getElem!_pos,show m<l.length by omega]
  by_cases hjm:j<m
  .exact List.mem_append_left _ (rD m (by omega) j hj hjm)
  .have:j=m:=by omega
   subst this;cases hk:Lib.keeps l.toArray j
   .have hg1:l.toArray[j-1]! = l[j-1]:=by simp[getElem!_pos,show j-1<l.length by omega]
    unfold Lib.keeps at hk;rw[hg,hg1] at hk;simp only[decide_eq_false_iff_not,not_or,Decidable.not_not] at hk;rw[hk.2];exact List.mem_append_left _ (rD j (by omega) (j-1) (by omega) (by omega))
   .rw[hg];exact List.mem_append_right _ (by simp)
theorem yZ{l:List (List UInt8)}{p:List UInt8}:p∈Lib.compact (l.mergeSort λx y=>decide (x<=y))↔p∈l:=by
 have hp:∀q,q∈(l.mergeSort λx y=>decide (x<=y))↔q∈l:=λq=>List.mem_mergeSort;constructor
 .intro h;obtain⟨j,_,hj,rfl⟩:=(lX (wW l) _ (Nat.le_refl _)).2 p h;exact(hp _).1 (List.getElem_mem hj)
 .intro h;obtain⟨j,hj,rfl⟩:=List.mem_iff_getElem.1 ((hp p).2 h);exact rD _ (Nat.le_refl _) j hj hj
def PN(a b:List It):List (List UInt8):=Lib.compact (((a++b).map It.p).mergeSort λx y=>decide (x<=y))
def eS(a b:List It):List Ch:=zCC a b (PN a b)
theorem zBh{a b:List It}{p:List UInt8}:p∈PN a b↔(∃x∈a,x.p=p)∨∃x∈b,x.p=p:=by
 unfold PN;rw[yZ];simp only[List.mem_map,List.mem_append];constructor
 .rintro⟨x,h|h,rfl⟩
  .exact .inl ⟨x,h,rfl⟩
  .exact .inr ⟨x,h,rfl⟩
 .rintro (⟨x,h,rfl⟩|⟨x,h,rfl⟩)
  .exact⟨x,.inl h,rfl⟩
  .exact⟨x,.inr h,rfl⟩
theorem AX{x:Nd}(h:x.wf):pF x x=true:=by rw[AW h h];exact sE x
theorem XO{a b:List It}:∀l:List (List UInt8),(zCC a b l).length<=l.length
 | []=>by simp[zCC]
 | p::r=>by
  have:=XO (a:=a) (b:=b) r;have h2:(chF a b p).length<=1:=by unfold chF;split<;>simp
  rw[zCC,List.length_append,List.length_cons];omega
theorem EA(l:List (List UInt8)):(Lib.compact l).length<=l.length:=by
 unfold Lib.compact Lib.compactUpTo;rw[List.length_map];exact Nat.le_trans (List.length_filter_le ..) (by simp)
theorem sX(a b:List It):(eS a b).length<=a.length+b.length:=by
 unfold eS PN;refine Nat.le_trans (XO _) (Nat.le_trans (EA _) ?_);rw[List.length_mergeSort,List.length_map,List.length_append];exact Nat.le_refl _
theorem zCV{a b:List It}{x:Ch}(h:x∈eS a b):x.k=rS (aN a x.p).isSome (aN b x.p).isSome ((aN a x.p).getD nd0) ((aN b x.p).getD nd0)/\rS (aN a x.p).isSome (aN b x.p).isSome ((aN a x.p).getD nd0) ((aN b x.p).getD nd0)≠0:=by
 obtain⟨h1,h2⟩:=SO (xO h).2;exact⟨congrArg Ch.k h1,h2⟩
theorem nH{a b:List It}{x:Ch}(h:x∈eS a b):x.o=(aN a x.p).getD nd0/\x.n=(aN b x.p).getD nd0:=by
 obtain⟨h1,_⟩:=SO (xO h).2;exact⟨congrArg Ch.o h1,congrArg Ch.n h1⟩
theorem XT{a b:List It}(ha:OkT a)(hb:OkT b){x:Ch}(h:x∈eS a b):x.o.wf/\x.n.wf:=by
 obtain⟨h1,h2⟩:=nH h;rw[h1,h2];exact⟨ha.gett _,hb.gett _⟩
theorem xX{x:It}:∀{t:List It},x∈t->(aN t x.p).isSome=true
 | y::r,h=>by
  rw[aN];split
  .rfl
  .rename_i hy;rcases List.mem_cons.1 h with rfl|h
   .simp at hy
   .exact xX h
end Go.Dm
end
section
namespace Go.Dm
open Go
end Go.Dm
end
section
namespace Go.Dm
open Go
theorem LC(x k:Nat):(xF x k).toNat=x / 2 ^ k % 256:=by
 have h:IntKind.u8.wrap ((x:Int).fdiv (2 ^ k))=((x / 2 ^ k % 256:Nat):Int):=by
  have h2:(x:Int).fdiv (2 ^ k)=((x / 2 ^ k:Nat):Int):=by
   rw[Int.fdiv_eq_ediv_of_nonneg _ (by exact Int.le_of_lt (Int.pow_pos (by decide)))];simp
  rw[h2];simp only[IntKind.wrap,IntKind.bits,IntKind.signed,Bool.false_and];split<;>rename_i h
  .simp at h
  .simp
 unfold xF;rw[h,Int.toNat_natCast];show _ % 256=_;exact Nat.mod_eq_of_lt (Nat.mod_lt _ (by decide))
theorem zAf{x y:Nat}(hx:x<18446744073709551616)(hy:y<18446744073709551616)(h:LD x=LD y):x=y:=by
 simp only[LD,List.cons.injEq,and_true] at h;obtain⟨h7,h6,h5,h4,h3,h2,h1,h0⟩:=h;have e:∀k,xF x k=xF y k->x / 2 ^ k % 256=y / 2 ^ k % 256:=λk h=>by rw[<- LC,<- LC,h]
 have e7:=e _ h7;have e6:=e _ h6;have e5:=e _ h5;have e4:=e _ h4;have e3:=e _ h3;have e2:=e _ h2;have e1:=e _ h1;have e0:=e _ h0;simp only[show (2:Nat) ^ 56=72057594037927936 from rfl,show (2:Nat) ^ 48=281474976710656 from rfl,show (2:Nat) ^ 40=1099511627776 from rfl,show (2:Nat) ^ 32=4294967296 from rfl,show (2:Nat) ^ 24=16777216 from rfl,show (2:Nat) ^ 16=65536 from rfl,show (2:Nat) ^ 8=256 from rfl,show (2:Nat) ^ 0=1 from rfl,Nat.div_one] at e7 e6 e5 e4 e3 e2 e1 e0
 omega
theorem PQ{x:Nat}(hx:x<18446744073709551616):FJ x=(dC x==x):=by
 unfold FJ;rw[Bool.eq_iff_iff,beq_iff_eq,beq_iff_eq];exact⟨λh=>(zAf hx (sQ hx) h).symm,λh=>by rw[h]⟩
def zAn(n:Nd):Bool:=if n.k==1 then decide ((n.d.length:Int)<=2000) else if n.k==2 then (n.d.length:Int)==0 else if n.k==3 then (decide ((1:Int)<=n.d.length) && decide ((n.d.length:Int)<=120)) && n.d.all λb=>!(b==0) else false
theorem zJ4(b:UInt8):((b.toNat:Int)==0)=(b==0):=by
 rw[Bool.eq_iff_iff];simp only[beq_iff_eq];exact⟨λh=>UInt8.toNat_inj.1 (by have:(0:UInt8).toNat=0:=rfl;omega),λh=>by rw[h];rfl⟩
theorem zB3(d:List UInt8):pQ d=((decide ((1:Int)<=d.length) && decide ((d.length:Int)<=120)) && d.all λb=>!(b==0)):=by
 unfold pQ;simp only[zJ4];rw[Bool.and_comm]
def mQ(n:Nd):Bool:=zAn n && decide (0<=n.m) && decide (n.m<=4095) && (dC n.t==n.t)
theorem jY{n:Nd}(h:n.wf):mQ n=aP n:=by
 unfold mQ aP zAn;rw[PQ h];simp only[zB3];have e1:decide (0<=n.m) = !decide (n.m<0):=by rw[Bool.eq_iff_iff];simp
 have e2:decide (n.m<=4095) = !decide (4095<n.m):=by rw[Bool.eq_iff_iff];simp
 rw[e1,e2];generalize (if n.k==1 then decide ((n.d.length:Int)<=2000) else if n.k==2 then (n.d.length:Int)==0 else if n.k==3 then (decide ((1:Int)<=n.d.length) && decide ((n.d.length:Int)<=120)) && n.d.all (λb=>!(b==0)) else false)=q
 cases q<;>cases decide (n.m<0)<;>cases decide (4095<n.m)<;>cases (dC n.t==n.t)<;>rfl
def uR(n:Nd):Bool:=n.k==0 && n.m==0 && n.t==0 && n.d.length==0
def zL0(c:Ch):Bool:=!(c.p == []) && cI c.p && (uR c.o || !(c.k==1)) && (uR c.n || !(c.k==2)) && (c.k==1 || aP c.o) && (c.k==2 || aP c.n) && !(c.k==0) && (rS (!(c.k==1)) (!(c.k==2)) c.o c.n==c.k)
def yQ:Option (List UInt8)->List UInt8->Bool
 | none,_=>true
 | some q,p=>bT q p
def iE:Option (List UInt8)->List Ch->Bool
 | _,[]=>true
 | q,c::l=>zL0 c && yQ q c.p && iE (some c.p) l
theorem OkT.getok{t:List It}(h:OkT t){p:List UInt8}(hs:(aN t p).isSome=true):p≠[]/\cI p=true/\aP ((aN t p).getD nd0)=true:=by
 cases hg:aN t p with
 | none=>rw[hg] at hs;cases hs
 | some n =>
  obtain⟨x,hx,rfl,rfl⟩:=cL hg;have:=h.its x hx;exact⟨this.1,this.2.1,this.2.2.1⟩
theorem zCU{a b:List It}(ha:OkT a)(hb:OkT b):∀c∈eS a b,zL0 c=true:=by
 intro c hc;obtain⟨h1,h2⟩:=zCV hc;obtain⟨h3,h4⟩:=nH hc;have ga:=ha.getok (p:=c.p);have gb:=hb.getok (p:=c.p);have na:(aN a c.p).isSome=false->(aN a c.p).getD nd0=nd0:=λh=>by cases hg:aN a c.p with
  | none=>rfl
  | some _=>rw[hg] at h;cases h
 have nb:(aN b c.p).isSome=false->(aN b c.p).getD nd0=nd0:=λh=>by cases hg:aN b c.p with
  | none=>rfl
  | some _=>rw[hg] at h;cases h
 rw [<- h3] at h1 h2 ga na;rw[<- h4] at h1 h2 gb nb;rw[<- h1] at h2;generalize (aN a c.p).isSome=u at *;generalize (aN b c.p).isSome=v at *;have key:∀(u v:Bool),c.k=rS u v c.o c.n->u=(!(c.k==1))/\v=(!(c.k==2)):=by
  intro u v h;have hk:rS u v c.o c.n≠0:=by rw[<- h];exact h2
  rcases u with _|_<;>rcases v with _|_
  .exact absurd rfl hk
  .rw[h];exact⟨rfl,rfl⟩
  .rw[h];exact⟨rfl,rfl⟩
  .rw [h];unfold rS at hk ⊢;simp only[if_true] at hk ⊢;split at hk
   .exact absurd rfl hk
   .rename_i hq;rw[if_neg hq]
    repeat' split
    all_goals exact⟨rfl,rfl⟩
 obtain⟨k1,k2⟩:=key u v h1;have k0:(c.k==0)=false:=by simpa using h2
 have kk:(rS u v c.o c.n==c.k)=true:=by rw[<- h1];simp
 have hp:c.p≠[]/\cI c.p=true:=by
  cases u
  .cases v
   .exact absurd h1 (by intro h;exact h2 (by rw[h];rfl))
   .exact⟨(gb rfl).1,(gb rfl).2.1⟩
  .exact⟨(ga rfl).1,(ga rfl).2.1⟩
 unfold zL0;rw[<- k1,<- k2,k0,kk,hp.2];have e1:(c.k==1) = !u:=by rw[k1];simp
 have e2:(c.k==2) = !v:=by rw[k2];simp
 rw[e1,e2];have e3:(c.p == [])=false:=by simpa using hp.1
 rw[e3];have z0:uR nd0=true:=by decide
 cases u<;>cases v
 .exact absurd (h1.trans rfl) h2
 .rw[na rfl,z0,(gb rfl).2.2];simp
 .rw[nb rfl,z0,(ga rfl).2.2];simp
 .rw[(ga rfl).2.2,(gb rfl).2.2];simp
end Go.Dm
end
section
namespace Go.Dm
open Go
theorem ET(a:List UInt8):∀k,k<=a.length->Lib.lastIdx ⟨a.toArray⟩ 47 k=match eV a k with
  | some j=>(j:Int)
  | none=>-1
 | 0,_=>rfl
 | k+1,hk=>by
  have hlt:k<a.length:=by omega
  have e1:(ByteArray.mk a.toArray).data[k]! = a[k]:=by
   show a.toArray[k]! = _;simp[getElem!_pos,hlt]
  have e2:a.getD k 0=a[k]:=by simp[List.getD_eq_getElem?_getD,hlt]
  rw[Lib.lastIdx,eV,e1,e2];by_cases h:((a[k].toNat:Int)=47)
  .rw[if_pos h,if_pos (by simpa using h)]
  .rw[if_neg h,if_neg (by simpa using h),ET a k (by omega)]
theorem oD(a:List UInt8):Lib.lastIndexByte ⟨a.toArray⟩ 47=match eV a a.length with
  | some j=>(j:Int)
  | none=>-1:=by
 have:(ByteArray.mk a.toArray).size=a.length:=by simp[ByteArray.size]
 unfold Lib.lastIndexByte;rw[this];exact ET a _ (Nat.le_refl _)
theorem wM{p:List UInt8}{j:Nat}(h:eV p p.length=some j):j<p.length:=by
 rcases iS p p.length (Nat.le_refl _) with⟨h1,_⟩|⟨i,hi,h1,_⟩
 .rw[h1] at h;cases h
 .rw[h1] at h;cases h;exact hi
def xC(p:List UInt8):List UInt8:=match eV p p.length with
 | some j=>p.drop (j+1)
 | none=>p
theorem LB{p q:List UInt8}(hp:p≠[]):(p++[47]).isPrefixOf q=aJ p q:=by
 rw[Bool.eq_iff_iff,List.isPrefixOf_iff_prefix,zCq hp];constructor
 .rintro⟨r,hr⟩;exact⟨r,by rw[<- hr];simp⟩
 .rintro⟨r,hr⟩;exact⟨r,by rw[hr];simp⟩
def kJ(d n:List UInt8):List UInt8:=if d == [] then n else d++47::n
theorem zHh(p:List UInt8)(hd:aM p=[]->47 ∉ p):kJ (aM p) (xC p)=p:=by
 unfold kJ xC;rcases iS p p.length (Nat.le_refl _) with⟨h1,h2⟩|⟨i,h,h1,h2,h3,h4⟩
 .have:aM p=[]:=by unfold aM;rw[h1]
  rw[this,h1];rfl
 .have hdi:aM p=p.take i:=by unfold aM;rw[h1]
  have hi:aM p≠[]:=by
   intro h0;exact hd h0 (List.mem_iff_getElem.2 ⟨i,h,h3⟩)
  rw[if_neg (by simpa using hi),hdi,h1];have:=List.take_append_drop i p;rw[List.drop_eq_getElem_cons h,h3] at this;exact this
def HJ(t:List It)(p:List UInt8):List (List UInt8):=(t.filter λx=>aM x.p==p).map λx=>xC x.p
def iI(t:List It)(p:List UInt8):List (List UInt8):=(HJ t p).mergeSort λx y=>decide (x<=y)
theorem dH{y:It}:∀{t:List It},Srt t->y∈t->aN t y.p=some y.n
 | x::t,hs,hy=>by
  obtain⟨h1,h2⟩:=List.pairwise_cons.1 hs;rw[aN];rcases List.mem_cons.1 hy with rfl|hy
  .rw[if_pos (by simp)]
  .rw[if_neg (by rw[lO (h1 y hy)];decide)];exact dH h2 hy
theorem zCu(d:List UInt8)(b:UInt8)(n:List UInt8):bT d (d++b::n)=true:=by
 induction d with
 | nil=>rfl
 | cons x d ih=>rw[List.cons_append,sR,ih];simp
theorem ES{t:List It}(h:OkT t){k:Nat}{x:It}(hx:t[k]?=some x):aX (t.take k) (aM x.p)=true:=by
 by_cases hd:aM x.p=[]
 .rw[hd];rfl
 obtain ⟨m,h1,h2⟩:=cW hd (h.par x (List.mem_of_getElem? hx));obtain⟨y,hy,hyp,hyn⟩:=cL h1;obtain⟨n,hn,_⟩:=sY hd;have hlt:bT y.p x.p=true:=by
  have:=zCu (aM x.p) 47 n;rw[<- hn] at this;rw[hyp];exact this
 obtain ⟨j,hj,hje⟩:=List.mem_iff_getElem.1 hy;obtain⟨hk,hxe⟩:=List.getElem?_eq_some_iff.1 hx;have hjk:j<k:=by
  rcases Nat.lt_trichotomy j k with h'|h'|h'
  .exact h'
  .subst h';rw[<- hje,<- hxe,bX] at hlt;cases hlt
  .have:=List.pairwise_iff_getElem.1 h.srt k j hk hj h';rw[hje,hxe,gB hlt] at this;cases this
 have hyt:y∈t.take k:=List.mem_iff_getElem.2 ⟨j,by simp;omega,by rw[List.getElem_take];exact hje⟩
 have hst:Srt (t.take k):=h.srt.sublist (List.take_sublist k t);have:=dH hst hyt;rw[hyp] at this;exact fQ this (by rw[hyn];exact h2)
end Go.Dm
end
section
namespace Go.Dm
open Go
theorem DI{p:List UInt8}(hp:cI p=true)(h0:p≠[])(hd:aM p=[]):47 ∉ p:=by
 rcases xS p with⟨_,h⟩|⟨n,h,_⟩
 .exact h
 .rw[hd,List.nil_append] at h;unfold cI at hp;have:(p == [])=false:=by simpa using h0
  rw[this,Bool.false_or,Bool.and_eq_true] at hp;rw[h] at hp;have h1:=hp.1;unfold KT at h1;rw[show (47::n:List UInt8)=[]++47::n from rfl,sS,List.all_append] at h1
  simp[CZ,aZ] at h1
theorem OkT.joined{t:List It}(h:OkT t){x:It}(hx:x∈t):kJ (aM x.p) (xC x.p)=x.p :=
 zHh _ λhd=>DI (h.its x hx).2.1 (h.its x hx).1 hd
theorem zA4(t:List It)(d:List UInt8):(iI t d).length=(t.filter λx=>aM x.p==d).length:=by
 unfold iI HJ;rw[List.length_mergeSort,List.length_map]
theorem fG{α:Type}{g:α->Bool}{t:List α}{i:Nat}{x:α}(hx:t[i]?=some x):(t.take (i+1)).filter g=(t.take i).filter g++(if g x then [x] else []):=by
 rw[List.take_add_one,hx,List.filter_append];show _++[x].filter g=_;rw[List.filter_cons];split<;>rfl
end Go.Dm
end
end
section
section
namespace Go.Dm
open Go
def zPA(b:List UInt8):Nat:=b.foldl (λv c=>v*256+c.toNat) 0
structure Rd where
 b:List UInt8
 l:Bool
def Rd.raw(r:Rd)(n:Nat):List UInt8 × Rd:=if r.l || decide (r.b.length<n) then ([],⟨[],true⟩) else (r.b.take n,⟨r.b.drop n,false⟩)
def Rd.num(r:Rd)(n:Nat):Nat × Rd:=(zPA (r.raw n).1,(r.raw n).2)
def Rd.text(r:Rd):List UInt8 × Rd:=(r.num 2).2.raw (r.num 2).1
def Rd.node(r:Rd):Nd × Rd :=
 let k:=r.num 1
 let m:=k.2.num 2
 let t:=m.2.num 8
 let d:=t.2.text
 (⟨k.1,m.1,t.1,d.1⟩,d.2)
def Rd.items:Nat->Rd->List It × Rd
 | 0,r=>([],r)
 | n+1,r =>
  if r.l then ([],r) else
   let p:=r.text
   let x:=p.2.node
   let y:=Rd.items n x.2
   (⟨p.1,x.1⟩::y.1,y.2)
end Go.Dm
end
section
namespace Go.Dm
open Go
def qV(pre:List It)(p:List UInt8):Bool:=match pre.getLast? with
 | some y=>bT y.p p
 | none=>true
def mU(pre:List It)(x:It):Bool:=!(x.p == []) && (cI x.p && (qV pre x.p && (aP x.n && aX pre (aM x.p))))
def fH:List It->List It->Bool
 | _,[]=>true
 | pre,x::r=>mU pre x && fH (pre++[x]) r
def kY(t:List It):Bool:=fH [] t && decide ((t.length:Int)<=120)
theorem getLast_take{t:List It}{k:Nat}(hk:0<k)(hl:k<=t.length):(t.take k).getLast?=t[k-1]? := by
 rw[List.getLast?_eq_getElem?,List.length_take,Nat.min_eq_left hl,List.getElem?_take,if_pos (by omega)]
theorem ZO{t:List It}{x:It}(h:Srt t)(ha:qV t x.p=true):Srt (t++[x]):=by
 refine List.pairwise_append.2 ⟨h,by simp,λy hy z hz=>?_⟩
 have:z=x:=by simpa using hz
 subst this;unfold qV at ha;cases hl:t.getLast? with
 | none =>
  have:t=[]:=by simpa using hl
  subst this;cases hy
 | some w =>
  rw[hl] at ha;simp only at ha;obtain⟨s,rfl⟩:=List.getLast?_eq_some_iff.1 hl;rcases List.mem_append.1 hy with hy|hy
  .have:=(List.pairwise_append.1 h).2.2 y hy w (by simp);exact cH this ha
  .have:y=w:=by simpa using hy
   rw[this];exact ha
theorem FR:∀{r pre:List It},Srt pre->(∀x∈pre,OkI x)->(∀x∈r,x.n.t<18446744073709551616)->(∀x∈pre,aX pre (aM x.p)=true)->fH pre r=true->Srt (pre++r)/\(∀x∈pre++r,OkI x)/\∀x∈pre++r,aX (pre++r) (aM x.p)=true
 | [],pre,hs,ho,_,hp,_=>by rw[List.append_nil];exact⟨hs,ho,hp⟩
 | x::r,pre,hs,ho,ht,hp,h=>by
  rw [fH,Bool.and_eq_true] at h;obtain⟨h1,h2⟩:=h;simp only[mU,Bool.and_eq_true,Bool.not_eq_true'] at h1;obtain⟨a1,a2,a3,a4,a5⟩:=h1;have hs2:Srt (pre++[x]):=ZO hs a3;have up:∀p,aX pre p=true->aX (pre++[x]) p=true:=by
   intro p hd;by_cases hp0:p=[]
   .subst hp0;rfl
   .obtain⟨m,k1,k2⟩:=cW hp0 hd;obtain⟨y,hy,hyp,hyn⟩:=cL k1;have:=dH hs2 (List.mem_append_left [x] hy);rw[hyp] at this;exact fQ this (by rw[hyn];exact k2)
  have:=FR (r:=r) (pre:=pre++[x]) hs2 (λy hy=>by
   rcases List.mem_append.1 hy with hy|hy
   .exact ho y hy
   .have:y=x:=by simpa using hy
    subst this;exact⟨by simpa using a1,a2,a4,ht y List.mem_cons_self⟩) (λy hy=>ht y (List.mem_cons_of_mem _ hy)) (λy hy=>by
   rcases List.mem_append.1 hy with hy|hy
   .exact up _ (hp y hy)
   .have:y=x:=by simpa using hy
    subst this;exact up _ a5) h2
  rw[List.append_assoc] at this;exact this
theorem QD{t:List It}(ht:∀x∈t,x.n.t<18446744073709551616)(h:kY t=true):OkT t:=by
 unfold kY at h;rw[Bool.and_eq_true,decide_eq_true_eq] at h;obtain⟨h1,h2⟩:=h;have:=FR (r:=t) (pre:=[]) List.Pairwise.nil (λx hx=>by cases hx) ht (λx hx=>by cases hx) h1
 rw[List.nil_append] at this;exact⟨⟨this.1,this.2.1,by omega⟩,this.2.2⟩
theorem zBB{t:List It}(h:OkT t):∀k,k<=t.length->fH (t.take k) (t.drop k)=true:=by
 have key:∀n k,t.length-k<=n->k<=t.length->fH (t.take k) (t.drop k)=true:=by
  intro n
  induction n with
  | zero =>
   intro k h1 h2;rw[List.drop_of_length_le (by omega)];rfl
  | succ n ih =>
   intro k h1 h2;by_cases hlt:k<t.length
   .have hx:t[k]?=some t[k]:=List.getElem?_eq_getElem hlt;rw[List.drop_eq_getElem_cons hlt,fH];have hn:=ih (k+1) (by omega) (by omega);rw[List.take_add_one,hx] at hn;obtain⟨i1,i2,i3,_⟩:=h.its _ (List.getElem_mem hlt);have hd:=ES h hx;have ha:qV (t.take k) t[k].p=true:=by
     unfold qV;by_cases h0:0<k
     .rw[getLast_take h0 (by omega),List.getElem?_eq_getElem (by omega)];exact List.pairwise_iff_getElem.1 h.srt (k-1) k (by omega) hlt (by omega)
     .have:k=0:=by omega
      subst this;rfl
    have i1':(t[k].p == [])=false:=by simpa using i1
    rw[mU,i1',i2,ha,i3,hd];exact hn
   .rw[List.drop_of_length_le (by omega)];rfl
 exactλk hk=>key _ k (Nat.le_refl _) hk
theorem zFU{t:List It}(h:OkT t):kY t=true:=by
 have:=zBB h 0 (Nat.zero_le _);have hl:=h.len;simp only[List.take_zero,List.drop_zero] at this;rw[kY,this,Bool.true_and];exact decide_eq_true (by omega)
end Go.Dm
end
section
namespace Go.Dm
open Go
def Rd.take(r:Rd):Nd × Bool:=if r.node.2.l || !aP r.node.1 then (⟨0,0,0,[]⟩,false) else (r.node.1,true)
end Go.Dm
end
section
namespace Go.Dm
open Go
end Go.Dm
end
section
namespace Go.Dm
open Go
end Go.Dm
end
section
namespace Go.Dm
open Go
def jM(l:List Ch):Bool:=iE none l
end Go.Dm
end
end
section
namespace Go.Dm
open Go
def FW(x y:It):Bool:=x.p==y.p && pF x.n y.n
def gU:List It->List It->Bool
 | [],[]=>true
 | x::a,y::b=>FW x y && gU a b
 | _,_=>false
theorem WX{a b:List It}{k:Nat}{x y:It}(ha:a[k]?=some x)(hb:b[k]?=some y):gU (a.drop k) (b.drop k)=(FW x y && gU (a.drop (k+1)) (b.drop (k+1))):=by
 obtain⟨h1,rfl⟩:=List.getElem?_eq_some_iff.1 ha;obtain⟨h2,rfl⟩:=List.getElem?_eq_some_iff.1 hb;rw[List.drop_eq_getElem_cons h1,List.drop_eq_getElem_cons h2,gU]
theorem FX:∀{a b:List It},a.length≠b.length->gU a b=false
 | [],[],h=>absurd rfl h
 | [],_::_,_=>rfl
 | _::_,[],_=>rfl
 | x::a,y::b,h=>by
  rw[gU,FX (a:=a) (b:=b) λe=>h (by simp[e]),Bool.and_false]
theorem BW:∀{a:List It},(∀x∈a,x.n.wf)->gU a a=true
 | [],_=>rfl
 | x::a,h=>by
  rw[gU,BW λy hy=>h y (List.mem_cons_of_mem _ hy),FW,AX (h x List.mem_cons_self)];simp
def FH(n:Nd):Prop:=n.wf/\dC n.t=n.t
theorem gO{n:Nd}(h:aP n=true)(hw:n.wf):FH n:=by
 refine⟨hw,?_⟩;unfold aP at h;simp only[Bool.and_eq_true,Bool.not_eq_true',Bool.or_eq_false_iff,decide_eq_false_iff_not] at h;obtain⟨⟨⟨_,_⟩,h2⟩,_⟩:=h;rw[Bool.not_eq_false',PQ hw,beq_iff_eq] at h2;exact h2
theorem zA5{x y:Nd}(hx:FH x)(hy:FH y)(h:pF x y=true):x=y:=by
 rw[AW hx.1 hy.1] at h;unfold lC at h;simp only[Bool.and_eq_true,beq_iff_eq] at h;obtain⟨⟨⟨h1,h2⟩,h3⟩,h4⟩:=h;rw[hx.2,hy.2] at h4;cases x;cases y;simp only at h1 h2 h3 h4;subst h1 h2 h3 h4;rfl
theorem QY:∀{a b:List It},(∀x∈a,FH x.n)->(∀x∈b,FH x.n)->gU a b=true->a=b
 | [],[],_,_,_=>rfl
 | [],_::_,_,_,h=>by cases h
 | _::_,[],_,_,h=>by cases h
 | x::a,y::b,ha,hb,h=>by
  rw[gU,Bool.and_eq_true,FW,Bool.and_eq_true,beq_iff_eq] at h;obtain⟨⟨h1,h2⟩,h3⟩:=h;have e1:=zA5 (ha x List.mem_cons_self) (hb y List.mem_cons_self) h2;have e2:=QY (λz hz=>ha z (List.mem_cons_of_mem _ hz)) (λz hz=>hb z (List.mem_cons_of_mem _ hz)) h3;cases x;cases y;simp only at h1 e1;subst h1 e1 e2;rfl
theorem OkT.plain{t:List It}(h:OkT t):∀x∈t,FH x.n:=λx hx=>by
 obtain⟨_,_,h3,h4⟩:=h.its x hx;exact gO h3 h4
def sM(l:List Ch):Nat->Option (List UInt8)
 | 0=>none
 | k+1=>(l[k]?).map Ch.p
theorem yP{l:List Ch}{k:Nat}{x:Ch}(h:l[k]?=some x):sM l (k+1)=some x.p:=by rw[sM,h];rfl
theorem zK6(a b:List UInt8):decide (CT a b<=0) = !bT b a:=by
 unfold CT;cases h:bT b a
 .cases h2:bT a b
  .have e:=eL h2 h;subst e;simp
  .simp
 .rw[gB h];cases he:(a==b)
  .simp
  .rw[eq_of_beq he,bX] at h;cases h
end Go.Dm
end
