/- Part 11 of the proof of roomMerges_card, set without needless blanks. No condition. -/
import Derived.Test.YtflcjdohmojepaaGreatDoorM08
set_option linter.all false
set_option maxRecDepth 100000
set_option maxHeartbeats 16000000
section
section
namespace Go.Dm
open Go
theorem zLc:∀a b:List UInt8,cD a b=decide (a<b)
 | a,[]=>by rw[JR];simp
 | [],y::b=>by show true=_;simp
 | x::a,y::b=>by
  rw[tW,zLc a b];grind [List.cons_lt_cons_iff]
theorem zLr{a b:List UInt8}:a<=b↔cD b a=false:=by rw[zLc,decide_eq_false_iff_not,List.not_lt]
def leS(x y:List UInt8):Bool:=decide (x<=y)
theorem XP{a b:List UInt8}:leS a b = !cD b a:=by grind [leS,zLr.2,zLr.1]
theorem zFK{a b c:List UInt8}(h1:leS a b=true)(h2:leS b c=true):leS a c=true:=by grind [XP,eI,cL]
theorem zFJ{a b:List UInt8}:(leS a b || leS b a)=true:=by grind [XP,eS]
theorem xY(l:List (List UInt8)):(l.mergeSort λx y=>decide (x<=y)).Pairwise λx y=>leS x y=true :=
 List.pairwise_mergeSort (le:=leS) (λa b c=>zFK) (λa b=>zFJ) l
theorem lY{l:List (List UInt8)}(hl:l.Pairwise λx y=>leS x y=true):∀m,m<=l.length->(Lib.compactUpTo l.toArray m).Pairwise (λx y=>cD x y=true)/\∀x∈Lib.compactUpTo l.toArray m,∃(j:Nat) (_:j<m) (h:j<l.length),x=l[j]
 | 0,_=>by simp[Lib.compactUpTo]
 | m+1,hm=>by
  obtain⟨h1,h2⟩:=lY hl m (by omega);rw[Lib.compactUpTo_succ];have hg:l.toArray[m]! = l[m]:=by grind
  split
  .grind [Lib.keeps,List.pairwise_iff_getElem.1,XP,eI]
  .grind
theorem lS(l:List (List UInt8)):(Lib.compact (l.mergeSort λx y=>decide (x<=y))).Pairwise λx y=>cD x y=true :=
 (lY (xY l) _ (Nat.le_refl _)).1
theorem JU{a b:List It}{p:List UInt8}{x:Ch}(h:x∈chF a b p):x=⟨p,lG (aM a p).isSome (aM b p).isSome ((aM a p).getD nd0) ((aM b p).getD nd0),(aM a p).getD nd0,(aM b p).getD nd0⟩/\lG (aM a p).isSome (aM b p).isSome ((aM a p).getD nd0) ((aM b p).getD nd0)≠0:=by grind [chF]
theorem tY{a b:List It}{x:Ch}:∀{l:List (List UInt8)},x∈VO a b l->x.p∈l/\x∈chF a b x.p
 | [],h=>by grind [VO]
 | p::r,h=>by
  rcases List.mem_append.1 h with h|h
  .have:=(JU h).1;simp_all
  .obtain⟨h1,h2⟩:=tY h;simp_all
theorem ZZ{a b:List It}:∀{l:List (List UInt8)},l.Pairwise (λx y=>cD x y=true)->(VO a b l).Pairwise λx y=>cD x.p y.p=true
 | [],_=>by simp[VO]
 | p::r,h=>by
  obtain⟨h1,h2⟩:=List.pairwise_cons.1 h;refine List.pairwise_append.2 ⟨?_,ZZ h2,λx hx y hy=>?_⟩
  .unfold chF;split<;>simp
  .rw[(JU hx).1];exact h1 _ (tY hy).1
end Go.Dm
end
section
namespace Go.Dm
open Go
theorem sG{l:List (List UInt8)}:∀m,m<=l.length->∀j (hj:j<l.length),j<m->l[j]∈Lib.compactUpTo l.toArray m
 | 0,_,_,_,h=>by omega
 | m+1,hm,j,hj,h=>by
  rw[Lib.compactUpTo_succ];have hg:l.toArray[m]! = l[m]:=by grind
  by_cases hjm:j<m
  .exact List.mem_append_left _ (sG m (by omega) j hj hjm)
  .have:j=m:=by omega
   subst this;cases hk:Lib.keeps l.toArray j
   .have hg1:l.toArray[j-1]! = l[j-1]:=by simp[getElem!_pos,show j-1<l.length by omega]
    unfold Lib.keeps at hk;rw[hg,hg1] at hk;simp only[decide_eq_false_iff_not,not_or,Decidable.not_not] at hk;rw[hk.2];exact List.mem_append_left _ (sG j (by omega) (j-1) (by omega) (by omega))
   .simp_all
theorem sF{l:List (List UInt8)}{p:List UInt8}:p∈Lib.compact (l.mergeSort λx y=>decide (x<=y))↔p∈l:=by
 have hp:∀q,q∈(l.mergeSort λx y=>decide (x<=y))↔q∈l:=λq=>List.mem_mergeSort;constructor
 .intro h;obtain⟨j,_,hj,rfl⟩:=(lY (xY l) _ (Nat.le_refl _)).2 p h;grind
 .intro h;obtain⟨j,hj,rfl⟩:=List.mem_iff_getElem.1 ((hp p).2 h);exact sG _ (Nat.le_refl _) j hj hj
theorem oM{α:Type}{lt:α->α->Bool}(hirr:∀a,lt a a=false)(hasm:∀{a b},lt a b=true->lt b a=false):∀{a b:List α},a.Pairwise (λx y=>lt x y=true)->b.Pairwise (λx y=>lt x y=true)->(∀x,x∈a↔x∈b)->a=b
 | [],[],_,_,_=>rfl
 | [],y::b,_,_,h=>by have:=(h y).2 List.mem_cons_self;simp at this
 | x::a,[],_,_,h=>by have:=(h x).1 List.mem_cons_self;simp at this
 | x::a,y::b,ha,hb,h=>by
  obtain ⟨ha1,ha2⟩:=List.pairwise_cons.1 ha;obtain⟨hb1,hb2⟩:=List.pairwise_cons.1 hb;have hxy:x=y:=by
   rcases List.mem_cons.1 ((h x).1 List.mem_cons_self) with e|e
   .exact e
   .rcases List.mem_cons.1 ((h y).2 List.mem_cons_self) with e2|e2
    .exact e2.symm
    .have h1:=hasm (hb1 x e);rw[ha1 y e2] at h1;cases h1
  subst hxy;rw[oM hirr hasm ha2 hb2 λz=>?_];constructor
  .intro hz;rcases List.mem_cons.1 ((h z).1 (List.mem_cons_of_mem _ hz)) with e|e
   .subst e;have:=ha1 z hz;rw[hirr] at this;cases this
   .exact e
  .intro hz;rcases List.mem_cons.1 ((h z).2 (List.mem_cons_of_mem _ hz)) with e|e
   .subst e;have:=hb1 z hz;rw[hirr] at this;cases this
   .exact e
def xR(a b:List It):List (List UInt8):=Lib.compact (((a++b).map It.p).mergeSort λx y=>decide (x<=y))
def bT(a b:List It):List Ch:=VO a b (xR a b)
theorem rJ{a b:List It}{p:List UInt8}:p∈xR a b↔(∃x∈a,x.p=p)∨∃x∈b,x.p=p:=by grind [xR,sF]
theorem sV{x:Nd}(h:x.wf):mT x x=true:=by grind [mU,eQ]
theorem ZY{a b:List It}:∀l:List (List UInt8),(VO a b l).length<=l.length
 | []=>by simp[VO]
 | p::r=>by
  have:=ZY (a:=a) (b:=b) r;grind [chF,VO]
theorem FL(l:List (List UInt8)):(Lib.compact l).length<=l.length:=by grind [Lib.compact,Lib.compactUpTo]
theorem kG(a b:List It):(bT a b).length<=a.length+b.length:=by grind [bT,xR,ZY,FL,List.length_mergeSort]
theorem pH{a b:List It}{x:Ch}(h:x∈bT a b):x.k=lG (aM a x.p).isSome (aM b x.p).isSome ((aM a x.p).getD nd0) ((aM b x.p).getD nd0)/\lG (aM a x.p).isSome (aM b x.p).isSome ((aM a x.p).getD nd0) ((aM b x.p).getD nd0)≠0:=by
 obtain⟨h1,h2⟩:=JU (tY h).2;grind
theorem fI{a b:List It}{x:Ch}(h:x∈bT a b):x.o=(aM a x.p).getD nd0/\x.n=(aM b x.p).getD nd0:=by
 obtain⟨h1,_⟩:=JU (tY h).2;grind
theorem zB{a b:List It}(ha:OkT a)(hb:OkT b){x:Ch}(h:x∈bT a b):x.o.wf/\x.n.wf:=by
 obtain⟨h1,h2⟩:=fI h;rw[h1,h2];exact⟨ha.gett _,hb.gett _⟩
theorem AV(a b:List It):(bT a b).Pairwise λx y=>cD x.p y.p=true:=ZZ (lS _)
theorem ZX{a b:List It}{p:List UInt8}:∀{l:List (List UInt8)},p∈l->lG (aM a p).isSome (aM b p).isSome ((aM a p).getD nd0) ((aM b p).getD nd0)≠0->∃x∈VO a b l,x.p=p
 | q::r,h,hk=>by
  rcases List.mem_cons.1 h with rfl|h
  .refine⟨⟨p,lG (aM a p).isSome (aM b p).isSome ((aM a p).getD nd0) ((aM b p).getD nd0),(aM a p).getD nd0,(aM b p).getD nd0⟩,List.mem_append_left _ ?_,rfl⟩;unfold chF;rw[if_pos (by simpa using hk)];simp
  .obtain⟨x,hx,he⟩:=ZX h hk;exact⟨x,List.mem_append_right _ hx,he⟩
theorem rD{x:It}:∀{t:List It},x∈t->(aM t x.p).isSome=true
 | y::r,h=>by
  rw[aM];split
  .rfl
  .rename_i hy;rcases List.mem_cons.1 h with rfl|h
   .simp at hy
   .exact rD h
def GD(s:List UInt8):List (List UInt8)->List (List UInt8)
 | []=>[s]
 | x::l=>if cD x s then x::GD s l else if x==s then x::l else s::x::l
theorem KU{s q:List UInt8}:∀{l:List (List UInt8)},q∈GD s l↔q=s∨q∈l
 | []=>by simp[GD]
 | x::l=>by
  rw[GD];split
  .rw [List.mem_cons,KU,List.mem_cons];constructor
   .rintro (h|h|h)
    .exact .inr (.inl h)
    .exact .inl h
    .exact .inr (.inr h)
   .rintro (h|h|h)
    .exact .inr (.inl h)
    .exact .inl h
    .exact .inr (.inr h)
  .split
   .rename_i h;have h:=eq_of_beq h;subst h;simp
   .simp
theorem zAw{s:List UInt8}:∀{l:List (List UInt8)},l.Pairwise (λx y=>cD x y=true)->(GD s l).Pairwise λx y=>cD x y=true
 | [],_=>by simp[GD]
 | x::l,h=>by
  obtain⟨h1,h2⟩:=List.pairwise_cons.1 h;rw[GD];split
  .rename_i hb;refine List.pairwise_cons.2 ⟨λy hy=>?_,zAw h2⟩;rcases KU.1 hy with rfl|hy
   .exact hb
   .exact h1 y hy
  .rename_i hb;split
   .exact h
   .rename_i hn;have hs:cD s x=true:=by
     cases hc:cD s x
     .have:=eI (by simpa using hb) hc;subst this;simp at hn
     .rfl
    refine List.pairwise_cons.2 ⟨λy hy=>?_,h⟩;rcases List.mem_cons.1 hy with rfl|hy
    .exact hs
    .exact cL hs (h1 y hy)
theorem XL{s:List UInt8}:∀{l:List (List UInt8)} {k:Nat},k<=l.length->(∀j x,l[j]?=some x->j<k->cD x s=true)->(∀x,l[k]?=some x->cD x s=false) ->
  GD s l=match l[k]? with
   | some x=>if x==s then l else l.take k++s::l.drop k
   | none=>l++[s]
 | [],k,hk,_,_=>by simp[GD]
 | x::l,0,_,_,h2=>by
  have:=h2 x rfl;simp only[GD,this,Bool.false_eq_true,if_false,List.getElem?_cons_zero,List.take_zero,List.nil_append,List.drop_zero]
 | x::l,k+1,hk,h1,h2=>by
  have h3:=h1 0 x rfl (by omega);have ih:=XL (s:=s) (l:=l) (k:=k) (by simpa using hk) (λj y hy hj=>h1 (j+1) y (by simpa using hy) (by omega)) (λy hy=>h2 y (by simpa using hy));rw[GD,if_pos h3,ih,List.getElem?_cons_succ];cases l[k]? with
  | none=>rfl
  | some y =>
   simp only[List.take_succ_cons,List.drop_succ_cons,List.cons_append];split<;>rfl
def dL(o:List (List UInt8))(t:List It):List (List UInt8):=t.foldl (λo x=>GD x.p o) o
theorem kC:∀{t:List It} {o:List (List UInt8)},o.Pairwise (λx y=>cD x y=true)->(dL o t).Pairwise λx y=>cD x y=true
 | [],_,h=>h
 | _::t,_,h=>kC (t:=t) (zAw h)
theorem jZ{q:List UInt8}:∀{t:List It} {o:List (List UInt8)},q∈dL o t↔q∈o∨∃x∈t,x.p=q
 | [],o=>by simp[dL]
 | x::t,o=>by
  show q∈dL (GD x.p o) t↔_;rw[jZ,KU];constructor
  .rintro ((h|h)|⟨y,hy,h⟩)
   .exact .inr ⟨x,List.mem_cons_self,h.symm⟩
   .exact .inl h
   .exact .inr ⟨y,List.mem_cons_of_mem _ hy,h⟩
  .rintro (h|⟨y,hy,h⟩)
   .exact .inl (.inr h)
   .rcases List.mem_cons.1 hy with rfl|hy
    .exact .inl (.inl h.symm)
    .exact .inr ⟨y,hy,h⟩
theorem zAv(s:List UInt8):∀l:List (List UInt8),(GD s l).length<=l.length+1
 | []=>by simp[GD]
 | x::l=>by
  have:=zAv s l;rw[GD];repeat' split
  all_goals simp only[List.length_cons];omega
theorem mS:∀(t:List It) (o:List (List UInt8)),(dL o t).length<=o.length+t.length
 | [],o=>by simp[dL]
 | x::t,o=>by
  have h1:=mS t (GD x.p o);have h2:=zAv x.p o;show (dL (GD x.p o) t).length<=_;rw[List.length_cons];omega
def xS(a b:List It):List (List UInt8):=dL (dL [] a) b
theorem zGu(a b:List It):xS a b=xR a b :=
 oM (lt:=cD) cF (λh=>eS h) (kC (kC (by simp))) (lS _) λp=>by
  show p∈xS a b↔p∈xR a b;rw[rJ];unfold xS;rw[jZ,jZ];simp
def yJ(x y:Nd)(p q:Bool):Int:=if !p then 1 else if !q then 2 else if x.k != y.k then 4 else if !(x.d==y.d) then 3 else 5
def zKn(a b:List It)(p:List UInt8):List Ch :=
 if (aM a p).isSome && (aM b p).isSome && cH ((aM a p).getD nd0) ((aM b p).getD nd0) then [] else [⟨p,yJ ((aM a p).getD nd0) ((aM b p).getD nd0) (aM a p).isSome (aM b p).isSome,(aM a p).getD nd0,(aM b p).getD nd0⟩]
def oU(a b:List It):List (List UInt8)->List Ch
 | []=>[]
 | p::r=>zKn a b p++oU a b r
def LZ(a b:List It):List Ch:=oU a b (xS a b)
theorem zKo{a b:List It}(ha:OkT a)(hb:OkT b){p:List UInt8}(hp:(aM a p).isSome=true∨(aM b p).isSome=true):zKn a b p=chF a b p:=by
 have he:=mU (ha.gett p) (hb.gett p);unfold zKn chF lG yJ;rw[he];generalize (aM a p).isSome=u at *;generalize (aM b p).isSome=v at *;generalize (aM a p).getD nd0=x at *;generalize (aM b p).getD nd0=y at *;cases u<;>cases v
 .simp at hp
 .rfl
 .rfl
 .simp only[Bool.not_true,Bool.true_and,if_true,Bool.false_eq_true,if_false];cases cH x y
  .simp only[Bool.false_eq_true,if_false]
   repeat' split
   all_goals first|rfl|(rename_i h;exact absurd h (by decide))|(rename_i h _;exact absurd h (by decide))|(rename_i h _ _;exact absurd h (by decide))
  .rfl
theorem SO{a b:List It}(ha:OkT a)(hb:OkT b):∀{l:List (List UInt8)},(∀p∈l,(aM a p).isSome=true∨(aM b p).isSome=true)->oU a b l=VO a b l
 | [],_=>rfl
 | p::r,h=>by rw[oU,VO,zKo ha hb (h p List.mem_cons_self),SO ha hb λq hq=>h q (List.mem_cons_of_mem _ hq)]
theorem SG{a b:List It}{p:List UInt8}(h:p∈xR a b):(aM a p).isSome=true∨(aM b p).isSome=true:=by
 rcases rJ.1 h with⟨x,hx,rfl⟩|⟨x,hx,rfl⟩
 .exact .inl (rD hx)
 .exact .inr (rD hx)
theorem wO{a b:List It}(ha:OkT a)(hb:OkT b):LZ a b=bT a b:=by
 unfold LZ bT;rw[zGu,SO ha hb λp hp=>SG hp]
end Go.Dm
end
section
namespace Go.Dm
open Go
end Go.Dm
end
section
namespace Go.Dm
open Go
theorem zDC(x k:Nat):(EM x k).toNat=x / 2 ^ k % 256:=by
 have h:IntKind.u8.wrap ((x:Int).fdiv (2 ^ k))=((x / 2 ^ k % 256:Nat):Int):=by grind [IntKind.wrap,IntKind.bits,IntKind.signed]
 unfold EM;rw[h,Int.toNat_natCast];simp_all
theorem zBl{x y:Nat}(hx:x<18446744073709551616)(hy:y<18446744073709551616)(h:NQ x=NQ y):x=y:=by grind [NQ,zDC]
theorem SH{x:Nat}(hx:x<18446744073709551616):CM x=(bJ x==x):=by grind [CM,zBl,lN]
def zBt(n:Nd):Bool:=if n.k==1 then decide ((n.d.length:Int)<=2000) else if n.k==2 then (n.d.length:Int)==0 else if n.k==3 then (decide ((1:Int)<=n.d.length) && decide ((n.d.length:Int)<=120)) && n.d.all λb=>!(b==0) else false
theorem zK9(b:UInt8):((b.toNat:Int)==0)=(b==0):=by
 rw[Bool.eq_iff_iff];simp only[beq_iff_eq];exact⟨λh=>UInt8.toNat_inj.1 (by have:(0:UInt8).toNat=0:=rfl;omega),λh=>by rw[h];rfl⟩
theorem zCZ(d:List UInt8):lA d=((decide ((1:Int)<=d.length) && decide ((d.length:Int)<=120)) && d.all λb=>!(b==0)):=by grind [lA,zK9]
def mV(n:Nd):Bool:=zBt n && decide (0<=n.m) && decide (n.m<=4095) && (bJ n.t==n.t)
theorem jT{n:Nd}(h:n.wf):mV n=aR n:=by
 unfold mV aR zBt;rw[SH h];grind [zCZ]
def lI(n:Nd):Bool:=n.k==0 && n.m==0 && n.t==0 && n.d.length==0
def zHV(c:Ch):Bool:=!(c.p == []) && bW c.p && (lI c.o || !(c.k==1)) && (lI c.n || !(c.k==2)) && (c.k==1 || aR c.o) && (c.k==2 || aR c.n) && !(c.k==0) && (lG (!(c.k==1)) (!(c.k==2)) c.o c.n==c.k)
def lX:Option (List UInt8)->List UInt8->Bool
 | none,_=>true
 | some q,p=>cD q p
def dW:Option (List UInt8)->List Ch->Bool
 | _,[]=>true
 | q,c::l=>zHV c && lX q c.p && dW (some c.p) l
theorem SS{l:List Ch}(hm:∀c∈l,zHV c=true):∀{q:Option (List UInt8)},l.Pairwise (λx y=>cD x.p y.p=true)->(∀p,q=some p->∀c∈l,cD p c.p=true)->dW q l=true:=by
 induction l with
 | nil=>intros;rfl
 | cons c l ih =>
  intro q hs hq;obtain⟨h1,h2⟩:=List.pairwise_cons.1 hs;rw[dW,hm c List.mem_cons_self,ih (λd hd=>hm d (List.mem_cons_of_mem _ hd)) h2 (λp hp d hd=>by cases hp;exact h1 d hd)]
  cases q with
  | none=>rfl
  | some p=>simp[lX,hq p rfl c List.mem_cons_self]
theorem OkT.getok{t:List It}(h:OkT t){p:List UInt8}(hs:(aM t p).isSome=true):p≠[]/\bW p=true/\aR ((aM t p).getD nd0)=true:=by
 cases hg:aM t p with
 | none=>simp_all
 | some n =>
  obtain⟨x,hx,rfl,rfl⟩:=cB hg;have:=h.its x hx;exact⟨this.1,this.2.1,this.2.2.1⟩
theorem PI{a b:List It}(ha:OkT a)(hb:OkT b):∀c∈bT a b,zHV c=true:=by
 intro c hc;obtain⟨h1,h2⟩:=pH hc;obtain⟨h3,h4⟩:=fI hc;have ga:=ha.getok (p:=c.p);have gb:=hb.getok (p:=c.p);have na:(aM a c.p).isSome=false->(aM a c.p).getD nd0=nd0:=λh=>by cases hg:aM a c.p with
  | none=>rfl
  | some _=>simp_all
 have nb:(aM b c.p).isSome=false->(aM b c.p).getD nd0=nd0:=λh=>by cases hg:aM b c.p with
  | none=>rfl
  | some _=>simp_all
 grind [lG,zHV,lI,nd0]
theorem WS{a b:List It}(ha:OkT a)(hb:OkT b):dW none (bT a b)=true :=
 SS (PI ha hb) (AV a b) (λp h=>by cases h)
end Go.Dm
end
section
namespace Go.Dm
open Go
theorem GH(a:List UInt8):∀k,k<=a.length->Lib.lastIdx ⟨a.toArray⟩ 47 k=match dG a k with
  | some j=>(j:Int)
  | none=>-1
 | 0,_=>rfl
 | k+1,hk=>by
  have hlt:k<a.length:=by omega
  have e1:(ByteArray.mk a.toArray).data[k]! = a[k]:=by simp_all
  have e2:a.getD k 0=a[k]:=by simp_all
  rw[Lib.lastIdx,dG,e1,e2];by_cases h:((a[k].toNat:Int)=47)
  .simp_all
  .rw[if_neg h,if_neg (by simpa using h),GH a k (by omega)]
theorem oT(a:List UInt8):Lib.lastIndexByte ⟨a.toArray⟩ 47=match dG a a.length with
  | some j=>(j:Int)
  | none=>-1:=by grind [ByteArray.size,Lib.lastIndexByte,GH]
theorem xO{p:List UInt8}{j:Nat}(h:dG p p.length=some j):j<p.length:=by grind [iN]
def yD(p:List UInt8):List UInt8:=match dG p p.length with
 | some j=>p.drop (j+1)
 | none=>p
theorem NP{p q:List UInt8}(hp:p≠[]):(p++[47]).isPrefixOf q=aO p q:=by
 rw[Bool.eq_iff_iff,List.isPrefixOf_iff_prefix,zDs hp];constructor
 .rintro⟨r,hr⟩;exact⟨r,by rw[<- hr];simp⟩
 .simp_all
def kI(d n:List UInt8):List UInt8:=if d == [] then n else d++47::n
theorem zIi(p:List UInt8)(hd:aU p=[]->47 ∉ p):kI (aU p) (yD p)=p:=by grind [kI,yD,iN,aU,List.take_append_drop,List.drop_eq_getElem_cons]
def KB(t:List It)(p:List UInt8):List (List UInt8):=(t.filter λx=>aU x.p==p).map λx=>yD x.p
def iG(t:List It)(p:List UInt8):List (List UInt8):=(KB t p).mergeSort λx y=>decide (x<=y)
theorem cP{y:It}:∀{t:List It},Srt t->y∈t->aM t y.p=some y.n
 | x::t,hs,hy=>by
  obtain⟨h1,h2⟩:=List.pairwise_cons.1 hs;rw[aM];rcases List.mem_cons.1 hy with rfl|hy
  .simp_all
  .rw[if_neg (by rw[jH (h1 y hy)];decide)];exact cP h2 hy
theorem zDw(d:List UInt8)(b:UInt8)(n:List UInt8):cD d (d++b::n)=true:=by
 induction d with
 | nil=>rfl
 | cons x d ih=>grind [tW]
theorem GF{t:List It}(h:OkT t){k:Nat}{x:It}(hx:t[k]?=some x):bC (t.take k) (aU x.p)=true:=by
 by_cases hd:aU x.p=[]
 .rw[hd];rfl
 obtain⟨m,h1,h2⟩:=cS hd (h.par x (List.mem_of_getElem? hx));obtain⟨y,hy,hyp,hyn⟩:=cB h1;obtain⟨n,hn,_⟩:=uC hd;have hlt:cD y.p x.p=true:=by grind [zDw]
 obtain ⟨j,hj,hje⟩:=List.mem_iff_getElem.1 hy;obtain⟨hk,hxe⟩:=List.getElem?_eq_some_iff.1 hx;have hjk:j<k:=by
  rcases Nat.lt_trichotomy j k with h'|h'|h'
  .exact h'
  .grind [cF]
  .have:=List.pairwise_iff_getElem.1 h.srt k j hk hj h';grind [eS]
 have hyt:y∈t.take k:=List.mem_iff_getElem.2 ⟨j,by simp;omega,by rw[List.getElem_take];exact hje⟩
 have hst:Srt (t.take k):=h.srt.sublist (List.take_sublist k t);grind [cP,fS]
end Go.Dm
end
section
namespace Go.Dm
open Go
theorem EU{p:List UInt8}(hp:bW p=true)(h0:p≠[])(hd:aU p=[]):47 ∉ p:=by grind [zC,bW,qW,yW,aZ]
theorem OkT.joined{t:List It}(h:OkT t){x:It}(hx:x∈t):kI (aU x.p) (yD x.p)=x.p :=
 zIi _ λhd=>EU (h.its x hx).2.1 (h.its x hx).1 hd
theorem zB9(t:List It)(d:List UInt8):(iG t d).length=(t.filter λx=>aU x.p==d).length:=by grind [iG,KB,List.length_mergeSort]
theorem fJ{α:Type}{g:α->Bool}{t:List α}{i:Nat}{x:α}(hx:t[i]?=some x):(t.take (i+1)).filter g=(t.take i).filter g++(if g x then [x] else []):=by grind [List.take_add_one]
end Go.Dm
end
end
section
section
namespace Go.Dm
open Go
theorem NC(z:Int):0<=IntKind.u8.wrap z/\IntKind.u8.wrap z<=255:=⟨of_eq_true (JI z),of_eq_true (JH z)⟩
theorem zEk(B:List UInt8)(z:Int):bU B++[[.i .u8 (IntKind.u8.wrap z)]]=bU (B++[UInt8.ofNat (IntKind.u8.wrap z).toNat]):=by
 obtain ⟨h1,h2⟩:=NC z;have:((UInt8.ofNat (IntKind.u8.wrap z).toNat).toNat:Int)=IntKind.u8.wrap z:=by
  have:(UInt8.ofNat (IntKind.u8.wrap z).toNat).toNat=(IntKind.u8.wrap z).toNat:=by
   show _ % 256=_;exact Nat.mod_eq_of_lt (by omega)
  rw[this];omega
 simp only[bU,List.map_append,List.map_cons,List.map_nil,this]
theorem zEj(z:Int):[[PV.i .u8 (IntKind.u8.wrap z)]]=bU [UInt8.ofNat (IntKind.u8.wrap z).toNat]:=by
 have:=zEk [] z;simpa[bU] using this
def zQJ(b:List UInt8):Nat:=b.foldl (λv c=>v*256+c.toNat) 0
structure Rd where
 b:List UInt8
 l:Bool
def Rd.raw(r:Rd)(n:Nat):List UInt8 × Rd:=if r.l || decide (r.b.length<n) then ([],⟨[],true⟩) else (r.b.take n,⟨r.b.drop n,false⟩)
def Rd.num(r:Rd)(n:Nat):Nat × Rd:=(zQJ (r.raw n).1,(r.raw n).2)
def Rd.text(r:Rd):List UInt8 × Rd:=(r.num 2).2.raw (r.num 2).1
def Rd.node(r:Rd):Nd × Rd :=
 let k:=r.num 1
 let m:=k.2.num 2
 let t:=m.2.num 8
 let d:=t.2.text
 (⟨k.1,m.1,t.1,d.1⟩,d.2)
def Rd.items:Nat->Rd->List It × Rd
 | 0,r=>([],r)
 | n+1,r =>
  if r.l then ([],r) else
   let p:=r.text
   let x:=p.2.node
   let y:=Rd.items n x.2
   (⟨p.1,x.1⟩::y.1,y.2)
end Go.Dm
end
section
namespace Go.Dm
open Go
def rV(pre:List It)(p:List UInt8):Bool:=match pre.getLast? with
 | some y=>cD y.p p
 | none=>true
def nA(pre:List It)(x:It):Bool:=!(x.p == []) && (bW x.p && (rV pre x.p && (aR x.n && bC pre (aU x.p))))
def fM:List It->List It->Bool
 | _,[]=>true
 | pre,x::r=>nA pre x && fM (pre++[x]) r
def kT(t:List It):Bool:=fM [] t && decide ((t.length:Int)<=120)
theorem getLast_take{t:List It}{k:Nat}(hk:0<k)(hl:k<=t.length):(t.take k).getLast?=t[k-1]? := by grind
theorem zA1{t:List It}{x:It}(h:Srt t)(ha:rV t x.p=true):Srt (t++[x]):=by
 refine List.pairwise_append.2 ⟨h,by simp,λy hy z hz=>?_⟩
 have:z=x:=by simp_all
 unfold rV at ha;cases hl:t.getLast? with
 | none =>
  simp_all
 | some w =>
  obtain⟨s,rfl⟩:=List.getLast?_eq_some_iff.1 hl;rcases List.mem_append.1 hy with hy|hy
  .have:=(List.pairwise_append.1 h).2.2 y hy w (by simp);grind [cL]
  .simp_all
theorem HK:∀{r pre:List It},Srt pre->(∀x∈pre,OkI x)->(∀x∈r,x.n.t<18446744073709551616)->(∀x∈pre,bC pre (aU x.p)=true)->fM pre r=true->Srt (pre++r)/\(∀x∈pre++r,OkI x)/\∀x∈pre++r,bC (pre++r) (aU x.p)=true
 | [],pre,hs,ho,_,hp,_=>by rw[List.append_nil];exact⟨hs,ho,hp⟩
 | x::r,pre,hs,ho,ht,hp,h=>by
  rw [fM,Bool.and_eq_true] at h;obtain⟨h1,h2⟩:=h;simp only[nA,Bool.and_eq_true,Bool.not_eq_true'] at h1;obtain⟨a1,a2,a3,a4,a5⟩:=h1;have hs2:Srt (pre++[x]):=zA1 hs a3;have up:∀p,bC pre p=true->bC (pre++[x]) p=true:=by
   intro p hd;by_cases hp0:p=[]
   .subst hp0;rfl
   .obtain⟨m,k1,k2⟩:=cS hp0 hd;obtain⟨y,hy,hyp,hyn⟩:=cB k1;have:=cP hs2 (List.mem_append_left [x] hy);rw[hyp] at this;exact fS this (by rw[hyn];exact k2)
  have:=HK (r:=r) (pre:=pre++[x]) hs2 (λy hy=>by
   rcases List.mem_append.1 hy with hy|hy
   .exact ho y hy
   .have:y=x:=by simpa using hy
    subst this;exact⟨by simpa using a1,a2,a4,ht y List.mem_cons_self⟩) (λy hy=>ht y (List.mem_cons_of_mem _ hy)) (λy hy=>by
   rcases List.mem_append.1 hy with hy|hy
   .exact up _ (hp y hy)
   .have:y=x:=by simpa using hy
    subst this;exact up _ a5) h2
  rw[List.append_assoc] at this;exact this
theorem SY{t:List It}(ht:∀x∈t,x.n.t<18446744073709551616)(h:kT t=true):OkT t:=by
 unfold kT at h;rw[Bool.and_eq_true,decide_eq_true_eq] at h;obtain⟨h1,h2⟩:=h;have:=HK (r:=t) (pre:=[]) List.Pairwise.nil (λx hx=>by cases hx) ht (λx hx=>by cases hx) h1
 exact⟨⟨this.1,this.2.1,by omega⟩,this.2.2⟩
theorem zCB{t:List It}(h:OkT t):∀k,k<=t.length->fM (t.take k) (t.drop k)=true:=by
 have key:∀n k,t.length-k<=n->k<=t.length->fM (t.take k) (t.drop k)=true:=by
  intro n
  induction n with
  | zero =>
   intro k h1 h2;rw[List.drop_of_length_le (by omega)];rfl
  | succ n ih =>
   intro k h1 h2;by_cases hlt:k<t.length
   .have hx:t[k]?=some t[k]:=List.getElem?_eq_getElem hlt;rw[List.drop_eq_getElem_cons hlt,fM];have hn:=ih (k+1) (by omega) (by omega);rw[List.take_add_one,hx] at hn;obtain⟨i1,i2,i3,_⟩:=h.its _ (List.getElem_mem hlt);have hd:=GF h hx;have ha:rV (t.take k) t[k].p=true:=by
     unfold rV;by_cases h0:0<k
     .rw[getLast_take h0 (by omega),List.getElem?_eq_getElem (by omega)];exact List.pairwise_iff_getElem.1 h.srt (k-1) k (by omega) hlt (by omega)
     .have:k=0:=by omega
      subst this;rfl
    have i1':(t[k].p == [])=false:=by simpa using i1
    rw[nA,i1',i2,ha,i3,hd];exact hn
   .rw[List.drop_of_length_le (by omega)];rfl
 exactλk hk=>key _ k (Nat.le_refl _) hk
theorem SX{t:List It}(h:OkT t):kT t=true:=by
 have:=zCB h 0 (Nat.zero_le _);have hl:=h.len;simp only[List.take_zero,List.drop_zero] at this;rw[kT,this,Bool.true_and];exact decide_eq_true (by omega)
end Go.Dm
end
section
namespace Go.Dm
open Go
def Rd.take(r:Rd):Nd × Bool:=if r.node.2.l || !aR r.node.1 then (⟨0,0,0,[]⟩,false) else (r.node.1,true)
def zP7(c:Ch):Bool :=
 !(c.p == []) && (bW c.p && ((cH c.o nd0 || aR c.o) && ((cH c.n nd0 || aR c.n) && (!(cH c.o nd0 && cH c.n nd0) && (!(!cH c.o nd0 && (!cH c.n nd0 && cH c.o c.n)) && c.k==yJ c.o c.n (!cH c.o nd0) (!cH c.n nd0))))))
def tH:Option (List UInt8)->List Ch->Bool
 | _,[]=>true
 | q,c::l=>zP7 c && lX q c.p && tH (some c.p) l
theorem zero_eq{n:Nd}(h:lI n=true):n=nd0:=by
 unfold lI at h;simp only[Bool.and_eq_true,beq_iff_eq] at h;obtain⟨⟨⟨h1,h2⟩,h3⟩,h4⟩:=h;have h5:n.d=[]:=List.eq_nil_of_length_eq_zero (by simpa using h4);cases n;simp only at h1 h2 h3 h5;subst h1 h2 h3 h5;rfl
theorem zBh{x:Nat}(h:bJ x=0):x=0:=by
 unfold bJ at h;split at h
 .exact absurd h (by decide)
 .exact h
theorem TQ(n:Nd):cH n nd0=lI n:=by
 rw[Bool.eq_iff_iff];constructor
 .intro h;unfold cH at h;simp only[Bool.and_eq_true,beq_iff_eq] at h;obtain⟨⟨⟨h1,h2⟩,h3⟩,h4⟩:=h;have h5:bJ n.t=0:=h4.trans (by decide);have h6:=zBh h5;unfold lI;rw[h1,h2,h3,h6];rfl
 .intro h;rw[zero_eq h];exact eQ nd0
theorem zAU{n:Nd}(h:aR n=true):lI n=false:=by
 cases hz:lI n
 .rfl
 .rw[zero_eq hz] at h;exact absurd h (by decide)
theorem zJJ{c:Ch}(ho:c.o.wf)(hn:c.n.wf):zHV c=zP7 c:=by
 unfold zHV zP7;rw[TQ,TQ];have hs:=mU ho hn;cases hp:(c.p == [])
 .cases hi:bW c.p
  .simp
  .cases zo:lI c.o<;>cases zn:lI c.n<;>cases ro:aR c.o<;>cases rn:aR c.n
   all_goals first|(rw[zAU ro] at zo;cases zo;done)|(rw[zAU rn] at zn;cases zn;done)|skip
   all_goals simp only[Bool.not_true,Bool.not_false,Bool.true_and,Bool.and_true,Bool.false_and,Bool.and_false,Bool.true_or,Bool.false_or,Bool.or_true,Bool.or_false,yJ,if_true,Bool.false_eq_true,if_false]
   all_goals (unfold lG;rw[hs];cases k1:(c.k==1)<;>cases k2:(c.k==2))
   all_goals first
    | (have e1:=eq_of_beq k1;have e2:=eq_of_beq k2;omega)
    | (have e1:=eq_of_beq k1;simp[e1];done)
    | (have e2:=eq_of_beq k2;simp[e2];done)
    | skip
   all_goals simp only[Bool.not_true,Bool.not_false,Bool.true_and,Bool.and_true,Bool.false_and,Bool.and_false,Bool.true_or,Bool.false_or,Bool.or_true,Bool.or_false,if_true,Bool.false_eq_true,if_false]
   all_goals first
    | (rename_i h;done)
    | skip
   all_goals (cases hq:cH c.o c.n<;>simp only[if_true,Bool.false_eq_true,if_false,Bool.not_true,Bool.not_false,Bool.true_and,Bool.false_and])
   all_goals first
    | (rw[Bool.eq_iff_iff];simp only[Bool.and_eq_true,beq_iff_eq,Bool.not_eq_true',beq_eq_false_iff_ne];constructor<;>(intro h;(repeat' split at h)<;>(try split)<;>simp_all;try omega))
    | skip
 .simp
theorem HC:∀{l:List Ch} {q:Option (List UInt8)},(∀c∈l,c.o.wf/\c.n.wf)->dW q l=tH q l
 | [],_,_=>rfl
 | c::l,q,h=>by
  rw[dW,tH,zJJ (h c List.mem_cons_self).1 (h c List.mem_cons_self).2,HC λd hd=>h d (List.mem_cons_of_mem _ hd)]
end Go.Dm
end
section
namespace Go.Dm
open Go
end Go.Dm
end
section
namespace Go.Dm
open Go
end Go.Dm
end
section
namespace Go.Dm
open Go
def gA(l:List Ch):Bool:=dW none l
def zNe(l:List Ch):Bool:=tH none l
theorem YS{l:List Ch}(h:∀c∈l,c.o.wf/\c.n.wf):gA l=zNe l:=HC h
end Go.Dm
end
end
section
namespace Go.Dm
open Go
def HO(x y:It):Bool:=x.p==y.p && mT x.n y.n
def gR:List It->List It->Bool
 | [],[]=>true
 | x::a,y::b=>HO x y && gR a b
 | _,_=>false
theorem YZ{a b:List It}{k:Nat}{x y:It}(ha:a[k]?=some x)(hb:b[k]?=some y):gR (a.drop k) (b.drop k)=(HO x y && gR (a.drop (k+1)) (b.drop (k+1))):=by
 obtain⟨h1,rfl⟩:=List.getElem?_eq_some_iff.1 ha;obtain⟨h2,rfl⟩:=List.getElem?_eq_some_iff.1 hb;rw[List.drop_eq_getElem_cons h1,List.drop_eq_getElem_cons h2,gR]
theorem HQ:∀{a b:List It},a.length≠b.length->gR a b=false
 | [],[],h=>absurd rfl h
 | [],_::_,_=>rfl
 | _::_,[],_=>rfl
 | x::a,y::b,h=>by
  rw[gR,HQ (a:=a) (b:=b) λe=>h (by simp[e]),Bool.and_false]
theorem DJ:∀{a:List It},(∀x∈a,x.n.wf)->gR a a=true
 | [],_=>rfl
 | x::a,h=>by
  rw[gR,DJ λy hy=>h y (List.mem_cons_of_mem _ hy),HO,sV (h x List.mem_cons_self)];simp
def HA(n:Nd):Prop:=n.wf/\bJ n.t=n.t
theorem gM{n:Nd}(h:aR n=true)(hw:n.wf):HA n:=by
 refine⟨hw,?_⟩;unfold aR at h;simp only[Bool.and_eq_true,Bool.not_eq_true',Bool.or_eq_false_iff,decide_eq_false_iff_not] at h;obtain⟨⟨⟨_,_⟩,h2⟩,_⟩:=h;rw[Bool.not_eq_false',SH hw,beq_iff_eq] at h2;exact h2
theorem wG{x y:Nd}(hx:HA x)(hy:HA y)(h:mT x y=true):x=y:=by
 rw[mU hx.1 hy.1] at h;unfold cH at h;simp only[Bool.and_eq_true,beq_iff_eq] at h;obtain⟨⟨⟨h1,h2⟩,h3⟩,h4⟩:=h;rw[hx.2,hy.2] at h4;cases x;cases y;simp only at h1 h2 h3 h4;subst h1 h2 h3 h4;rfl
theorem TO:∀{a b:List It},(∀x∈a,HA x.n)->(∀x∈b,HA x.n)->gR a b=true->a=b
 | [],[],_,_,_=>rfl
 | [],_::_,_,_,h=>by cases h
 | _::_,[],_,_,h=>by cases h
 | x::a,y::b,ha,hb,h=>by
  rw[gR,Bool.and_eq_true,HO,Bool.and_eq_true,beq_iff_eq] at h;obtain⟨⟨h1,h2⟩,h3⟩:=h;have e1:=wG (ha x List.mem_cons_self) (hb y List.mem_cons_self) h2;have e2:=TO (λz hz=>ha z (List.mem_cons_of_mem _ hz)) (λz hz=>hb z (List.mem_cons_of_mem _ hz)) h3;cases x;cases y;simp only at h1 e1;subst h1 e1 e2;rfl
theorem OkT.plain{t:List It}(h:OkT t):∀x∈t,HA x.n:=λx hx=>by
 obtain⟨_,_,h3,h4⟩:=h.its x hx;exact gM h3 h4
theorem KA{a b:List It}(ha:OkT a)(hb:OkT b):gA (bT a b)=true:=WS ha hb
def lL(l:List Ch):Nat->Option (List UInt8)
 | 0=>none
 | k+1=>(l[k]?).map Ch.p
theorem nM{l:List Ch}{k:Nat}{x:Ch}(h:l[k]?=some x):lL l (k+1)=some x.p:=by rw[lL,h];rfl
theorem zL3(a b:List UInt8):decide (ED a b<=0) = !cD b a:=by
 unfold ED;cases h:cD b a
 .cases h2:cD a b
  .have e:=eI h2 h;subst e;simp
  .simp
 .rw[eS h];cases he:(a==b)
  .simp
  .rw[eq_of_beq he,cF] at h;cases h
end Go.Dm
end
