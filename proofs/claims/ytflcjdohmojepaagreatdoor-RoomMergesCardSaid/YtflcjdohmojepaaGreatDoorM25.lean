/- Part 26 of the proof of roomMerges_card, set without needless blanks. No condition. -/
import Derived.Test.YtflcjdohmojepaaGreatDoorM24
set_option linter.all false
set_option maxRecDepth 100000
set_option maxHeartbeats 16000000
section
namespace Go.Dm
open Go
def eY:List UInt8:=[109,97,105,110]
def zOb:Rm:=⟨[⟨eY,2⟩],[⟨1,0,0,true⟩,⟨2,1,0,false⟩],[],3⟩
theorem LL:Sim zOb VV:=by
 have hg:OkG VV.G:=(zGS (by decide +kernel)).1;have hm:∀y∈VV.L,y=(⟨1,0,0,true⟩,[])∨y=(⟨2,1,0,false⟩,[]):=λy hy=>by
  simpa[VV] using hy
 refine { g:=hg,t:=λy hy=>?_,srt:=List.pairwise_singleton _ _,nm:=λn hn=>?_,one:=λn hn m hm2 _ _=>?_,nx:=⟨λy hy=>?_,by decide,by decide⟩,ln:=by decide,N:=rfl,L:=rfl,x:=rfl,e:=λy hy=>?_,kept:=λy hy=>?_,len:=by decide }
 .rcases hm y hy with rfl|rfl<;>exact OkT.nil
 .obtain rfl:n=⟨eY,2⟩:=by simpa[VV,eY] using hn
  exact⟨by decide +kernel,(⟨2,1,0,false⟩,[]),by simp[VV],rfl⟩
 .rw[show n=⟨eY,2⟩ by simpa[VV,eY] using hn,show m=⟨eY,2⟩ by simpa[VV,eY] using hm2]
 .rcases hm y hy with rfl|rfl<;>decide
 .have e:∀a,cY VV a=[]:=λa=>by
   unfold cY;split
   .rename_i y hy;rcases hm y (rF hy).1 with rfl|rfl<;>rfl
   .rfl
  rw[e];rcases hm y hy with rfl|rfl<;>rfl
 .refine⟨⟨eY,2⟩,by simp[VV,eY],?_⟩
  rcases hm y hy with rfl|rfl<;>decide +kernel
def bO(r:Rm):aD:=[.box [.own 1 0 r.N.length,.own 2 0 r.L.length,.mp 3,.p (.i .i64 r.x)],.arr 2 (bS r.N) false,.arr 4 (dA r.L) false,.mp (oZ r.E)]
def AtN(N:List Nm)(s:List UInt8)(i:Nat):Prop:=i<=N.length/\∀(k:Nat) (x:Nm),N[k]?=some x->(k<i->cD x.n s=true)/\(i<=k->cD x.n s=false)
theorem zDq{s:List UInt8}:∀{N:List Nm} {i:Nat},AtN N s i->sX N s=i
 | [],i,h=>by have:=h.1;simp at this;subst this;rfl
 | x::N,0,h=>by
  have:=(h.2 0 x rfl).2 (Nat.le_refl _);unfold sX;rw[List.takeWhile_cons,if_neg (by rw[this];decide)];rfl
 | x::N,i+1,h=>by
  have h0:=(h.2 0 x rfl).1 (by omega);have ih:=zDq (N:=N) (i:=i) (s:=s) ⟨by have:=h.1;simp only[List.length_cons] at this;omega,λk y hy=>⟨λhk=>(h.2 (k+1) y (by simpa using hy)).1 (by omega),λhk=>(h.2 (k+1) y (by simpa using hy)).2 (by omega)⟩⟩
  unfold sX at ih ⊢;rw[List.takeWhile_cons,if_pos h0,List.length_cons,ih]
theorem zMP{N:List Nm}(h:NJ N){s:List UInt8}{i:Nat}(ha:AtN N s i):zAy N s=(match N[i]? with
  | some x=>x.n==s
  | none=>false):=by
 have e:=zDq ha;cases hi:N[i]? with
 | none =>
  simp only;unfold zAy;rw[List.any_eq_false];intro x hx;obtain⟨k,hk⟩:=List.mem_iff_getElem?.1 hx;have hk2:k<i:=by
   have h1:=(List.getElem?_eq_some_iff.1 hk).1;have h2:N.length<=i:=by
    rcases Nat.lt_or_ge i N.length with h|h
    .rw[List.getElem?_eq_getElem h] at hi;cases hi
    .exact h
   omega
  have:=jH ((ha.2 k x hk).1 hk2);rw[this];decide
 | some y =>
  simp only;cases hy:y.n==s
  .rw[Bool.eq_false_iff];intro hn;unfold zAy at hn;obtain⟨x,hx,hxs⟩:=List.any_eq_true.1 hn;have hxs:=eq_of_beq hxs;subst hxs;have:=YC h hx;rw[e,hi] at this;cases this;simp at hy
  .exact List.any_eq_true.2 ⟨y,List.mem_of_getElem? hi,hy⟩
theorem zGe{N:List Nm}(h:NJ N){s:List UInt8}:(zAy N s=false/\vQ N s=none)∨∃x,zAy N s=true/\vQ N s=some x/\N[sX N s]?=some x/\x.n=s:=by
 cases hn:vQ N s with
 | none =>
  left;rw[<- YD,hn];exact⟨rfl,rfl⟩
 | some x =>
  right;obtain⟨h1,h2⟩:=fU hn;refine⟨x,by rw[<- YD,hn];rfl,rfl,?_,h2⟩
  rw[<- h2];exact YC h h1
structure OkR (r:Rm):Prop where
 srt:NJ r.N
 nl:r.N.length<=900
 ll:r.L.length<=900
 ent:∀x∈r.L,OkE (lF r.E x.i)
 x:0<=r.x/\r.x<=2147483647
theorem FJ{l:List Ly}:∀{n:Nat} {id a:Int},a∈eU l n id->∃x∈l,x.i=a
 | 0,_,_,h=>by cases h
 | n+1,id,a,h=>by
  simp only[eU] at h;split at h
  .rename_i x hx;rcases List.mem_cons.1 h with rfl|h
   .exact⟨x,(pJ hx).1,rfl⟩
   .exact FJ h
  .cases h
theorem OkR.layers{r:Rm}(h:OkR r)(id:Int):∀l∈oC r id,OkE l:=λl hl=>by
 obtain⟨a,ha,rfl⟩:=List.mem_map.1 hl;obtain⟨x,hx,rfl⟩:=FJ (List.mem_reverse.1 ha);exact h.ent x hx
attribute [go_sem] bO
end Go.Dm
end
section
namespace Go.Proofs.YtflcjdohmojepaaGreatDoor
open Go Go.Dm Go.Proofs Go.Proofs.Tryz
theorem zGd{q p:List UInt8}{a:Int}:aA prog 141 [.agg [.p (.s q),.p (.i .i64 a)],.c (.p (.s p))] [] λr h=>r=.c (.p (.i .i64 (ED q p)))/\h=[]:=by
 refine eT func141 λX0 hX=>?_;simp only[f141,go_sem]
 repeat' (first|exact⟨⟩|refine sp ?_|refine uF (lV) ?_)
theorem WB{l:List Nm}{p:List UInt8}(hl:l.length<=1000000)(hs:NJ l):
  aA prog 140 [.c (.p (.sl 2 (bS l))),.c (.p (.s p)),.c (.clo 141 [])] [] λr h =>
   r=.tup [.c (.p (.i .i64 (sX l p))),.c (.p (.b (zAy l p)))]/\h=[]:=by
 have hmon:∀(k k':Nat) (x x':Nm),l[k]?=some x->l[k']?=some x'->k<k'->cD x.n x'.n=true:=λk k' x x' h1 h2 h3=>by
  obtain⟨h4,rfl⟩:=List.getElem?_eq_some_iff.1 h1;obtain⟨h5,rfl⟩:=List.getElem?_eq_some_iff.1 h2;exact List.pairwise_iff_getElem.1 hs _ _ h4 h5 h3
 refine eT func140 λX0 hX=>?_;simp only[f140,go_sem]
 repeat' (first|exact⟨⟩|refine sp ?_)
 refine aP aF aN (α:=Nat × Nat) (λx=>⟨49,[(0,.c (.p (.sl 2 (bS l)))),(1,.c (.p (.s p))),(2,.c (.clo 141 [])),(8,.c (.p (.i .i64 l.length))),(9,.c (.p (.i .i64 x.1))),(10,.c (.p (.i .i64 x.2)))],[]⟩)
  (λx=>x.1<=x.2/\x.2<=l.length/\∀(k:Nat) (y:Nm),l[k]?=some y->(k<x.1->cD y.n p=true)/\(x.2<=k->cD y.n p=false)) (λx=>x.2-x.1) (0,l.length) ⟨Nat.zero_le _,Nat.le_refl _,λk y hy=>⟨λh=>by omega,λh=>by rw[List.getElem?_eq_none h] at hy;cases hy⟩⟩ (.inl (aB (by rw[hX];rfl) rfl rfl wkS)) ?_
 rintro⟨i,j⟩ ⟨hij,hj,hl⟩;simp only at hij hj hl;by_cases hlt:i<j
 .have h1:decide ((i:Int)<(j:Int))=true:=decide_eq_true (by omega);have w1:IntKind.i64.wrap ((i:Int)+j)=(i:Int)+j:=wrap_i64 (by omega) (by omega);have w2:IntKind.u64.wrap ((i:Int)+j)=(i:Int)+j:=wrap_u64 (by omega) (by omega);obtain⟨m,hm,hmi,hmj⟩:∃m:Nat,((i:Int)+j).fdiv (2 ^ min 1 64)=(m:Int)/\i<=m/\m<j :=
   ⟨(i+j) / 2,by rw[show (2:Int) ^ min 1 64=2 from rfl,Int.fdiv_eq_ediv_of_nonneg _ (by decide)];omega,by omega,by omega⟩
  have w3:IntKind.i64.wrap (m:Int)=m:=wrap_i64 (by omega) (by omega);have w4:IntKind.i64.wrap ((m:Int)+1)=m+1:=wrap_i64 (by omega) (by omega);have hml:m<l.length:=by omega
  have hx:l[m]?=some l[m]:=List.getElem?_eq_getElem hml;have hg:=qY hx;generalize l[m]=x at hx hg
  repeat' (first|exact⟨⟩|refine sp ?_|refine uF (zGd) ?_|refine aH (λ_=>?_) (λ_=>?_)|refine ai ?_)
  .rename_i hb;have hb:cD x.n p=true:=by rw[<- pE];exact hb
   exact dE (m+1,j) ⟨by simp only;omega,hj,λk y hy=>⟨λhk=>by
    rcases Nat.lt_or_ge k m with h|h
    .exact cL (hmon _ _ _ _ hy hx h) hb
    .have:k=m:=by simp only at hk;omega
     subst this;rw[hx] at hy;cases hy;exact hb,(hl k y hy).2⟩⟩ (by simp only;omega) (aB rfl rfl rfl wkS)
  .rename_i hb;have hb:cD x.n p=false:=by rw[<- pE];exact hb
   exact dE (i,m) ⟨hmi,by simp only;omega,λk y hy=>⟨(hl k y hy).1,λhk=>by
    rcases Nat.lt_or_ge m k with h|h
    .cases hc:cD y.n p
     .rfl
     .have:=cL (hmon _ _ _ _ hx hy h) hc;rw[hb] at this;cases this
    .have:k=m:=by simp only at hk;omega
     subst this;rw[hx] at hy;cases hy;exact hb⟩⟩ (by simp only;omega) (aB rfl rfl rfl wkS)
 .have h1:decide ((i:Int)<(j:Int))=false:=decide_eq_false (by omega);have:i=j:=by omega
  subst this;have hat:AtN l p i:=⟨hj,hl⟩;have he:=PLift.up (zDq hat);have hn:=zMP hs hat;by_cases hil:i<l.length
  .have hx:l[i]?=some l[i]:=List.getElem?_eq_getElem hil;rw[hx] at hn;have hg:=qY hx;have h2:decide ((i:Int)<(l.length:Int))=true:=decide_eq_true (by omega);generalize l[i]=x at hx hg hn;clear hat hl
   repeat' (first|exact⟨⟩|refine sp ?_|refine uF (zGd) ?_|refine ai ?_)
   all_goals simp only[he.down,JW]
  .have h2:decide ((i:Int)<(l.length:Int))=false:=decide_eq_false (by omega);rw[List.getElem?_eq_none (Nat.le_of_not_lt hil)] at hn;clear hat hl
   repeat' (first|exact⟨⟩|refine sp ?_)
   all_goals simp only[he.down]
theorem WC{h:aD}{i n:Nat}{l:List Nm}{p:List UInt8}{K:DV->aD->Prop}(hl:l.length<=1000000)(hs:NJ l)(hn:n=l.length)(h0:h[i]?=some (.arr 2 (bS l) false))
  (hk:K (.tup [.c (.p (.i .i64 (sX l p))),.c (.p (.b (zAy l p)))]) h):aA prog 140 [.c (.own i 0 n),.c (.p (.s p)),.c (.clo 141 [])] h K :=
 zPH rfl rfl (by rw[hn,<- gC,List.take_length]) (WB hl hs) h0 (λd hd=>by subst hd;exact⟨rfl,hk⟩)
theorem wT{r:Rm}{s:List UInt8}(hl:r.N.length<=1000000)(hs:NJ r.N):aA prog 98 [.c (.ptr 0 0),.c (.p (.s s))] (bO r) λd h=>d=.tup [.c (.p (.i .i64 (sX r.N s))),.c (.p (.b (zAy r.N s)))]/\h=bO r:=by
 unfold bO;refine eT func98 λX0 hX=>?_;simp only[f98,go_sem]
 repeat' (first|exact⟨⟩|refine sp ?_|refine WC hl hs rfl rfl ?_)
end Go.Proofs.YtflcjdohmojepaaGreatDoor
end
section
namespace Go.Proofs.YtflcjdohmojepaaGreatDoor
open Go Go.Dm Go.Proofs.Tryz
theorem sort_k{h:aD}{id:Nat}{ss:List (List UInt8)}{K:DV->aD->Prop}(hid:h[id]?=some (.arr 1 (Go.Dm.encS ss) false))(hsz:ss.length<4611686018427387904)
  (hk:K (.tup []) (h.set id (.arr 1 (Go.Dm.encS (ss.mergeSort λx y=>decide (x<=y))) false))):aA prog 159 [.c (.own id 0 ss.length)] h K :=
 aA.mono (zPx hid hsz) (by rintro d h' ⟨rfl,rfl⟩;exact hk)
theorem NW{h:aD}{id n:Nat}{ss:List (List UInt8)}{K:DV->aD->Prop}(hid:h[id]?=some (.arr 1 (Go.Dm.encS ss) false))(hsz:ss.length<4611686018427387904)(hn:n=ss.length)
  (hk:K (.c (.own id 0 (Lib.compact ss).length)) (h.set id (.arr 1 (Go.Dm.encS (Lib.compact ss++List.replicate (ss.length-(Lib.compact ss).length) [])) false))):aA prog 210 [.c (.own id 0 n)] h K:=by
 subst hn;exact aA.mono (zDJ hid hsz) (by rintro d h' ⟨rfl,rfl⟩;exact hk)
theorem zDV{a b:List It}(hal:a.length<=120)(hbl:b.length<=120)(has:Srt a)(hbs:Srt b)(hna:∀x∈a,x.p≠[])(hnb:∀x∈b,x.p≠[])(hda2:∀x∈a,x.n.d.length<=2000)(hdb2:∀x∈b,x.n.d.length<=2000):
  aA prog 223 [.c (.p (.sl 5 (aS a))),.c (.p (.sl 5 (aS b)))] [] λr h=>r=.c (.p (.sl 10 (lE (bT a b))))/\h=[]:=by
 have hda:∀x∈a,x.n.d.length<=140737488355328:=λx hx=>Nat.le_trans (hda2 x hx) (by decide);have hdb:∀x∈b,x.n.d.length<=140737488355328:=λx hx=>Nat.le_trans (hdb2 x hx) (by decide);have hcl:(a++b).length<=240:=by rw[List.length_append];omega
 unfold bT xR;refine eT func223 λX0 hX=>?_;simp only[f223,go_sem]
 repeat' (first|exact⟨⟩|refine sp ?_|refine uN (zId (a:=a) (b:=b) (by omega) (by omega)) ?_|((with_reducible apply aA.frz);exact rfl;exact rfl)|refine ai ?_)
 have hcab:(a++b).length=a.length+b.length:=List.length_append;generalize a++b=c at hcl hcab;refine dQ aF aN 5 1 rfl ?_;refine aP aF aN (α:=Nat × List (List UInt8)) (λx=>⟨69,[(0,.c (.p (.sl 5 (aS a)))),(1,.c (.p (.sl 5 (aS b)))),(19,.c (.p (.sl 5 (aS c)))),(20,.c (.p (.i .i64 ((a.length:Int)+b.length)))),(5,.c (.own 1 0 x.2.length)),(21,.c (.p (.i .i64 x.1)))],[.arr 1 [[.sl 5 (aS a)],[.sl 5 (aS b)]] true,.arr 1 (Go.Dm.encS x.2) false]⟩)
  (λx=>x.1<=c.length/\x.2.length<=x.1/\x.2++(c.drop x.1).map It.p=c.map It.p) (λx=>c.length-x.1) (0,[]) ⟨Nat.zero_le _,Nat.le_refl _,rfl⟩ (.inl (aB (by rw[hX];rfl) rfl rfl wkS)) ?_
 rintro⟨k,out⟩ ⟨hk,hol,hout⟩;simp only at hk hol hout;by_cases hlt:k<c.length
 .have hx:c[k]?=some c[k]:=List.getElem?_eq_getElem hlt;have hg:=bZ hx;have hd:=drop_at hx;have h1:decide ((k:Int)<(a.length:Int)+b.length)=true:=decide_eq_true (by omega);have w1:IntKind.i64.wrap ((k:Int)+1)=k+1:=wrap_i64 (by omega) (by omega);generalize c[k]=x at hx hg hd;rw[hd,List.map_cons] at hout
  repeat' (first|exact⟨⟩|refine sp ?_|((with_reducible refine And.intro ?_ ?_);((first|omega|decide))))
  exact dN (k+1,out++[x.p]) 1 4 ⟨by simp only;omega,by simp;omega,by simpa using hout⟩ (by simp only;omega) rfl rfl (aB rfl rfl rfl wkS)
 .have h1:decide ((k:Int)<(a.length:Int)+b.length)=false:=decide_eq_false (by omega);rw[List.drop_of_length_le (by omega),List.map_nil,List.append_nil] at hout;rw[<- hout];clear hout;have hol2:out.length<=240:=by omega
  have hsl:(out.mergeSort λx y=>decide (x<=y)).length=out.length:=List.length_mergeSort ..
  repeat' (first|simp only[*,go_sem,Nat.reduceLT,Nat.reduceEqDiff,↓reduceIte,List.set_cons_succ,List.set_cons_zero]|refine sort_k (id:=1) (ss:=out) (by rfl) (by omega) ?_|refine NW (id:=1) (ss:=out.mergeSort λx y=>decide (x<=y)) (by rfl) (by omega) (by omega) ?_)
  have hst:(out.mergeSort λx y=>decide (x<=y)).length<=240:=by omega
  generalize (out.mergeSort λx y=>decide (x<=y))=st at hst;have hcp:=AH st;generalize List.replicate (out.length-(Lib.compact st).length) ([]:List UInt8)=rest;generalize Lib.compact st=cp at hcp;clear hlt h1 hk hol hsl;refine dQ aF aN 8 10 rfl ?_;refine aP aF aN (α:=Nat × List Ch) (λx=>⟨69,[(0,.c (.p (.sl 5 (aS a)))),(1,.c (.p (.sl 5 (aS b)))),(34,.c (.own 1 0 cp.length)),(35,.c (.p (.i .i64 cp.length))),(36,.c (.p (.i .i64 x.1))),(8,.c (.own 2 0 x.2.length))],[.arr 1 [[.sl 5 (aS a)],[.sl 5 (aS b)]] true,.arr 1 (Go.Dm.encS (cp++rest)) false,.arr 10 (lE x.2) false]⟩)
   (λx=>x.1<=cp.length/\x.2.length<=x.1/\x.2++VO a b (cp.drop x.1)=VO a b cp) (λx=>cp.length-x.1) (0,[]) ⟨Nat.zero_le _,Nat.le_refl _,rfl⟩ (.inl (aB (by rw[hX];rfl) rfl rfl wkS)) ?_
  rintro⟨k,out2⟩ ⟨hk,hol,hout⟩;simp only at hk hol hout;by_cases hlt:k<cp.length
  .have hx:cp[k]?=some cp[k]:=List.getElem?_eq_getElem hlt;have hd:=drop_at hx;have hxr:(cp++rest)[k]?=some cp[k]:=by rw[List.getElem?_append_left hlt];exact hx
   have hg:=Go.Dm.encS_at hxr;have h1:decide ((k:Int)<(cp.length:Int))=true:=decide_eq_true (by omega);have w1:IntKind.i64.wrap ((k:Int)+1)=k+1:=wrap_i64 (by omega) (by omega);generalize cp[k]=p at hx hxr hg hd;rw[hd,VO,chF] at hout
   repeat' (first|exact⟨⟩|refine sp ?_|refine uN (eV (t:=a) (by omega) has hna hda) ?_|refine uN (eV (t:=b) (by omega) hbs hnb hdb) ?_|refine uN (zLq _ _) ?_|refine aH (λ_=>?_) (λ_=>?_)|((with_reducible refine And.intro ?_ ?_);((first|omega|decide))))
   .rename_i hb;rw[if_pos hb] at hout;exact dN (k+1,out2++[⟨p,lG (aM a p).isSome (aM b p).isSome ((aM a p).getD nd0) ((aM b p).getD nd0),(aM a p).getD nd0,(aM b p).getD nd0⟩]) 2 6 ⟨by simp only;omega,by simp;omega,by simpa using hout⟩ (by simp only;omega) rfl rfl (aB rfl rfl rfl wkS)
   .rename_i hb;rw[if_neg (by rw[hb];decide)] at hout;exact dE (k+1,out2) ⟨by simp only;omega,by simp only;omega,by simpa using hout⟩ (by simp only;omega) (aB rfl rfl rfl wkS)
  .have h1:decide ((k:Int)<(cp.length:Int))=false:=decide_eq_false (by omega);rw[List.drop_of_length_le (by omega),VO,List.append_nil] at hout
   repeat' (first|exact⟨⟩|refine sp ?_)
theorem AJ{t:List It}(ht:t.length<=1000000)(hd:∀x∈t,x.n.d.length<=140737488355328):
  aA prog 90 [.c (.p (.sl 5 (aS t)))] [] λr h=>r=.c (.own 0 0 t.length)/\h=[.arr 5 (aS t) false]:=by
 refine zQp aF aN func90 rfl rfl λX0 hX=>?_;simp only[f90,go_sem]
 repeat' (first|exact⟨⟩|refine sp ?_)
 refine dQ aF aN 3 5 rfl ?_;refine aP aF aN (α:=Nat) (λk=>⟨23,[(6,.c (.p (.sl 5 (aS t)))),(7,.c (.p (.i .i64 t.length))),(8,.c (.p (.i .i64 k))),(3,.c (.own 0 0 k))],[.arr 5 (aS (t.take k)) false]⟩)
  (λk=>k<=t.length) (λk=>t.length-k) 0 (Nat.zero_le _) (.inl (aB (by rw[hX];rfl) rfl rfl wkS)) ?_
 intro k hk;have hmn:min k t.length=k:=Nat.min_eq_left hk;have hln:(t.take k).length=k:=by rw[List.length_take,hmn]
 by_cases hlt:k<t.length
 .have hx:t[k]?=some t[k]:=List.getElem?_eq_getElem hlt;have hg:=bZ hx;have h1:decide ((k:Int)<(t.length:Int))=true:=decide_eq_true (by omega);have w1:IntKind.i64.wrap ((k:Int)+1)=k+1:=wrap_i64 (by omega) (by omega);have hnx:t.take (k+1)=t.take k++[⟨t[k].p,t[k].n⟩]:=by rw[List.take_add_one,hx];rfl
  have hdx:=hd _ (List.getElem_mem hlt);generalize t[k]=x at hx hg hnx hdx;generalize hrow:t.take k=row at hln hnx;clear hx hrow hd
  repeat' (first|exact⟨⟩|refine sp ?_|((refine aG (id:=5) aF aN [7,8] [1,2,3,4,5,6,7,0,8,9] (by decide +kernel) ?_);(repeat' (first|(refine aT ?_)|((refine cK ?_ ?_ rfl rfl rfl ?_ ?_);(rotate_left 2);(focus ((repeat' (first|exact⟨⟩|refine sp ?_|((with_reducible refine And.intro ?_ ?_);((first|omega|decide)))));((refine And.intro ?_ ?_<;>exact rfl))));(simp only[aC]))|((refine cJ ?_ rfl rfl rfl ?_ ?_);(rotate_left 1);(focus ((repeat' (first|exact bA|refine aW ?_ ?_));(all_goals ((repeat' (first|exact⟨⟩|refine sp ?_|refine uN (rW hdx) ?_));(try (exact rfl))))));(simp only[aC])))))|refine ai ?_)
  exact dN (k+1) 0 3 (by omega) (by omega) rfl rfl (aB rfl (by rw[hnx];rfl) rfl wkS)
 .have h1:decide ((k:Int)<(t.length:Int))=false:=decide_eq_false (by omega);have hk2:k=t.length:=by omega
  subst hk2;rw[List.take_length];clear hln hmn
  repeat' (first|exact⟨⟩|refine sp ?_)
  exact⟨rfl,Nat.zero_le _,rfl,_,_,rfl,rfl,rfl⟩
def goF(p:List UInt8)(it:Bool)(x:It):Bool:=aO p x.p || (it && x.p==p)
theorem zLf{q p:List UInt8}{it:Bool}{k m:Int}{tt:Nat}{d:List UInt8}{es:List (List PV)}(hp:p.length<=1000000000):
  aA prog 295 [.agg [.p (.s q),.p (.i .i64 k),.p (.i .i64 m),.p (.f tt),.p (.sl 1 (bU d))],.c (.ptr 0 0),.c (.ptr 1 0)] [.box [.p (.s p)],.box [.p (.b it)],.arr 5 es false]
   λr h=>r=.c (.p (.b (aO p q || (it && q==p))))/\h=[.box [.p (.s p)],.box [.p (.b it)],.arr 5 es false]:=by
 refine eT func295 λX0 hX=>?_;simp only[f295,go_sem]
 repeat' (first|simp only[*,go_sem,Nat.reduceLT,Nat.reduceEqDiff,↓reduceIte,Nat.reduceAdd,bP,aJ]|refine uF (cQ hp) ?_|refine aY (λ_=>?_) (λ_=>?_))
 all_goals simp_all
theorem zLg{q p:List UInt8}{it:Bool}{k m:Int}{tt:Nat}{d:List UInt8}{es:List (List PV)}(hp:p.length<=1000000000):
  aA prog 295 [.agg [.p (.s q),.p (.i .i64 k),.p (.i .i64 m),.p (.f tt),.p (.sl 1 (bU d))],.c (.ptr 0 0),.c (.ptr 1 0)] [.box [.p (.s p)],.box [.p (.b it)],.arr 5 es false,.box [.p (.s q),.p (.i .i64 k),.p (.i .i64 m),.p (.f tt),.p (.sl 1 (bU d))]]
   λr h=>r=.c (.p (.b (aO p q || (it && q==p))))/\h=[.box [.p (.s p)],.box [.p (.b it)],.arr 5 es false,.box [.p (.s q),.p (.i .i64 k),.p (.i .i64 m),.p (.f tt),.p (.sl 1 (bU d))]]:=by
 refine eT func295 λX0 hX=>?_;simp only[f295,go_sem]
 repeat' (first|simp only[*,go_sem,Nat.reduceLT,Nat.reduceEqDiff,↓reduceIte,Nat.reduceAdd,bP,aJ]|refine uF (cQ hp) ?_|refine aY (λ_=>?_) (λ_=>?_))
 all_goals simp_all
theorem zMJ{t:List It}{p:List UInt8}{it:Bool}(hp:p.length<=1000000000)(ht:t.length<=1000000):
  aA prog 227 [.c (.own 2 0 t.length),.c (.clo 295 [.ptr 0 0,.ptr 1 0])] [.box [.p (.s p)],.box [.p (.b it)],.arr 5 (aS t) false]
   λr h=>(∃i:Nat,i<=t.length/\(∀j x,t[j]?=some x->j<i->goF p it x=false)/\((∃x,t[i]?=some x/\goF p it x=true/\r=.c (.p (.i .i64 i)))∨(i=t.length/\r=.c (.p (.i .i64 (-1))))))/\h=[.box [.p (.s p)],.box [.p (.b it)],.arr 5 (aS t) false]:=by
 refine eT func227 λX0 hX=>?_;simp only[f227,go_sem]
 repeat' (first|exact⟨⟩|refine sp ?_)
 refine aP aF aN (α:=Nat) (λk=>⟨19,[(0,.c (.own 2 0 t.length)),(1,.c (.clo 295 [.ptr 0 0,.ptr 1 0])),(7,.c (.p (.i .i64 t.length))),(8,.c (.p (.i .i64 k)))],[.box [.p (.s p)],.box [.p (.b it)],.arr 5 (aS t) false]⟩)
  (λk=>k<=t.length/\∀j x,t[j]?=some x->j<k->goF p it x=false) (λk=>t.length-k) 0 ⟨Nat.zero_le _,λj x _ h=>by omega⟩ (.inl (aB (by rw[hX];rfl) rfl rfl wkS)) ?_
 rintro k ⟨hk,hs⟩;by_cases hlt:k<t.length
 .have hx:t[k]?=some t[k]:=List.getElem?_eq_getElem hlt;have hg:=bZ hx;have h1:decide ((k:Int)<(t.length:Int))=true:=decide_eq_true (by omega);have hli:(k:Int)<(t.length:Int):=by omega
  have w1:IntKind.i64.wrap ((k:Int)+1)=k+1:=wrap_i64 (by omega) (by omega);generalize t[k]=x at hx hg;cases hb:goF p it x
  .have hs':k+1<=t.length/\∀j y,t[j]?=some y->j<k+1->goF p it y=false:=⟨by omega,λj y hy hj=>by
    rcases Nat.lt_or_ge j k with h|h
    .exact hs j y hy h
    .have:j=k:=by omega
     subst this;rw[hx] at hy;cases hy;exact hb⟩
   have hb2:(aO p x.p || (it && x.p==p))=false:=hb;clear hs hx hb
   repeat' (first|exact⟨⟩|refine sp ?_|refine ai ?_)
   refine aA.mono (zLf hp) ?_;rintro _ _ ⟨rfl,rfl⟩;rw[hb2]
   repeat' (first|exact⟨⟩|refine sp ?_)
   exact dE (k+1) hs' (by omega) (aB rfl rfl rfl wkS)
  .have hb2:(aO p x.p || (it && x.p==p))=true:=hb
   repeat' (first|exact⟨⟩|refine sp ?_|refine ai ?_)
   refine aA.mono (zLf hp) ?_;rintro _ _ ⟨rfl,rfl⟩;rw[hb2];clear hb2
   repeat' (simp only[*,go_sem,Nat.reduceLT,Nat.reduceEqDiff,↓reduceIte,Int.reduceNeg,bP,aJ])
   exact⟨k,hk,hs,.inl ⟨x,hx,hb,rfl⟩⟩
 .have h1:decide ((k:Int)<(t.length:Int))=false:=decide_eq_false (by omega);have hk2:k=t.length:=by omega
  subst hk2
  repeat' (simp only[*,go_sem,Nat.reduceLT,Nat.reduceEqDiff,↓reduceIte,Nat.reduceAdd,Int.reduceNeg,bP,aJ])
  refine⟨t.length,Nat.le_refl _,hs,.inr ?_⟩
  first|exact⟨rfl,rfl⟩|rfl
theorem uE(t:List It)(i:Nat)(x:It):(aS t).set i [.s x.p,.i .i64 x.n.k,.i .i64 x.n.m,.f x.n.t,.sl 1 (bU x.n.d)]=aS (t.set i x):=by
 unfold aS;rw[List.map_set];rfl
theorem zAf{t:List It}{p:List UInt8}{it:Bool}{K:DV->aD->Prop}(hp:p.length<=1000000000)(ht:t.length<=1000000)
  (hk:∀es:List (List PV),es.take (t.filter λx=>!goF p it x).length=aS (t.filter λx=>!goF p it x)->K (.c (.own 2 0 (t.filter λx=>!goF p it x).length)) [.box [.p (.s p)],.box [.p (.b it)],.arr 5 es false]):
  aA prog 294 [.c (.own 2 0 t.length),.c (.clo 295 [.ptr 0 0,.ptr 1 0])] [.box [.p (.s p)],.box [.p (.b it)],.arr 5 (aS t) false] K:=by
 refine VP aF aN func294 rfl rfl λX0 hX=>?_;simp only[f294,go_sem]
 repeat' (first|exact⟨⟩|refine sp ?_)
 refine aA.mono (zMJ hp ht) ?_;rintro _ _ ⟨⟨i0,hi0,hbef,hcase⟩,rfl⟩;rcases hcase with⟨x0,hx0,hg0,rfl⟩|⟨rfl,rfl⟩
 .have hil:i0<t.length:=(List.getElem?_eq_some_iff.1 hx0).1;have q:((i0:Int) == -1)=false:=by rw[beq_eq_false_iff_ne];omega
  have w0:IntKind.i64.wrap ((i0:Int)+1)=(i0+1:Nat):=wrap_i64 (by omega) (by omega)
  repeat' (first|exact⟨⟩|refine sp ?_)
  have hself:(t.take i0).filter (λx=>!goF p it x)=t.take i0:=List.filter_eq_self.2 λx hx=>by
   obtain⟨j,hj,rfl⟩:=List.mem_iff_getElem.1 hx;rw[List.getElem_take];have hj2:j<i0:=by simp at hj;omega
   rw[hbef j _ (List.getElem?_eq_getElem (by omega)) hj2];rfl
  have h0:(t.take (i0+1)).filter (λx=>!goF p it x)=t.take i0:=by
   rw[fJ hx0,hself,hg0];simp
  refine aP aF aN (α:=Nat × Nat × List It) (λx=>⟨42,[(0,.c (.own 2 0 t.length)),(1,.c (.clo 295 [.ptr 0 0,.ptr 1 0])),(5,.c (.p (.i .i64 x.2.1))),(6,.c (.p (.i .i64 x.1)))],[.box [.p (.s p)],.box [.p (.b it)],.arr 5 (aS x.2.2) false]⟩)
   (λx=>x.1<=t.length/\x.2.1<x.1/\x.2.2.length=t.length/\x.2.2.take x.2.1=(t.take x.1).filter (λx=>!goF p it x)/\x.2.2.drop x.1=t.drop x.1) (λx=>t.length-x.1) (i0+1,i0,t)
   ⟨by omega,by simp,rfl,by rw[h0],rfl⟩ (.inl (aB (by rw[hX];rfl) rfl rfl wkS)) ?_
  clear hself h0 hbef hx0 hg0 q w0 hil hi0;rintro⟨j,i,R⟩ ⟨hj,hij,hRl,hRt,hRd⟩;simp only at hj hij hRl hRt hRd;by_cases hlt:j<t.length
  .have hx:t[j]?=some t[j]:=List.getElem?_eq_getElem hlt;have hxR:R[j]?=some t[j]:=by
    have h3:R[j]?=t[j]? := by
     have:=congrArg (·[0]?) hRd
     simpa[List.getElem?_drop] using this
    exact h3.trans hx
   have hg:=bZ hxR;have h1:decide ((j:Int)<(t.length:Int))=true:=decide_eq_true (by omega);have hli:(j:Int)<(t.length:Int):=by omega
   have hli2:(i:Int)<(t.length:Int):=by omega
   have w1:IntKind.i64.wrap ((j:Int)+1)=(j+1:Nat):=wrap_i64 (by omega) (by omega);have w2:IntKind.i64.wrap ((i:Int)+1)=(i+1:Nat):=wrap_i64 (by omega) (by omega);have hnx:=fJ (g:=λx=>!goF p it x) hx;generalize t[j]=x at hx hxR hg hnx;have hRd2:R.drop (j+1)=t.drop (j+1):=by rw[<- List.drop_drop,<- List.drop_drop,hRd]
   cases hb:goF p it x
   .rw [hb] at hnx;have hJ:j+1<=t.length/\i+1<j+1/\(R.set i x).length=t.length/\(R.set i x).take (i+1)=(t.take (j+1)).filter (λx=>!goF p it x)/\(R.set i x).drop (j+1)=t.drop (j+1):=by
     refine⟨by omega,by omega,by simp[hRl],?_,?_⟩
     .rw[hnx,List.take_add_one,List.getElem?_set_self (by omega),List.take_set,List.set_eq_of_length_le (by rw[List.length_take];omega),hRt];rfl
     .rw[List.drop_set,if_pos (by omega),hRd2]
    have hb2:(aO p x.p || (it && x.p==p))=false:=hb;have hgi:=bZ (t:=R) (k:=i) (List.getElem?_eq_getElem (by omega));generalize (R[i]'(by omega))=y at hgi;clear hnx hRt hRd hRd2 hx hxR hb
    repeat' (first|exact⟨⟩|refine sp ?_|refine ai ?_)
    refine aA.mono (zLg hp) ?_;rintro _ _ ⟨rfl,rfl⟩;rw[hb2]
    repeat' (first|exact⟨⟩|refine sp ?_|refine ai ?_)
    exact dE (j+1,i+1,R.set i x) hJ (by simp only;omega) (aB rfl (by simp only[<- uE];rfl) rfl wkS)
   .rw[hb] at hnx;have hJ:j+1<=t.length/\i<j+1/\R.length=t.length/\R.take i=(t.take (j+1)).filter (λx=>!goF p it x)/\R.drop (j+1)=t.drop (j+1):=⟨by omega,by omega,hRl,by rw[hnx,hRt];simp,hRd2⟩
    have hb2:(aO p x.p || (it && x.p==p))=true:=hb;clear hnx hRt hRd hRd2 hx hxR hb
    repeat' (first|exact⟨⟩|refine sp ?_|refine ai ?_)
    refine aA.mono (zLg hp) ?_;rintro _ _ ⟨rfl,rfl⟩;rw[hb2]
    repeat' (first|exact⟨⟩|refine sp ?_)
    exact dE (j+1,i,R) hJ (by simp only;omega) (aB rfl rfl rfl wkS)
  .have h1:decide ((j:Int)<(t.length:Int))=false:=decide_eq_false (by omega);have htt:t.take j=t:=List.take_of_length_le (by omega);rw[htt] at hRt;have hil:(t.filter λx=>!goF p it x).length=i:=by
    rw[<- hRt,List.length_take];omega
   have hli:(i:Int)<=(t.length:Int):=by omega
   have hi0:(0:Int)<=i:=by omega
   have hni:i+(t.length-i)=R.length:=by omega
   rw[hil] at hk;clear htt hRd hij
   repeat' (first|exact⟨⟩|refine sp ?_|refine ai ?_)
   all_goals first|refine hk _ ?_|refine⟨by omega,hk _ ?_⟩
   all_goals exact List.take_left' (by simp[aS,hil])
 .have hself:t.filter (λx=>!goF p it x)=t:=List.filter_eq_self.2 λx hx=>by
   obtain⟨j,hj,rfl⟩:=List.mem_iff_getElem.1 hx;rw[hbef j _ (List.getElem?_eq_getElem hj) hj];rfl
  rw[hself] at hk;clear hself
  repeat' (first|exact⟨⟩|refine sp ?_)
  all_goals exact hk _ (List.take_of_length_le (by simp))
theorem zHJ{t:List It}{p:List UInt8}{it:Bool}(hp:p.length<=1000000000)(ht:t.length<=1000000)(hd:∀x∈t,x.n.d.length<=140737488355328):
  aA prog 246 [.c (.p (.sl 5 (aS t))),.c (.p (.s p)),.c (.p (.b it))] [] λr h=>r=.c (.p (.sl 5 (aS (t.filter λx=>!goF p it x))))/\h=[]:=by
 have hc:=AJ ht hd;refine eT func246 λX0 hX=>?_;simp only[f246,go_sem]
 repeat' (first|exact⟨⟩|refine sp ?_|refine zC5 hc rfl ?_)
 refine zAf hp ht λes hes=>?_
 repeat' (first|exact⟨⟩|refine sp ?_)
 all_goals rw[hes]
theorem qK{t:List It}{p:List UInt8}(hp:p.length<=1000000000)(ht:t.length<=1000000)(hd:∀x∈t,x.n.d.length<=140737488355328):
  aA prog 189 [.c (.p (.sl 5 (aS t))),.c (.p (.s p))] [] λr h=>r=.c (.p (.sl 5 (aS (bR t p))))/\h=[]:=by
 have hr:bR t p=t.filter λx=>!goF p true x:=by
  rw[gD]
  congr 1
  funext x
  simp only[goF,Bool.true_and];cases aO p x.p<;>cases x.p==p<;>rfl
 have hw:=zHJ (p:=p) (it:=true) hp ht hd;rw[<- hr] at hw;refine eT func189 λX0 hX=>?_;simp only[f189,go_sem]
 repeat' (first|exact⟨⟩|refine sp ?_|refine uN (hw) ?_)
theorem LK{t:List It}{p:List UInt8}(h:OkT t):aA prog 114 [.c (.p (.sl 5 (aS t))),.c (.p (.s p))] [] λr h=>r=.c (.p (.sl 1 (Go.Dm.encS (iG t p))))/\h=[]:=by
 have hl:=h.len;have hpl:=h.plen;have hne:=h.ne;clear h;unfold iG;refine eT func114 λX0 hX=>?_;simp only[f114,go_sem]
 repeat' (first|exact⟨⟩|refine sp ?_)
 refine dQ aF aN 5 1 rfl ?_;refine aP aF aN (α:=Nat × List (List UInt8)) (λx=>⟨34,[(1,.c (.p (.s p))),(8,.c (.p (.sl 5 (aS t)))),(9,.c (.p (.i .i64 t.length))),(10,.c (.p (.i .i64 x.1))),(5,.c (.own 0 0 x.2.length))],[.arr 1 (Go.Dm.encS x.2) false]⟩)
  (λx=>x.1<=t.length/\x.2.length<=x.1/\(((t.take x.1).filter λx=>aU x.p==p).map λx=>yD x.p)=x.2) (λx=>t.length-x.1) (0,[]) ⟨Nat.zero_le _,Nat.le_refl _,rfl⟩ (.inl (aB (by rw[hX];rfl) rfl rfl wkS)) ?_
 rintro⟨k,out⟩ ⟨hk,hol,hout⟩;simp only at hk hol hout;by_cases hlt:k<t.length
 .have hx:t[k]?=some t[k]:=List.getElem?_eq_getElem hlt;have hg:=bZ hx;have h1:decide ((k:Int)<(t.length:Int))=true:=decide_eq_true (by omega);have w1:IntKind.i64.wrap ((k:Int)+1)=k+1:=wrap_i64 (by omega) (by omega);have hnx:=fJ (g:=λx=>aU x.p==p) hx;have hxl:=hpl _ (List.getElem_mem hlt);have hxn:(t[k].p == [])=false:=by
   have:=hne _ (List.getElem_mem hlt);simpa using this
  generalize t[k]=x at hx hg hnx hxl hxn;cases hb:(aU x.p==p)
  .have hJ:k+1<=t.length/\out.length<=k+1/\(((t.take (k+1)).filter λx=>aU x.p==p).map λx=>yD x.p)=out:=⟨by omega,by omega,by rw[hnx,hb,List.map_append,hout];simp⟩
   clear hnx hx hout hpl hne
   repeat' (first|exact⟨⟩|refine sp ?_|refine uF (dV (by omega)) ?_|refine ai ?_)
   exact dE (k+1,out) hJ (by simp only;omega) (aB rfl rfl rfl wkS)
  .have hJ:k+1<=t.length/\(out++[yD x.p]).length<=k+1/\(((t.take (k+1)).filter λx=>aU x.p==p).map λx=>yD x.p)=out++[yD x.p]:=⟨by omega,by simp;omega,by rw[hnx,hb,List.map_append,hout];simp⟩
   clear hnx hx hout hpl hne
   repeat' (first|exact⟨⟩|refine sp ?_|refine uF (dV (by omega)) ?_|refine uF (zB7 (by omega)) ?_|((with_reducible refine And.intro ?_ ?_);((first|omega|decide))))
   exact dN (k+1,out++[yD x.p]) 0 3 hJ (by simp only;omega) rfl rfl (aB rfl rfl rfl wkS)
 .have h1:decide ((k:Int)<(t.length:Int))=false:=decide_eq_false (by omega);rw[List.take_of_length_le (by omega)] at hout;unfold KB;rw[hout];have hsl:(out.mergeSort λx y=>decide (x<=y)).length=out.length:=List.length_mergeSort ..;clear hout
  repeat' (first|simp only[*,go_sem,Nat.reduceLT,Nat.reduceEqDiff,↓reduceIte,List.set_cons_zero]|refine sort_k (id:=0) (ss:=out) (by rfl) (by omega) ?_)
  all_goals rw[List.take_of_length_le (by simp)]
def t3:List It:=[⟨[97],⟨2,493,0,[]⟩⟩,⟨[97,47,98],⟨1,0,0,[]⟩⟩,⟨[99],⟨2,493,0,[]⟩⟩]
end Go.Proofs.YtflcjdohmojepaaGreatDoor
end
