/- Part 30 of the proof of roomMerges_card, set without needless blanks. No condition. -/
import Derived.Test.YtflcjdohmojepaaGreatDoorM28
set_option linter.all false
set_option maxRecDepth 100000
set_option maxHeartbeats 16000000
section
namespace Go.Proofs.YtflcjdohmojepaaGreatDoor
open Go Go.Dm Go.Proofs Go.Proofs.Tryz
theorem BO(t:List It)(i:Nat)(p:List UInt8)(k m:Int)(tt:Nat)(d:List UInt8):fZ i [.s p,.i .i64 k,.i .i64 m,.f tt,.sl 1 (bU d)] (aS t)=aS (t.take i++⟨p,⟨k,m,tt,d⟩⟩::t.drop i):=by
 simp[fZ,aS,It.cs,List.map_take,List.map_drop]
theorem zQN{t:List It}{p:List UInt8}{k m:Int}{tt:Nat}{d:List UInt8}(h:OkT t)(hp:p.length<=1000000000)(hd:d.length<=140737488355328)(htt:tt<18446744073709551616):
  aA prog 290 [.c (.p (.sl 5 (aS t))),.c (.p (.s p)),.agg (ndc k m tt d)] [] λr h =>
   r=.tup [.c (.p (.sl 5 (aS (mE t p ⟨k,m,tt,d⟩).1))),.c (.p (.i .i64 (mE t p ⟨k,m,tt,d⟩).2))]/\h=[]:=by
 have htl:=h.len;have hdl:∀x∈t,x.n.d.length<=140737488355328:=λx hx=>Nat.le_trans (h.dlen x hx) (by decide);have hdir:=eR (t:=t) (p:=aU p) (by omega) h.srt;have hpath:=fT hp;have hnode:=dZ (k:=k) (m:=m) (d:=d) htt;refine aV ?_;unfold mE;cases q0:(p == [])
 case true =>
  refine eT func290 λX0 hX=>?_;simp only[f290,go_sem]
  repeat' (first|exact⟨⟩|refine sp ?_)
  all_goals simp
 cases q1:bW p
 case false =>
  rw[q1] at hpath;refine eT func290 λX0 hX=>?_;simp only[f290,go_sem]
  repeat' (first|exact⟨⟩|refine sq ?_|refine uF (hpath) ?_)
  all_goals simp
 cases q2:aR ⟨k,m,tt,d⟩
 case false =>
  rw[q1] at hpath;rw[q2] at hnode;refine eT func290 λX0 hX=>?_;simp only[f290,go_sem]
  repeat' (first|exact⟨⟩|refine sq ?_|refine uF (hpath) ?_|refine uF (hnode) ?_)
  all_goals simp
 cases q3:bC t (aU p)
 case false =>
  rw[q1] at hpath;rw[q2] at hnode;rw[q3] at hdir;refine eT func290 λX0 hX=>?_;simp only[f290,go_sem]
  repeat' (first|exact⟨⟩|refine sq ?_|refine uF (hpath) ?_|refine uF (hnode) ?_|refine uF (dV hp) ?_|refine uF (hdir) ?_)
  all_goals simp
 rw [q1] at hpath;rw[q2] at hnode;rw[q3] at hdir;have e0:(false || !true || !true)=false:=rfl;rw[e0,if_neg (by decide),if_neg (by decide)];clear e0 q1 q2 q3;have hcp:=rW (k:=k) (m:=m) (t:=tt) (d:=d) hd;have hgo:(t.filter λx=>!goF p false x)=bG t p:=by
  unfold bG
  congr 1
  funext x
  simp[goF]
 have hub:=h.toOkT0.filter (λx=>!aO p x.p);change OkT0 (bG t p) at hub;cases q4:(k != 2)
 .simp only[Bool.false_eq_true,if_false];have hs:=h.srt;have hle0:t.length<=(aS t).length:=Nat.le_of_eq (cN t).symm;have hes0:(aS t).take t.length=aS t:=List.take_of_length_le (Nat.le_of_eq (cN t));have hsl:=oL t p ⟨k,m,tt,d⟩;refine eT func290 λX0 hX=>?_;simp only[f290,go_sem]
  repeat' (first|exact⟨⟩|refine sq ?_|refine uF (hpath) ?_|refine uF (hnode) ?_|refine uF (dV hp) ?_|refine uF (hdir) ?_|refine AK (by omega) hdl ?_|refine zE7 (i:=1) (t:=t) rfl hes0 (by omega) hs ?_)
  intro j hj;unfold nU;have hj1:=hj.1;have hat:At t p j:=hj;cases hf:gO t p j
  .have hnew:=MR (n:=⟨k,m,tt,d⟩) hs hat (λx hx=>by unfold gO at hf;rw[hx] at hf;exact hf)
   rw [hnew];have hln:(t.take j++(⟨p,⟨k,m,tt,d⟩⟩:It)::t.drop j).length=t.length+1:=by
    rw[List.length_append,List.length_cons,List.length_take,List.length_drop];omega
   rw[hln]
   repeat' (first|exact⟨⟩|refine sp ?_|refine uN (hcp) ?_|refine insert_k (x:=[.s p,.i .i64 k,.i .i64 m,.f tt,.sl 1 (bU d)]) rfl rfl (by decide) hle0 hj1 (by omega) ?_|refine aH (λ_=>?_) (λ_=>?_)|refine ai ?_)
   all_goals first|exact .inr ⟨_,rfl⟩|(rw[BO,List.take_of_length_le (by rw[cN,hln];exact Nat.le_refl _)])
  .unfold gO at hf;have hlt:j<t.length:=by
    rcases Nat.lt_or_ge j t.length with h|h
    .exact h
    .rw[List.getElem?_eq_none h] at hf;cases hf
   have hx:t[j]?=some t[j]:=List.getElem?_eq_getElem hlt;rw[hx] at hf;have hset:=HU (n:=⟨k,m,tt,d⟩) hs hat hx hf;rw[hset];have hln:(t.set j ⟨p,⟨k,m,tt,d⟩⟩).length=t.length:=List.length_set
   rw[hln];have hjl:(j:Int)<(t.length:Int):=by omega
   have hgj:=bZ (t:=t) (k:=j) hx;have hse:=uE t j ⟨p,⟨k,m,tt,d⟩⟩;clear hx hf hset hat hj;generalize t[j]=y at hgj
   repeat' (first|exact⟨⟩|refine sp ?_|refine uN (hcp) ?_|refine aH (λ_=>?_) (λ_=>?_)|refine ai ?_)
   all_goals first|exact .inr ⟨_,rfl⟩|(rw[List.take_of_length_le (by rw[hln];exact Nat.le_refl _)])
 .simp only[if_true];have hs:=hub.srt;have hul:=oG t p;have hsl:=oL (bG t p) p ⟨k,m,tt,d⟩;have hw:∀(h:aD) (K:DV->aD->Prop),(∀es:List (List PV),es.take (bG t p).length=aS (bG t p)->K (.c (.own (2+h.length) 0 (bG t p).length)) (h++[.box [.p (.s p)],.box [.p (.b false)],.arr 5 es false])) ->
    aA prog 246 [.c (.p (.sl 5 (aS t))),.c (.p (.s p)),.c (.p (.b false))] h K:=λh K hk=>by
   refine zHK hp (by omega) hdl ?_;rw[hgo];exact hk
  refine eT func290 λX0 hX=>?_;simp only[f290,go_sem]
  repeat' (first|exact⟨⟩|refine sq ?_|refine uF (hpath) ?_|refine uF (hnode) ?_|refine uF (dV hp) ?_|refine uF (hdir) ?_|refine AK (by omega) hdl ?_|refine hw _ _ ?_)
  intro es hes;clear hw hgo;generalize bG t p=u at hub hs hul hsl hes ⊢;have hle0:u.length<=es.length:=by
   have:=congrArg List.length hes;rw[List.length_take,cN] at this;omega
  repeat' (first|exact⟨⟩|refine sp ?_|refine zE7 (i:=4) (t:=u) rfl hes (by omega) hs ?_)
  intro j hj;unfold nU;have hj1:=hj.1;have hat:At u p j:=hj;cases hf:gO u p j
  .have hnew:=MR (n:=⟨k,m,tt,d⟩) hs hat (λx hx=>by unfold gO at hf;rw[hx] at hf;exact hf)
   rw [hnew];have hln:(u.take j++(⟨p,⟨k,m,tt,d⟩⟩:It)::u.drop j).length=u.length+1:=by
    rw[List.length_append,List.length_cons,List.length_take,List.length_drop];omega
   rw[hln]
   repeat' (first|exact⟨⟩|refine sp ?_|refine uN (hcp) ?_|refine insert_k (x:=[.s p,.i .i64 k,.i .i64 m,.f tt,.sl 1 (bU d)]) rfl rfl (by decide) hle0 hj1 (by omega) ?_|refine aH (λ_=>?_) (λ_=>?_)|refine ai ?_)
   all_goals first|exact .inr ⟨_,rfl⟩|(rw[BO,List.take_of_length_le (by rw[cN,hln];exact Nat.le_refl _)])
  .unfold gO at hf;have hlt:j<u.length:=by
    rcases Nat.lt_or_ge j u.length with h|h
    .exact h
    .rw[List.getElem?_eq_none h] at hf;cases hf
   have hx:u[j]?=some u[j]:=List.getElem?_eq_getElem hlt;rw[hx] at hf;have hset:=HU (n:=⟨k,m,tt,d⟩) hs hat hx hf;rw[hset];have hln:(u.set j ⟨p,⟨k,m,tt,d⟩⟩).length=u.length:=List.length_set
   rw[hln];have hjl:(j:Int)<(u.length:Int):=by omega
   have hgj:es.getD j []=u[j].cs:=by
    have h1:=bZ (t:=u) (k:=j) hx;rw[<- hes,List.getD_eq_getElem?_getD,List.getElem?_take,if_pos hlt,<- List.getD_eq_getElem?_getD] at h1;exact h1
   have hse:(es.set j [.s p,.i .i64 k,.i .i64 m,.f tt,.sl 1 (bU d)]).take u.length=aS (u.set j ⟨p,⟨k,m,tt,d⟩⟩):=by
    rw[List.take_set,hes];exact uE u j ⟨p,⟨k,m,tt,d⟩⟩
   have hje:(j:Int)<(es.length:Int):=by omega
   clear hx hf hset hat hj;generalize u[j]=y at hgj;unfold It.cs at hgj
   repeat' (first|exact⟨⟩|refine sp ?_|refine uN (hcp) ?_|refine aH (λ_=>?_) (λ_=>?_)|refine ai ?_)
   all_goals first|exact .inr ⟨_,rfl⟩|rw[hse]
theorem zPm{q:List UInt8}{k m:Int}{tt:Nat}{d p:List UInt8}:aA prog 299 [.agg [.p (.s q),.p (.i .i64 k),.p (.i .i64 m),.p (.f tt),.p (.sl 1 (bU d))],.c (.p (.s p))] [] λr h=>r=.c (.p (.i .i64 (ED q p)))/\h=[]:=by
 refine eT func299 λX0 hX=>?_;simp only[f299,go_sem]
 repeat' (first|exact⟨⟩|refine sp ?_|refine uF (lV) ?_)
theorem zBk{t:List It}{p:List UInt8}(ht:t.length<=1000000)(hs:Srt t):
  aA prog 163 [.c (.p (.sl 5 (aS t))),.c (.p (.s p)),.c (.clo 299 [])] [] λr h =>
   ∃i:Nat,JL t p i/\r=nU t p i/\h=[]:=by
 have hmon:∀(k k':Nat) (x x':It),t[k]?=some x->t[k']?=some x'->k<k'->cD x.p x'.p=true:=λk k' x x' h1 h2 h3=>by
  obtain⟨h4,rfl⟩:=List.getElem?_eq_some_iff.1 h1;obtain⟨h5,rfl⟩:=List.getElem?_eq_some_iff.1 h2;exact List.pairwise_iff_getElem.1 hs _ _ h4 h5 h3
 refine eT func163 λX0 hX=>?_;simp only[f163,go_sem]
 repeat' (first|exact⟨⟩|refine sp ?_)
 refine aP aF aN (α:=Nat × Nat) (λx=>⟨49,[(0,.c (.p (.sl 5 (aS t)))),(1,.c (.p (.s p))),(2,.c (.clo 299 [])),(8,.c (.p (.i .i64 t.length))),(9,.c (.p (.i .i64 x.1))),(10,.c (.p (.i .i64 x.2)))],[]⟩)
  (λx=>x.1<=x.2/\x.2<=t.length/\∀k y,t[k]?=some y->(k<x.1->cD y.p p=true)/\(x.2<=k->cD y.p p=false)) (λx=>x.2-x.1) (0,t.length) ⟨Nat.zero_le _,Nat.le_refl _,λk y hy=>⟨λh=>by omega,λh=>by rw[List.getElem?_eq_none h] at hy;cases hy⟩⟩ (.inl (aB (by rw[hX];rfl) rfl rfl wkS)) ?_
 rintro⟨i,j⟩ ⟨hij,hj,hl⟩;simp only at hij hj hl;by_cases hlt:i<j
 .have h1:decide ((i:Int)<(j:Int))=true:=decide_eq_true (by omega);have w1:IntKind.i64.wrap ((i:Int)+j)=(i:Int)+j:=wrap_i64 (by omega) (by omega);have w2:IntKind.u64.wrap ((i:Int)+j)=(i:Int)+j:=wrap_u64 (by omega) (by omega);obtain⟨m,hm,hmi,hmj⟩:∃m:Nat,((i:Int)+j).fdiv (2 ^ min 1 64)=(m:Int)/\i<=m/\m<j :=
   ⟨(i+j) / 2,by rw[show (2:Int) ^ min 1 64=2 from rfl,Int.fdiv_eq_ediv_of_nonneg _ (by decide)];omega,by omega,by omega⟩
  have w3:IntKind.i64.wrap (m:Int)=m:=wrap_i64 (by omega) (by omega);have w4:IntKind.i64.wrap ((m:Int)+1)=m+1:=wrap_i64 (by omega) (by omega);have hml:m<t.length:=by omega
  have hx:t[m]?=some t[m]:=List.getElem?_eq_getElem hml;have hg:=bZ hx;generalize t[m]=x at hx hg
  repeat' (first|exact⟨⟩|refine sp ?_|refine uF (zPm) ?_|refine aH (λ_=>?_) (λ_=>?_)|refine ai ?_)
  .rename_i hb;have hb:cD x.p p=true:=by rw[<- pE];exact hb
   exact dE (m+1,j) ⟨by simp only;omega,hj,λk y hy=>⟨λhk=>by
    rcases Nat.lt_or_ge k m with h|h
    .exact cL (hmon _ _ _ _ hy hx h) hb
    .have:k=m:=by simp only at hk;omega
     subst this;rw[hx] at hy;cases hy;exact hb,(hl k y hy).2⟩⟩ (by simp only;omega) (aB rfl rfl rfl wkS)
  .rename_i hb;have hb:cD x.p p=false:=by rw[<- pE];exact hb
   exact dE (i,m) ⟨hmi,by simp only;omega,λk y hy=>⟨(hl k y hy).1,λhk=>by
    rcases Nat.lt_or_ge m k with h|h
    .cases hc:cD y.p p
     .rfl
     .have:=cL (hmon _ _ _ _ hx hy h) hc;rw[hb] at this;cases this
    .have:k=m:=by simp only at hk;omega
     subst this;rw[hx] at hy;cases hy;exact hb⟩⟩ (by simp only;omega) (aB rfl rfl rfl wkS)
 .have h1:decide ((i:Int)<(j:Int))=false:=decide_eq_false (by omega);have:i=j:=by omega
  subst this;by_cases hil:i<t.length
  .have hx:t[i]?=some t[i]:=List.getElem?_eq_getElem hil;have hg:=bZ hx;have h2:decide ((i:Int)<(t.length:Int))=true:=decide_eq_true (by omega);generalize t[i]=x at hx hg
   repeat' (first|exact⟨⟩|refine sp ?_|refine uF (zPm) ?_|refine ai ?_)
   refine⟨i,⟨hj,hl⟩,?_⟩;simp only[nU,gO,hx,JW]
  .have h2:decide ((i:Int)<(t.length:Int))=false:=decide_eq_false (by omega)
   repeat' (first|exact⟨⟩|refine sp ?_)
   refine⟨i,⟨hj,hl⟩,?_⟩;simp only[nU,gO,List.getElem?_eq_none (Nat.le_of_not_lt hil)]
theorem zBj{h:aD}{i n:Nat}{es:List (List PV)}{t:List It}{p:List UInt8}{K:DV->aD->Prop}(h0:h[i]?=some (.arr 5 es false))(hes:es.take n=aS t)(ht:t.length<=1000000)(hs:Srt t)(hk:∀j,JL t p j->K (nU t p j) h):
  aA prog 163 [.c (.own i 0 n),.c (.p (.s p)),.c (.clo 299 [])] h K :=
 zPH (R:=λd=>∃j,JL t p j/\d=nU t p j) rfl rfl hes (aA.mono (zBk ht hs) λd h' ⟨j,a,b,c⟩=>⟨⟨j,a,b⟩,c⟩) h0 (λd ⟨j,h1,h2⟩=>by subst h2;exact⟨rfl,hk j h1⟩)
theorem zAx{h:aD}{i n:Nat}{es:List (List PV)}{t:List It}{p:List UInt8}{K:DV->aD->Prop}(h0:h[i]?=some (.arr 5 es false))(hes:es.take n=aS t)(ht:t.length<=1000000)(hs:Srt t)(hk:K (.c (.p (.b (bC t p)))) h):
  aA prog 113 [.c (.own i 0 n),.c (.p (.s p))] h K :=
 zC6 rfl hes (eR ht hs) h0 (λd h1=>by subst h1;exact⟨rfl,hk⟩)
theorem zKq{h:aD}{i n:Nat}{es:List (List PV)}{t:List It}{K:DV->aD->Prop}(h0:h[i]?=some (.arr 5 es false))(hes:es.take n=aS t)(hl:t.length<=1000000)(hp:∀x∈t,x.p.length<=1000000000)(ht:∀x∈t,x.n.t<18446744073709551616)(hk:K (.c (.p (.b (kT t)))) h):
  aA prog 93 [.c (.own i 0 n)] h K :=
 zQ5 hes (xZ hl hp ht) h0 (λd h1=>by subst h1;exact⟨rfl,hk⟩)
theorem zMU(t:List It)(x:En):oV t x=t.filter λy=>!goC x.p (pG t x) y:=rfl
theorem XN{t:List It}{l:List En}(ht:OkT t)(h:OkE l):
  aA prog 191 [.c (.p (.sl 5 (aS t))),.c (.p (.sl 7 (gG l)))] [] λr h=>r=.tup [.c (.p (.sl 5 (aS (sZ t l).1))),.c (.p (.b (sZ t l).2))]/\h=[]:=by
 have hR:=QY h;have htl:=ht.len;have hll:=h.len;have hdl:∀x∈t,x.n.d.length<=140737488355328:=λx hx=>Nat.le_trans (ht.dlen x hx) (by decide);refine aV ?_;refine eT func191 λX0 hX=>?_;simp only[f191,go_sem]
 repeat' (first|exact⟨⟩|refine sq ?_|refine uF (hR) ?_|refine AK (by omega) hdl ?_)
 refine aP aF aN (α:=Nat × List (List PV)) (λx=>⟨28,[(14,.c (.p (.sl 7 (gG l)))),(15,.c (.p (.i .i64 l.length))),(16,.c (.p (.i .i64 x.1))),(6,.c (.own 0 0 (fV t (l.take x.1)).length))],[.arr 5 x.2 false]⟩)
  (λx=>x.1<=l.length/\x.2.take (fV t (l.take x.1)).length=aS (fV t (l.take x.1))) (λx=>l.length-x.1) (0,aS t) ⟨Nat.zero_le _,List.take_of_length_le (Nat.le_of_eq (cN t))⟩ (.inl (aB (by rw[hX];rfl) rfl rfl (by simp[aQ,aX,aI,aL,aJ,fV]))) ?_
 rintro⟨k,es⟩ ⟨hk,hes⟩;simp only at hk hes;have hus:Srt (fV t (l.take k)):=CJ ht.srt;have hul:(fV t (l.take k)).length<=t.length+k:=SA t l k;by_cases hlt:k<l.length
 .have hx:l[k]?=some l[k]:=List.getElem?_eq_getElem hlt;have hg:=sJ hx;have h1:decide ((k:Int)<(l.length:Int))=true:=decide_eq_true (by omega);have w1:IntKind.i64.wrap ((k:Int)+1)=k+1:=wrap_i64 (by omega) (by omega);have hnx:fV t (l.take (k+1))=mC (fV t (l.take k)) l[k]:=by
   unfold fV;rw[List.take_add_one,hx,List.foldl_append];rfl
  have p1:=h.plen _ (List.getElem_mem hlt);have p2:=h.dlen _ (List.getElem_mem hlt);have p3:l[k].n.d.length<=140737488355328:=by omega
  generalize l[k]=x at hx hg hnx p1 p2 p3;generalize fV t (l.take k)=u at hes hus hul hnx;have hsplit:es=aS u++es.drop u.length:=by rw[<- hes,List.take_append_drop]
  generalize es.drop u.length=J at hsplit;subst hsplit;have hlu:=RZ u x;have hll1:=RA u x;have hls:=BV hus x;have hno:=zJE (t:=u) (x:=x);have hsh:=ZB (p:=x.p) (k:=x.k) (o:=x.o) (nk:=x.n.k) (nm:=x.n.m) (nt:=x.n.t) (nd:=x.n.d);rw[show (⟨x.p,x.k,x.o,⟨x.n.k,x.n.m,x.n.t,x.n.d⟩⟩:En)=x from rfl] at hsh
  have hcv:pG u x=(x.o || (jF x || !bC u x.p)):=rfl;have hlg:=zMU u x;have hcp:=rW (k:=x.n.k) (m:=x.n.m) (t:=x.n.t) (d:=x.n.d) p3;clear h hx hdl ht;have hes2:(aS u++J).take u.length=aS u:=List.take_left' (cN u);have hN:=PLift.up hnx;have hE:=PLift.up hes2;have hLG:=PLift.up hlg;have hNo:=PLift.up hno;clear hnx hes hes2 hlg hno;by_cases c4:(x.k==2)=true
  .have ho:mC u x=oV u x:=by unfold mC;rw[if_pos c4]
   cases c1:x.o<;>cases c2:jF x<;>cases c3:bC u x.p
   all_goals rw[c1,c2,c3] at hcv
   all_goals rw[c1,c2] at hsh
   all_goals simp only[Bool.not_true,Bool.not_false,Bool.or_true,Bool.or_false,] at hcv
   all_goals have hdo:=λ(h:aD) (i:Nat) (K:DV->aD->Prop) (h0:h[i]?=some (.arr 5 (aS u++J) false)) (hk:K (.c (.p (.b (bC u x.p)))) h)=>zAx (p:=x.p) h0 hE.down (by omega) hus hk
   all_goals rw[c3] at hdo
   all_goals rw[hcv] at hLG
   all_goals repeat' (first|exact⟨⟩|refine sq ?_|((with_reducible refine VP aF aN func249 rfl rfl λ_ _=>?_);simp only[f249,go_sem])|refine uF (hsh) ?_|refine hdo _ 0 _ rfl ?_|refine GU (by omega) (by omega) ?_|refine ai ?_)
   all_goals intro es' hes'
   all_goals rw[<- hLG.down] at hes' ⊢
   all_goals repeat' (first|exact⟨⟩|refine sp ?_|refine aH (λ_=>?_) (λ_=>?_)|refine aY (λ_=>?_) (λ_=>?_)|((with_reducible apply aA.frz);exact rfl;exact rfl)|refine ai ?_)
   all_goals exact dE (k+1,es') ⟨by simp only;omega,by rw[hN.down,ho];exact hes'⟩ (by simp only;omega) (aB rfl rfl rfl (by simp[aQ,aX,aI,aL,aJ,hN.down,ho]))
  .have c4:(x.k==2)=false:=by simpa using c4
   have ho:mC u x=tP (oV u x) x.p x.n:=by unfold mC;rw[if_neg (by rw[c4];decide)]
   cases c1:x.o<;>cases c2:jF x<;>cases c3:bC u x.p
   all_goals rw[c1,c2,c3] at hcv
   all_goals rw[c1,c2] at hsh
   all_goals simp only[Bool.not_true,Bool.not_false,Bool.or_true,Bool.or_false,] at hcv
   all_goals have hdo:=λ(h:aD) (i:Nat) (K:DV->aD->Prop) (h0:h[i]?=some (.arr 5 (aS u++J) false)) (hk:K (.c (.p (.b (bC u x.p)))) h)=>zAx (p:=x.p) h0 hE.down (by omega) hus hk
   all_goals rw[c3] at hdo
   all_goals rw[hcv] at hLG
   all_goals repeat' (first|exact⟨⟩|refine sq ?_|((with_reducible refine VP aF aN func249 rfl rfl λ_ _=>?_);simp only[f249,go_sem])|refine uF (hsh) ?_|refine hdo _ 0 _ rfl ?_|refine GU (by omega) (by omega) ?_|refine ai ?_)
   all_goals intro es' hes'
   all_goals rw[<- hLG.down] at hes' ⊢
   all_goals repeat' (first|exact⟨⟩|refine sp ?_|refine zBj (i:=0) (t:=oV u x) rfl hes' (by omega) hls ?_)
   all_goals intro j hj
   all_goals unfold nU
   all_goals have hj1:=hj.1
   all_goals have hat:At (oV u x) x.p j:=hj
   all_goals have hnew:=MR (n:=x.n) hls hat (λy hy=>hNo.down y (List.mem_of_getElem? hy))
   all_goals have hle:(oV u x).length<=es'.length:=by have:=congrArg List.length hes';rw[List.length_take,cN] at this;omega
   all_goals have hjm:(j:Int)<=((oV u x).length:Int):=by omega
   all_goals clear hat hj
   all_goals repeat' (first|exact⟨⟩|refine sp ?_|((refine aG (id:=6) aF aN [8,9] [2,3,4,5,6,7,8,0,1,9,10] (by decide +kernel) ?_);(repeat' (first|(refine aT ?_)|((refine cK ?_ ?_ rfl rfl rfl ?_ ?_);(rotate_left 2);(focus ((repeat' (first|exact⟨⟩|refine sp ?_|refine insert_k (x:=[.s x.p,.i .i64 x.n.k,.i .i64 x.n.m,.f x.n.t,.sl 1 (bU x.n.d)]) rfl rfl (by decide) hle hj1 (by omega) ?_|refine ai ?_));((refine And.intro ?_ ?_<;>exact rfl))));(simp only[aC]))|((refine cJ ?_ rfl rfl rfl ?_ ?_);(rotate_left 1);(focus ((repeat' (first|exact bA|refine aW ?_ ?_));(all_goals ((repeat' (first|exact⟨⟩|refine sp ?_|refine uN (hcp) ?_));(try (exact rfl))))));(simp only[aC]))))))
   all_goals have hrow:aS (mC u x)=fZ j [.s x.p,.i .i64 x.n.k,.i .i64 x.n.m,.f x.n.t,.sl 1 (bU x.n.d)] (aS (oV u x)):=by rw[ho,hnew];exact(BO (oV u x) j x.p x.n.k x.n.m x.n.t x.n.d).symm
   all_goals have hln:(mC u x).length=(oV u x).length+1:=by rw[ho,hnew,List.length_append,List.length_cons,List.length_take,List.length_drop];omega
   all_goals exact dN (k+1,aS (mC u x)) 0 6 ⟨by simp only;omega,by rw[hN.down];exact List.take_of_length_le (Nat.le_of_eq (cN _))⟩ (by simp only;omega) rfl rfl (aB rfl (by rw[hrow];rfl) rfl (by simp[aQ,aX,aI,aL,aJ,EI,CY,EH,hN.down,hln]))
 .have h1:decide ((k:Int)<(l.length:Int))=false:=decide_eq_false (by omega);have hk2:k=l.length:=by omega
  subst hk2;rw[List.take_length] at hes hus hul;rw[List.take_length];have hmem:∀y∈fV t l,y.p.length<=1000000000/\y.n.t<18446744073709551616:=λy hy=>by
   rcases CI hy with hy|⟨x,hx,rfl⟩
   .exact⟨Nat.le_trans (ht.plen y hy) (by decide),ht.tlen y hy⟩
   .exact⟨Nat.le_trans (h.plen x hx) (by decide),h.tlen x hx⟩
  have hro:=λ(h:aD) (K:DV->aD->Prop) (h0:h[0]?=some (.arr 5 es false)) (hk:K (.c (.p (.b (kT (fV t l))))) h)=>zKq (t:=fV t l) (i:=0) h0 hes (by omega) (λx hx=>(hmem x hx).1) (λx hx=>(hmem x hx).2) hk;unfold sZ;have hE:=PLift.up hes;clear hes hmem hdl ht h hlt;generalize fV t l=u at *;cases c1:kT u
  .rw[c1] at hro
   repeat' (first|exact⟨⟩|refine sq ?_|refine hro _ _ rfl ?_)
   all_goals exact .inr ⟨_,rfl⟩
  .rw[c1] at hro
   repeat' (first|exact⟨⟩|refine sq ?_|refine hro _ _ rfl ?_)
   all_goals rw[hE.down]
theorem WD{ls:List (List En)}(hls:ls.length<=1000)(h:∀l∈ls,OkE l):
  aA prog 135 [.c (.p (.sl 1 (BC ls)))] [] λr h=>r=.tup [.c (.p (.sl 5 (aS (pL [] ls).1))),.c (.p (.b (pL [] ls).2))]/\h=[]:=by
 refine aV ?_;refine eT func135 λX0 hX=>?_;simp only[f135,go_sem]
 repeat' (first|exact⟨⟩|refine sp ?_)
 refine zNW 4 5 rfl ?_;refine aP aF aN (α:=Nat × List It) (λx=>⟨25,[(8,.c (.p (.sl 1 (BC ls)))),(9,.c (.p (.i .i64 ls.length))),(10,.c (.p (.i .i64 x.1))),(4,.c (.p (.sl 5 (aS x.2))))],[]⟩)
  (λx=>x.1<=ls.length/\OkT x.2/\pL x.2 (ls.drop x.1)=pL [] ls) (λx=>ls.length-x.1) (0,[]) ⟨Nat.zero_le _,OkT.nil,rfl⟩ (.inl (aB (by rw[hX];rfl) rfl rfl wkS)) ?_
 rintro⟨k,t⟩ ⟨hk,ht,hf⟩;simp only at hk ht hf;by_cases hlt:k<ls.length
 .have hx:ls[k]?=some ls[k]:=List.getElem?_eq_getElem hlt;have hg:=zMr hx;have hd:=drop_at hx;have h1:decide ((k:Int)<(ls.length:Int))=true:=decide_eq_true (by omega);have w1:IntKind.i64.wrap ((k:Int)+1)=k+1:=wrap_i64 (by omega) (by omega);have hl:=h _ (List.getElem_mem hlt);generalize ls[k]=l at hx hg hd hl;rw[hd,pL] at hf;have hov:=XN ht hl;have hok:=λh0=>zJ3 ht hl h0;generalize (sZ t l).1=u at hov hok hf;generalize (sZ t l).2=b at hov hok hf;clear hd hx;cases b
  .rw[if_neg (by decide)] at hf;rw[<- hf];clear hf hok
   repeat' (first|exact⟨⟩|refine sq ?_|refine uN (hov) ?_|refine ai ?_)
   all_goals exact .inr ⟨_,rfl⟩
  .rw[if_pos rfl] at hf;have hu:=hok rfl;have hF:=PLift.up hf;clear hf hok
   repeat' (first|exact⟨⟩|refine sq ?_|refine uN (hov) ?_|refine ai ?_)
   exact dE (k+1,u) ⟨by simp only;omega,hu,hF.down⟩ (by simp only;omega) (aB rfl rfl rfl wkS)
 .have h1:decide ((k:Int)<(ls.length:Int))=false:=decide_eq_false (by omega);rw[List.drop_of_length_le (by omega),pL] at hf;rw[<- hf];have hdl:∀x∈t,x.n.d.length<=140737488355328:=λx hx=>Nat.le_trans (ht.dlen x hx) (by decide);have htl:=ht.len;clear hf
  repeat' (first|exact⟨⟩|refine sp ?_|refine AK (by omega) hdl ?_)
theorem zMz{h:aD}{i n:Nat}{l:List Ly}{a:Int}{K:DV->aD->Prop}(hl:l.length<=1000000)(hn:n=l.length)(h0:h[i]?=some (.arr 4 (dA l) false))(hk:K (.tup [.agg ((fF l a).getD ly0).cv,.c (.p (.b (fF l a).isSome))]) h):
  aA prog 112 [.c (.own i 0 n),.c (.p (.i .i64 a))] h K :=
 zC6 rfl (by rw[hn,<- gH,List.take_length]) (KJ hl) h0 (λd hd=>by subst hd;exact⟨rfl,hk⟩)
theorem iM{r:Rm}{s:List UInt8}(hr:OkR r):aA prog 65 [.c (.ptr 0 0),.c (.p (.s s))] (bO r) λd h=>d=.tup [.agg (bY r s).1.cv,.c (.p (.i .i64 (bY r s).2))]/\h=bO r:=by
 have hf:=wT (r:=r) (s:=s) (Nat.le_trans hr.nl (by decide)) hr.srt;have hl:=hr.ll;rcases zGe hr.srt (s:=s) with⟨h1,h2⟩|⟨x,h1,h2,h3,h4⟩
 .rw[h1] at hf;rw[show bY r s=(ly0,6) by unfold bY;rw[h2]]
  clear h1 h2;refine eT func65 λX0 hX=>?_;simp only[f65,go_sem]
  repeat' (first|exact⟨⟩|refine sq ?_|refine uS [0,1,2,3] (hf) ?_)
  all_goals simp[ly0]
 .rw[h1] at hf;rw[show bY r s=((fF r.L x.l).getD ly0,0) by unfold bY;rw[h2]]
  have hlt:=(List.getElem?_eq_some_iff.1 h3).1;have hg:=qY h3;have k2:(0:Int)<=(sX r.N s:Int):=by omega
  have k3:(sX r.N s:Int)<(r.N.length:Int):=by omega
  clear h1 h2 h3 h4;obtain⟨y,hy⟩:∃y,(fF r.L x.l).getD ly0=y:=⟨_,rfl⟩;have hk:∀{h:aD} {i:Nat} {K:DV->aD->Prop},h[i]?=some (.arr 4 (dA r.L) false)->K (.tup [.agg y.cv,.c (.p (.b (fF r.L x.l).isSome))]) h->aA prog 112 [.c (.own i 0 r.L.length),.c (.p (.i .i64 x.l))] h K:=λh0 hk=>zMz (by omega) rfl h0 (by rw[hy];exact hk);rw[hy];clear hy;refine eT func65 λX0 hX=>?_;simp only[f65,go_sem]
  repeat' (first|exact⟨⟩|refine sq ?_|refine uS [0,1,2,3] (hf) ?_|((refine aG (id:=4) aF aN [16,17] [16,0,1,2,3,4,5,6,7,8,9,10,11,12,13,14,17,15,18] (by decide +kernel) ?_);(repeat' (first|(refine aT ?_)|((refine cK ?_ ?_ rfl rfl rfl ?_ ?_);(rotate_left 2);(focus ((repeat' (first|exact⟨⟩|refine sp ?_));((refine And.intro ?_ ?_<;>exact rfl))));(simp only[aC,bH]))|((refine cJ ?_ rfl rfl rfl ?_ ?_);(rotate_left 1);(focus ((repeat' (first|exact bA|refine aW ?_ ?_));(all_goals ((repeat' (first|exact⟨⟩|refine sp ?_|refine hk rfl ?_));(try (exact rfl))))));(simp only[aC]))))))
theorem zL0{l:List Ly}{a:Int}(hl:l.length<=100000):aA prog 100 [.c (.p (.sl 4 (dA l))),.c (.p (.i .i64 a))] [] λr h=>r=.c (.own 0 0 (dB (bV l a)).length)/\h=[.arr 1 (dB (bV l a)) false]:=by
 refine aA.rowR ?_;refine VP aF aN func100 rfl rfl λX0 hX=>?_;simp only[f100,go_sem]
 repeat' (first|exact⟨⟩|refine sp ?_|refine uF (KJ (l:=l) (by omega)) ?_)
 refine eX aF aN (α:=List Int × Int) (λx=>⟨38,[(0,.c (.p (.sl 4 (dA l)))),(5,.c (.own 1 0 x.1.length)),(6,.c (.ptr 0 0)),(7,.c (.p (.b (fF l x.2).isSome)))],[.box ((fF l x.2).getD ly0).cv,.arr 1 (dB x.1) false]⟩)
  (λx=>x.1.length<=l.length+1/\x.1++eU l (l.length+1-x.1.length) x.2=eU l (l.length+1) a) (λx=>l.length+1-x.1.length) ([],a) ⟨Nat.zero_le _,rfl⟩ ((uM 5 1 rfl).trans (dC (aB (by rw[hX];rfl) rfl rfl wkS))) ?_
 rintro⟨acc,id⟩ ⟨h1,h2⟩;simp only at h1 h2 ⊢;cases hf:fF l id with
 | none =>
  have e:eU l (l.length+1-acc.length) id=[]:=by cases (l.length+1-acc.length)<;>simp[eU,hf]
  rw[e,List.append_nil] at h2;have hr:bV l a=acc.reverse:=by unfold bV;rw[<- h2]
  have hrv:=HJ (l:=acc) (by omega);rw[hr];clear hr h2 e
  repeat' (first|simp only[*,go_sem,Nat.reduceLT,Nat.reduceEqDiff,↓reduceIte,Nat.reduceAdd,Option.isSome_none]|refine uS [1] (hrv) ?_)
  exact .inr ⟨1,by rw[List.length_reverse],rfl⟩
 | some y =>
  by_cases hlt:acc.length<=l.length
  .have hfc:=KJ (l:=l) (a:=y.p) (by omega);have hd:decide ((acc.length:Int)<=(l.length:Int))=true:=decide_eq_true (by omega);obtain⟨z,hz⟩:∃z,(fF l y.p).getD ly0=z:=⟨_,rfl⟩;rw[hz] at hfc;have hJ:(acc++[y.i]).length<=l.length+1/\(acc++[y.i])++eU l (l.length+1-(acc++[y.i]).length) y.p=eU l (l.length+1) a:=by
    refine⟨by simp;omega,?_⟩
    rw[<- h2,show l.length+1-acc.length=(l.length+1-(acc++[y.i]).length)+1 by simp;omega,eU,hf]
    simp
   have hm:l.length+1-(acc++[y.i]).length<l.length+1-acc.length:=by simp;omega
   have hJ:=PLift.up hJ;have hm:=PLift.up hm;have hz:=PLift.up hz;have hla:(acc++[y.i]).length=acc.length+1:=by simp
   have hla:=PLift.up hla;clear h1 h2
   repeat' (first|simp only[*,go_sem,Nat.reduceLT,Nat.reduceLeDiff,Nat.reduceEqDiff,↓reduceIte,Nat.reduceAdd,Nat.reduceBEq,Option.isSome_some,Option.getD_some]|refine uF (hfc) ?_|((with_reducible refine And.intro ?_ ?_);((first|omega|decide))))
   exact wK (acc++[y.i],y.p) hJ.down hm.down (by rw[hz.down,hla.down];exact iK (oQ [4,3] rfl hpK rfl wpK))
  .have hal:acc.length=l.length+1:=by omega
   have hd:decide (((l.length+1:Nat):Int)<=(l.length:Int))=false:=decide_eq_false (by omega);have e:eU l (l.length+1-acc.length) id=[]:=by rw[hal,Nat.sub_self];rfl
   rw[e,List.append_nil] at h2;have hr:bV l a=acc.reverse:=by unfold bV;rw[<- h2]
   have hrv:=HJ (l:=acc) (by omega);rw[hr];rw[hal] at hrv;clear hr h2 e
   repeat' (first|simp only[*,go_sem,Nat.reduceLT,Nat.reduceEqDiff,↓reduceIte,Nat.reduceAdd,Option.isSome_some,Option.getD_some]|refine uS [1] (hrv) ?_)
   exact .inr ⟨1,by rw[List.length_reverse,hal],rfl⟩
end Go.Proofs.YtflcjdohmojepaaGreatDoor
end
