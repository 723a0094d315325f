/- Part 34 of the proof of roomStays_card, set without needless blanks. No condition. -/
import Derived.Test.YtlbfnbldeefgmaaGreatDoorT32
set_option linter.all false
set_option maxRecDepth 100000
set_option maxHeartbeats 16000000
section
namespace Go.Proofs.YtlbfnbldeefgmaaGreatDoor
open Go Go.Dm Go.Proofs Go.Proofs.Tryz
theorem zOk{q:List UInt8}{k m:Int}{tt:Nat}{d p:List UInt8}:aA prog 348 [.agg [.p (.s q),.p (.i .i64 k),.p (.i .i64 m),.p (.f tt),.p (.sl 1 (bJ d))],.c (.p (.s p))] [] λr h=>r=.c (.p (.i .i64 (CT q p)))/\h=[]:=by
 refine eT func348 λX0 hX=>?_;simp only[f348,go_sem]
 repeat' (first|exact⟨⟩|refine sp ?_|refine uF (lU) ?_)
theorem zAe{t:List It}{p:List UInt8}(ht:t.length<=1000000)(hs:Srt t):
  aA prog 289 [.c (.p (.sl 5 (aQ t))),.c (.p (.s p)),.c (.clo 348 [])] [] λr h =>
   ∃i:Nat,GR t p i/\r=nL t p i/\h=[]:=by
 have hmon:∀(k k':Nat) (x x':It),t[k]?=some x->t[k']?=some x'->k<k'->bT x.p x'.p=true:=λk k' x x' h1 h2 h3=>by
  obtain⟨h4,rfl⟩:=List.getElem?_eq_some_iff.1 h1;obtain⟨h5,rfl⟩:=List.getElem?_eq_some_iff.1 h2;exact List.pairwise_iff_getElem.1 hs _ _ h4 h5 h3
 refine eT func289 λX0 hX=>?_;simp only[f289,go_sem]
 repeat' (first|exact⟨⟩|refine sp ?_)
 refine aY aD aL (α:=Nat × Nat) (λx=>⟨49,[(0,.c (.p (.sl 5 (aQ t)))),(1,.c (.p (.s p))),(2,.c (.clo 348 [])),(8,.c (.p (.i .i64 t.length))),(9,.c (.p (.i .i64 x.1))),(10,.c (.p (.i .i64 x.2)))],[]⟩)
  (λx=>x.1<=x.2/\x.2<=t.length/\∀k y,t[k]?=some y->(k<x.1->bT y.p p=true)/\(x.2<=k->bT y.p p=false)) (λx=>x.2-x.1) (0,t.length) ⟨Nat.zero_le _,Nat.le_refl _,λk y hy=>⟨λh=>by omega,λh=>by rw[List.getElem?_eq_none h] at hy;cases hy⟩⟩ (.inl (aF (by rw[hX];rfl) rfl rfl wkS)) ?_
 rintro⟨i,j⟩ ⟨hij,hj,hl⟩;simp only at hij hj hl;by_cases hlt:i<j
 .have h1:decide ((i:Int)<(j:Int))=true:=decide_eq_true (by omega);have w1:IntKind.i64.wrap ((i:Int)+j)=(i:Int)+j:=wrap_i64 (by omega) (by omega);have w2:IntKind.u64.wrap ((i:Int)+j)=(i:Int)+j:=wrap_u64 (by omega) (by omega);obtain⟨m,hm,hmi,hmj⟩:∃m:Nat,((i:Int)+j).fdiv (2 ^ min 1 64)=(m:Int)/\i<=m/\m<j :=
   ⟨(i+j) / 2,by rw[show (2:Int) ^ min 1 64=2 from rfl,Int.fdiv_eq_ediv_of_nonneg _ (by decide)];omega,by omega,by omega⟩
  have w3:IntKind.i64.wrap (m:Int)=m:=wrap_i64 (by omega) (by omega);have w4:IntKind.i64.wrap ((m:Int)+1)=m+1:=wrap_i64 (by omega) (by omega);have hml:m<t.length:=by omega
  have hx:t[m]?=some t[m]:=List.getElem?_eq_getElem hml;have hg:=cZ hx;generalize t[m]=x at hx hg
  repeat' (first|exact⟨⟩|refine sp ?_|refine uF (zOk) ?_|refine aK (λ_=>?_) (λ_=>?_)|refine ai ?_)
  .rename_i hb;have hb:bT x.p p=true:=by rw[<- oM];exact hb
   exact gZ (m+1,j) ⟨by simp only;omega,hj,λk y hy=>⟨λhk=>by
    rcases Nat.lt_or_ge k m with h|h
    .exact cH (hmon _ _ _ _ hy hx h) hb
    .have:k=m:=by simp only at hk;omega
     subst this;rw[hx] at hy;cases hy;exact hb,(hl k y hy).2⟩⟩ (by simp only;omega) (aF rfl rfl rfl wkS)
  .rename_i hb;have hb:bT x.p p=false:=by rw[<- oM];exact hb
   exact gZ (i,m) ⟨hmi,by simp only;omega,λk y hy=>⟨(hl k y hy).1,λhk=>by
    rcases Nat.lt_or_ge m k with h|h
    .cases hc:bT y.p p
     .rfl
     .have:=cH (hmon _ _ _ _ hx hy h) hc;rw[hb] at this;cases this
    .have:k=m:=by simp only at hk;omega
     subst this;rw[hx] at hy;cases hy;exact hb⟩⟩ (by simp only;omega) (aF rfl rfl rfl wkS)
 .have h1:decide ((i:Int)<(j:Int))=false:=decide_eq_false (by omega);have:i=j:=by omega
  subst this;by_cases hil:i<t.length
  .have hx:t[i]?=some t[i]:=List.getElem?_eq_getElem hil;have hg:=cZ hx;have h2:decide ((i:Int)<(t.length:Int))=true:=decide_eq_true (by omega);generalize t[i]=x at hx hg
   repeat' (first|exact⟨⟩|refine sp ?_|refine uF (zOk) ?_|refine ai ?_)
   refine⟨i,⟨hj,hl⟩,?_⟩;simp only[nL,gP,hx,HE]
  .have h2:decide ((i:Int)<(t.length:Int))=false:=decide_eq_false (by omega)
   repeat' (first|exact⟨⟩|refine sp ?_)
   refine⟨i,⟨hj,hl⟩,?_⟩;simp only[nL,gP,List.getElem?_eq_none (Nat.le_of_not_lt hil)]
theorem zAd{h:aB}{i n:Nat}{es:List (List PV)}{t:List It}{p:List UInt8}{K:DV->aB->Prop}(h0:h[i]?=some (.arr 5 es false))(hes:es.take n=aQ t)(ht:t.length<=1000000)(hs:Srt t)(hk:∀j,GR t p j->K (nL t p j) h):
  aA prog 289 [.c (.own i 0 n),.c (.p (.s p)),.c (.clo 348 [])] h K :=
 zOG (R:=λd=>∃j,GR t p j/\d=nL t p j) rfl rfl hes (aA.mono (zAe ht hs) λd h' ⟨j,a,b,c⟩=>⟨⟨j,a,b⟩,c⟩) h0 (λd ⟨j,h1,h2⟩=>by subst h2;exact⟨rfl,hk j h1⟩)
theorem YM{h:aB}{i n:Nat}{es:List (List PV)}{t:List It}{p:List UInt8}{K:DV->aB->Prop}(h0:h[i]?=some (.arr 5 es false))(hes:es.take n=aQ t)(ht:t.length<=1000000)(hs:Srt t)(hk:K (.c (.p (.b (aX t p)))) h):
  aA prog 223 [.c (.own i 0 n),.c (.p (.s p))] h K :=
 XF rfl hes (eQ ht hs) h0 (λd h1=>by subst h1;exact⟨rfl,hk⟩)
theorem zJn{h:aB}{i n:Nat}{es:List (List PV)}{t:List It}{K:DV->aB->Prop}(h0:h[i]?=some (.arr 5 es false))(hes:es.take n=aQ t)(hl:t.length<=1000000)(hp:∀x∈t,x.p.length<=1000000000)(ht:∀x∈t,x.n.t<18446744073709551616)(hk:K (.c (.p (.b (kY t)))) h):
  aA prog 158 [.c (.own i 0 n)] h K :=
 zPV hes (wX hl hp ht) h0 (λd h1=>by subst h1;exact⟨rfl,hk⟩)
theorem zLW(t:List It)(x:En):oF t x=t.filter λy=>!goC x.p (oO t x) y:=rfl
theorem VP{t:List It}{l:List En}(ht:OkT t)(h:OkE l):
  aA prog 232 [.c (.p (.sl 5 (aQ t))),.c (.p (.sl 7 (gD l)))] [] λr h=>r=.tup [.c (.p (.sl 5 (aQ (rY t l).1))),.c (.p (.b (rY t l).2))]/\h=[]:=by
 have hR:=NP h;have htl:=ht.len;have hll:=h.len;have hdl:∀x∈t,x.n.d.length<=140737488355328:=λx hx=>Nat.le_trans (ht.dlen x hx) (by decide);refine aI ?_;refine eT func232 λX0 hX=>?_;simp only[f232,go_sem]
 repeat' (first|exact⟨⟩|refine sq ?_|refine uF (hR) ?_|refine zC (by omega) hdl ?_)
 refine aY aD aL (α:=Nat × List (List PV)) (λx=>⟨28,[(14,.c (.p (.sl 7 (gD l)))),(15,.c (.p (.i .i64 l.length))),(16,.c (.p (.i .i64 x.1))),(6,.c (.own 0 0 (fU t (l.take x.1)).length))],[.arr 5 x.2 false]⟩)
  (λx=>x.1<=l.length/\x.2.take (fU t (l.take x.1)).length=aQ (fU t (l.take x.1))) (λx=>l.length-x.1) (0,aQ t) ⟨Nat.zero_le _,List.take_of_length_le (Nat.le_of_eq (cS t))⟩ (.inl (aF (by rw[hX];rfl) rfl rfl (by simp[eB,gG,cK,bW,aT,fU]))) ?_
 rintro⟨k,es⟩ ⟨hk,hes⟩;simp only at hk hes;have hus:Srt (fU t (l.take k)):=BE ht.srt;have hul:(fU t (l.take k)).length<=t.length+k:=PG t l k;by_cases hlt:k<l.length
 .have hx:l[k]?=some l[k]:=List.getElem?_eq_getElem hlt;have hg:=rH hx;have h1:decide ((k:Int)<(l.length:Int))=true:=decide_eq_true (by omega);have w1:IntKind.i64.wrap ((k:Int)+1)=k+1:=wrap_i64 (by omega) (by omega);have hnx:fU t (l.take (k+1))=mB (fU t (l.take k)) l[k]:=by
   unfold fU;rw[List.take_add_one,hx,List.foldl_append];rfl
  have p1:=h.plen _ (List.getElem_mem hlt);have p2:=h.dlen _ (List.getElem_mem hlt);have p3:l[k].n.d.length<=140737488355328:=by omega
  generalize l[k]=x at hx hg hnx p1 p2 p3;generalize fU t (l.take k)=u at hes hus hul hnx;have hsplit:es=aQ u++es.drop u.length:=by rw[<- hes,List.take_append_drop]
  generalize es.drop u.length=J at hsplit;subst hsplit;have hlu:=PF u x;have hll1:=NQ u x;have hls:=AK hus x;have hno:=zIN (t:=u) (x:=x);have hsh:=WZ (p:=x.p) (k:=x.k) (o:=x.o) (nk:=x.n.k) (nm:=x.n.m) (nt:=x.n.t) (nd:=x.n.d);rw[show (⟨x.p,x.k,x.o,⟨x.n.k,x.n.m,x.n.t,x.n.d⟩⟩:En)=x from rfl] at hsh
  have hcv:oO u x=(x.o || (jN x || !aX u x.p)):=rfl;have hlg:=zLW u x;have hcp:=qW (k:=x.n.k) (m:=x.n.m) (t:=x.n.t) (d:=x.n.d) p3;clear h hx hdl ht;have hes2:(aQ u++J).take u.length=aQ u:=List.take_left' (cS u);have hN:=PLift.up hnx;have hE:=PLift.up hes2;have hLG:=PLift.up hlg;have hNo:=PLift.up hno;clear hnx hes hes2 hlg hno;by_cases c4:(x.k==2)=true
  .have ho:mB u x=oF u x:=by unfold mB;rw[if_pos c4]
   cases c1:x.o<;>cases c2:jN x<;>cases c3:aX u x.p
   all_goals rw[c1,c2,c3] at hcv
   all_goals rw[c1,c2] at hsh
   all_goals simp only[Bool.not_true,Bool.not_false,Bool.or_true,Bool.or_false,] at hcv
   all_goals have hdo:=λ(h:aB) (i:Nat) (K:DV->aB->Prop) (h0:h[i]?=some (.arr 5 (aQ u++J) false)) (hk:K (.c (.p (.b (aX u x.p)))) h)=>YM (p:=x.p) h0 hE.down (by omega) hus hk
   all_goals rw[c3] at hdo
   all_goals rw[hcv] at hLG
   all_goals repeat' (first|exact⟨⟩|refine sq ?_|((with_reducible refine SB aD aL func285 rfl rfl λ_ _=>?_);simp only[f285,go_sem])|refine uF (hsh) ?_|refine hdo _ 0 _ rfl ?_|refine FA (by omega) (by omega) ?_|refine ai ?_)
   all_goals intro es' hes'
   all_goals rw[<- hLG.down] at hes' ⊢
   all_goals repeat' (first|exact⟨⟩|refine sp ?_|refine aK (λ_=>?_) (λ_=>?_)|refine bM (λ_=>?_) (λ_=>?_)|((with_reducible apply aA.frz);exact rfl;exact rfl)|refine ai ?_)
   all_goals exact gZ (k+1,es') ⟨by simp only;omega,by rw[hN.down,ho];exact hes'⟩ (by simp only;omega) (aF rfl rfl rfl (by simp[eB,gG,cK,bW,aT,hN.down,ho]))
  .have c4:(x.k==2)=false:=by simpa using c4
   have ho:mB u x=xL (oF u x) x.p x.n:=by unfold mB;rw[if_neg (by rw[c4];decide)]
   cases c1:x.o<;>cases c2:jN x<;>cases c3:aX u x.p
   all_goals rw[c1,c2,c3] at hcv
   all_goals rw[c1,c2] at hsh
   all_goals simp only[Bool.not_true,Bool.not_false,Bool.or_true,Bool.or_false,] at hcv
   all_goals have hdo:=λ(h:aB) (i:Nat) (K:DV->aB->Prop) (h0:h[i]?=some (.arr 5 (aQ u++J) false)) (hk:K (.c (.p (.b (aX u x.p)))) h)=>YM (p:=x.p) h0 hE.down (by omega) hus hk
   all_goals rw[c3] at hdo
   all_goals rw[hcv] at hLG
   all_goals repeat' (first|exact⟨⟩|refine sq ?_|((with_reducible refine SB aD aL func285 rfl rfl λ_ _=>?_);simp only[f285,go_sem])|refine uF (hsh) ?_|refine hdo _ 0 _ rfl ?_|refine FA (by omega) (by omega) ?_|refine ai ?_)
   all_goals intro es' hes'
   all_goals rw[<- hLG.down] at hes' ⊢
   all_goals repeat' (first|exact⟨⟩|refine sp ?_|refine zAd (i:=0) (t:=oF u x) rfl hes' (by omega) hls ?_)
   all_goals intro j hj
   all_goals unfold nL
   all_goals have hj1:=hj.1
   all_goals have hat:At (oF u x) x.p j:=hj
   all_goals have hnew:=KK (n:=x.n) hls hat (λy hy=>hNo.down y (List.mem_of_getElem? hy))
   all_goals have hle:(oF u x).length<=es'.length:=by have:=congrArg List.length hes';rw[List.length_take,cS] at this;omega
   all_goals have hjm:(j:Int)<=((oF u x).length:Int):=by omega
   all_goals clear hat hj
   all_goals repeat' (first|exact⟨⟩|refine sp ?_|((refine aG (id:=6) aD aL [8,9] [2,3,4,5,6,7,8,0,1,9,10] (by decide +kernel) ?_);(repeat' (first|(refine aO ?_)|((refine cR ?_ ?_ rfl rfl rfl ?_ ?_);(rotate_left 2);(focus ((repeat' (first|exact⟨⟩|refine sp ?_|refine insert_k (x:=[.s x.p,.i .i64 x.n.k,.i .i64 x.n.m,.f x.n.t,.sl 1 (bJ x.n.d)]) rfl rfl (by decide) hle hj1 (by omega) ?_|refine ai ?_));((refine And.intro ?_ ?_<;>exact rfl))));(simp only[aC]))|((refine cQ ?_ rfl rfl rfl ?_ ?_);(rotate_left 1);(focus ((repeat' (first|exact bB|refine aR ?_ ?_));(all_goals ((repeat' (first|exact⟨⟩|refine sp ?_|refine uN (hcp) ?_));(try (exact rfl))))));(simp only[aC]))))))
   all_goals have hrow:aQ (mB u x)=fZ j [.s x.p,.i .i64 x.n.k,.i .i64 x.n.m,.f x.n.t,.sl 1 (bJ x.n.d)] (aQ (oF u x)):=by rw[ho,hnew];exact(AD (oF u x) j x.p x.n.k x.n.m x.n.t x.n.d).symm
   all_goals have hln:(mB u x).length=(oF u x).length+1:=by rw[ho,hnew,List.length_append,List.length_cons,List.length_take,List.length_drop];omega
   all_goals exact kV (k+1,aQ (mB u x)) 0 6 ⟨by simp only;omega,by rw[hN.down];exact List.take_of_length_le (Nat.le_of_eq (cS _))⟩ (by simp only;omega) rfl rfl (aF rfl (by rw[hrow];rfl) rfl (by simp[eB,gG,cK,bW,aT,zKA,zJk,zKx,hN.down,hln]))
 .have h1:decide ((k:Int)<(l.length:Int))=false:=decide_eq_false (by omega);have hk2:k=l.length:=by omega
  subst hk2;rw[List.take_length] at hes hus hul;rw[List.take_length];have hmem:∀y∈fU t l,y.p.length<=1000000000/\y.n.t<18446744073709551616:=λy hy=>by
   rcases BD hy with hy|⟨x,hx,rfl⟩
   .exact⟨Nat.le_trans (ht.plen y hy) (by decide),ht.tlen y hy⟩
   .exact⟨Nat.le_trans (h.plen x hx) (by decide),h.tlen x hx⟩
  have hro:=λ(h:aB) (K:DV->aB->Prop) (h0:h[0]?=some (.arr 5 es false)) (hk:K (.c (.p (.b (kY (fU t l))))) h)=>zJn (t:=fU t l) (i:=0) h0 hes (by omega) (λx hx=>(hmem x hx).1) (λx hx=>(hmem x hx).2) hk;unfold rY;have hE:=PLift.up hes;clear hes hmem hdl ht h hlt;generalize fU t l=u at *;cases c1:kY u
  .rw[c1] at hro
   repeat' (first|exact⟨⟩|refine sq ?_|refine hro _ _ rfl ?_)
   all_goals exact .inr ⟨_,rfl⟩
  .rw[c1] at hro
   repeat' (first|exact⟨⟩|refine sq ?_|refine hro _ _ rfl ?_)
   all_goals rw[hE.down]
theorem SP{ls:List (List En)}(hls:ls.length<=1000)(h:∀l∈ls,OkE l):
  aA prog 171 [.c (.p (.sl 1 (zR ls)))] [] λr h=>r=.tup [.c (.p (.sl 5 (aQ (oT [] ls).1))),.c (.p (.b (oT [] ls).2))]/\h=[]:=by
 refine aI ?_;refine eT func171 λX0 hX=>?_;simp only[f171,go_sem]
 repeat' (first|exact⟨⟩|refine sp ?_)
 refine zPW 4 5 rfl ?_;refine aY aD aL (α:=Nat × List It) (λx=>⟨25,[(8,.c (.p (.sl 1 (zR ls)))),(9,.c (.p (.i .i64 ls.length))),(10,.c (.p (.i .i64 x.1))),(4,.c (.p (.sl 5 (aQ x.2))))],[]⟩)
  (λx=>x.1<=ls.length/\OkT x.2/\oT x.2 (ls.drop x.1)=oT [] ls) (λx=>ls.length-x.1) (0,[]) ⟨Nat.zero_le _,OkT.nil,rfl⟩ (.inl (aF (by rw[hX];rfl) rfl rfl wkS)) ?_
 rintro⟨k,t⟩ ⟨hk,ht,hf⟩;simp only at hk ht hf;by_cases hlt:k<ls.length
 .have hx:ls[k]?=some ls[k]:=List.getElem?_eq_getElem hlt;have hg:=zLv hx;have hd:=drop_at hx;have h1:decide ((k:Int)<(ls.length:Int))=true:=decide_eq_true (by omega);have w1:IntKind.i64.wrap ((k:Int)+1)=k+1:=wrap_i64 (by omega) (by omega);have hl:=h _ (List.getElem_mem hlt);generalize ls[k]=l at hx hg hd hl;rw[hd,oT] at hf;have hov:=VP ht hl;have hok:=λh0=>zI7 ht hl h0;generalize (rY t l).1=u at hov hok hf;generalize (rY t l).2=b at hov hok hf;clear hd hx;cases b
  .rw[if_neg (by decide)] at hf;rw[<- hf];clear hf hok
   repeat' (first|exact⟨⟩|refine sq ?_|refine uN (hov) ?_|refine ai ?_)
   all_goals exact .inr ⟨_,rfl⟩
  .rw[if_pos rfl] at hf;have hu:=hok rfl;have hF:=PLift.up hf;clear hf hok
   repeat' (first|exact⟨⟩|refine sq ?_|refine uN (hov) ?_|refine ai ?_)
   exact gZ (k+1,u) ⟨by simp only;omega,hu,hF.down⟩ (by simp only;omega) (aF rfl rfl rfl wkS)
 .have h1:decide ((k:Int)<(ls.length:Int))=false:=decide_eq_false (by omega);rw[List.drop_of_length_le (by omega),oT] at hf;rw[<- hf];have hdl:∀x∈t,x.n.d.length<=140737488355328:=λx hx=>Nat.le_trans (ht.dlen x hx) (by decide);have htl:=ht.len;clear hf
  repeat' (first|exact⟨⟩|refine sp ?_|refine zC (by omega) hdl ?_)
theorem zLB{h:aB}{i n:Nat}{l:List Ly}{a:Int}{K:DV->aB->Prop}(hl:l.length<=1000000)(hn:n=l.length)(h0:h[i]?=some (.arr 4 (cM l) false))(hk:K (.tup [.agg ((dR l a).getD ly0).cv,.c (.p (.b (dR l a).isSome))]) h):
  aA prog 97 [.c (.own i 0 n),.c (.p (.i .i64 a))] h K :=
 XF rfl (by rw[hn,<- eY,List.take_length]) (HP hl) h0 (λd hd=>by subst hd;exact⟨rfl,hk⟩)
theorem iP{r:Rm}{s:List UInt8}(hr:OkR r):aA prog 42 [.c (.ptr 0 0),.c (.p (.s s))] (aS r) λd h=>d=.tup [.agg (bR r s).1.cv,.c (.p (.i .i64 (bR r s).2))]/\h=aS r:=by
 have hf:=qO (r:=r) (s:=s) (Nat.le_trans hr.nl (by decide)) hr.srt;have hl:=hr.ll;rcases WB hr.srt (s:=s) with⟨h1,h2⟩|⟨x,h1,h2,h3,h4⟩
 .rw[h1] at hf;rw[show bR r s=(ly0,6) by unfold bR;rw[h2]]
  clear h1 h2;refine eT func42 λX0 hX=>?_;simp only[f42,go_sem]
  repeat' (first|exact⟨⟩|refine sq ?_|refine uS [0,1,2,3] (hf) ?_)
  all_goals simp[ly0]
 .rw[h1] at hf;rw[show bR r s=((dR r.L x.l).getD ly0,0) by unfold bR;rw[h2]]
  have hlt:=(List.getElem?_eq_some_iff.1 h3).1;have hg:=jV h3;have k2:(0:Int)<=(lJ r.N s:Int):=by omega
  have k3:(lJ r.N s:Int)<(r.N.length:Int):=by omega
  clear h1 h2 h3 h4;obtain⟨y,hy⟩:∃y,(dR r.L x.l).getD ly0=y:=⟨_,rfl⟩;have hk:∀{h:aB} {i:Nat} {K:DV->aB->Prop},h[i]?=some (.arr 4 (cM r.L) false)->K (.tup [.agg y.cv,.c (.p (.b (dR r.L x.l).isSome))]) h->aA prog 97 [.c (.own i 0 r.L.length),.c (.p (.i .i64 x.l))] h K:=λh0 hk=>zLB (by omega) rfl h0 (by rw[hy];exact hk);rw[hy];clear hy;refine eT func42 λX0 hX=>?_;simp only[f42,go_sem]
  repeat' (first|exact⟨⟩|refine sq ?_|refine uS [0,1,2,3] (hf) ?_|((refine aG (id:=4) aD aL [16,17] [16,0,1,2,3,4,5,6,7,8,9,10,11,12,13,14,17,15,18] (by decide +kernel) ?_);(repeat' (first|(refine aO ?_)|((refine cR ?_ ?_ rfl rfl rfl ?_ ?_);(rotate_left 2);(focus ((repeat' (first|exact⟨⟩|refine sp ?_));((refine And.intro ?_ ?_<;>exact rfl))));(simp only[aC,bE]))|((refine cQ ?_ rfl rfl rfl ?_ ?_);(rotate_left 1);(focus ((repeat' (first|exact bB|refine aR ?_ ?_));(all_goals ((repeat' (first|exact⟨⟩|refine sp ?_|refine hk rfl ?_));(try (exact rfl))))));(simp only[aC]))))))
theorem zK5{l:List Ly}{a:Int}(hl:l.length<=100000):aA prog 116 [.c (.p (.sl 4 (cM l))),.c (.p (.i .i64 a))] [] λr h=>r=.c (.own 0 0 (dG (bN l a)).length)/\h=[.arr 1 (dG (bN l a)) false]:=by
 refine aA.rowR ?_;refine SB aD aL func116 rfl rfl λX0 hX=>?_;simp only[f116,go_sem]
 repeat' (first|exact⟨⟩|refine sp ?_|refine uF (HP (l:=l) (by omega)) ?_)
 refine dE aD aL (α:=List Int × Int) (λx=>⟨38,[(0,.c (.p (.sl 4 (cM l)))),(5,.c (.own 1 0 x.1.length)),(6,.c (.ptr 0 0)),(7,.c (.p (.b (dR l x.2).isSome)))],[.box ((dR l x.2).getD ly0).cv,.arr 1 (dG x.1) false]⟩)
  (λx=>x.1.length<=l.length+1/\x.1++eR l (l.length+1-x.1.length) x.2=eR l (l.length+1) a) (λx=>l.length+1-x.1.length) ([],a) ⟨Nat.zero_le _,rfl⟩ ((pA 5 1 rfl).trans (cJ (aF (by rw[hX];rfl) rfl rfl wkS))) ?_
 rintro⟨acc,id⟩ ⟨h1,h2⟩;simp only at h1 h2 ⊢;cases hf:dR l id with
 | none =>
  have e:eR l (l.length+1-acc.length) id=[]:=by cases (l.length+1-acc.length)<;>simp[eR,hf]
  rw[e,List.append_nil] at h2;have hr:bN l a=acc.reverse:=by unfold bN;rw[<- h2]
  have hrv:=FQ (l:=acc) (by omega);rw[hr];clear hr h2 e
  repeat' (first|simp only[*,go_sem,Nat.reduceLT,Nat.reduceEqDiff,↓reduceIte,Nat.reduceAdd,Option.isSome_none]|refine uS [1] (hrv) ?_)
  exact .inr ⟨1,by rw[List.length_reverse],rfl⟩
 | some y =>
  by_cases hlt:acc.length<=l.length
  .have hfc:=HP (l:=l) (a:=y.p) (by omega);have hd:decide ((acc.length:Int)<=(l.length:Int))=true:=decide_eq_true (by omega);obtain⟨z,hz⟩:∃z,(dR l y.p).getD ly0=z:=⟨_,rfl⟩;rw[hz] at hfc;have hJ:(acc++[y.i]).length<=l.length+1/\(acc++[y.i])++eR l (l.length+1-(acc++[y.i]).length) y.p=eR l (l.length+1) a:=by
    refine⟨by simp;omega,?_⟩
    rw[<- h2,show l.length+1-acc.length=(l.length+1-(acc++[y.i]).length)+1 by simp;omega,eR,hf]
    simp
   have hm:l.length+1-(acc++[y.i]).length<l.length+1-acc.length:=by simp;omega
   have hJ:=PLift.up hJ;have hm:=PLift.up hm;have hz:=PLift.up hz;have hla:(acc++[y.i]).length=acc.length+1:=by simp
   have hla:=PLift.up hla;clear h1 h2
   repeat' (first|simp only[*,go_sem,Nat.reduceLT,Nat.reduceLeDiff,Nat.reduceEqDiff,↓reduceIte,Nat.reduceAdd,Nat.reduceBEq,Option.isSome_some,Option.getD_some]|refine uF (hfc) ?_|((with_reducible refine And.intro ?_ ?_);((first|omega|decide))))
   exact kT (acc++[y.i],y.p) hJ.down hm.down (by rw[hz.down,hla.down];exact cF (dQ [4,3] rfl hpK rfl wpK))
  .have hal:acc.length=l.length+1:=by omega
   have hd:decide (((l.length+1:Nat):Int)<=(l.length:Int))=false:=decide_eq_false (by omega);have e:eR l (l.length+1-acc.length) id=[]:=by rw[hal,Nat.sub_self];rfl
   rw[e,List.append_nil] at h2;have hr:bN l a=acc.reverse:=by unfold bN;rw[<- h2]
   have hrv:=FQ (l:=acc) (by omega);rw[hr];rw[hal] at hrv;clear hr h2 e
   repeat' (first|simp only[*,go_sem,Nat.reduceLT,Nat.reduceEqDiff,↓reduceIte,Nat.reduceAdd,Option.isSome_some,Option.getD_some]|refine uS [1] (hrv) ?_)
   exact .inr ⟨1,by rw[List.length_reverse,hal],rfl⟩
end Go.Proofs.YtlbfnbldeefgmaaGreatDoor
end
section
namespace Go.Dm
open Go
section
variable {l:List Ly}{id t:Int}{T O:List Int}
theorem PB: ∀{a b:List Int},a.Nodup->(∀x∈a,x∈b)->a.length<=b.length
 | [],_,_,_=>Nat.zero_le _
 | x::a,b,hn,hs=>by
  have h2:=List.nodup_cons.1 hn;have hx:=hs x List.mem_cons_self;have:=PB (b:=b.erase x) h2.2 λy hy=>(List.mem_erase_of_ne (show y≠x by intro e;subst e;exact h2.1 hy)).2 (hs y (List.mem_cons_of_mem _ hy))
  have h3:=List.length_erase_of_mem hx;have h4:=List.length_pos_of_mem hx;simp only[List.length_cons];omega
structure Bfs (l:List Ly) (id:Int) (T O:List Int):Prop where
 nd:O.Nodup
 there:∀a∈O,∃x∈l,x.i=a
 anc:∀a∈O,a∈pW l id
 todo:∀t∈T,(∃x∈l,x.i=t)->t∈pW l id
 self:(∃x∈l,x.i=id)->id∈O∨id∈T
 up:∀x∈l,x.i∈O->∀y∈l,(y.i=x.p∨y.i=x.s)->y.i∈O∨y.i∈T
 len:T.length<=1+2*O.length
theorem Bfs.start: Bfs l id [id] []:=by
 refine⟨List.nodup_nil,λa h=>(by cases h),λa h=>(by cases h),λt ht h=>?_,λ_=>.inr (List.mem_singleton.2 rfl),λx _ h=>(by cases h),Nat.le_refl _⟩;obtain⟨x,hx,rfl⟩:=h;rw[List.mem_singleton] at ht;subst ht;exact mH hx
theorem Bfs.skip(h:Bfs l id (t::T) O)(hs:dR l t=none∨t∈O):Bfs l id T O:=by
 have out:∀a,(∃x∈l,x.i=a)->a∈O∨a∈t::T->a∈O∨a∈T:=by
  rintro a ⟨x,hx,rfl⟩ (ha|ha)
  .exact .inl ha
  .rcases List.mem_cons.1 ha with e|ha
   .rcases hs with hs|hs
    .exact absurd e (zIl hs x hx)
    .exact .inl (e▸hs)
   .exact .inr ha
 exact⟨h.nd,h.there,h.anc,λa ha=>h.todo a (List.mem_cons_of_mem _ ha),λhx=>out _ hx (h.self hx),λx hx hxo y hy hp=>out _ ⟨y,hy,rfl⟩ (h.up x hx hxo y hy hp),by have:=h.len;simp only[List.length_cons] at this;omega⟩
theorem Bfs.more(hg:OkG l){x:Ly}(h:Bfs l id (t::T) O)(hf:dR l t=some x)(hn:t ∉ O):Bfs l id (T++[x.p,x.s]) (O++[x.i])/\x.i=t/\O.length<l.length:=by
 obtain ⟨hx,rfl⟩:=oR hf;have ha:x.i∈pW l id:=h.todo _ List.mem_cons_self ⟨x,hx,rfl⟩;have nd2:(O++[x.i]).Nodup:=by
  rw[List.nodup_append];refine⟨h.nd,by simp,λa h1 b h2 e=>?_⟩
  rw[List.mem_singleton] at h2;subst h2;subst e;exact hn h1
 have th2:∀a∈O++[x.i],∃y∈l,y.i=a:=λa h1=>by
  rcases List.mem_append.1 h1 with h1|h1
  .exact h.there a h1
  .rw[List.mem_singleton] at h1;exact⟨x,hx,h1.symm⟩
 refine⟨⟨nd2,th2,λa h1=>?_,λa h1 h2=>?_,λhx0=>?_,λz hz hzo y hy hp=>?_,?_⟩,rfl,?_⟩
 .rcases List.mem_append.1 h1 with h1|h1
  .exact h.anc a h1
  .rw[List.mem_singleton] at h1;exact h1▸ha
 .rcases List.mem_append.1 h1 with h1|h1
  .exact h.todo a (List.mem_cons_of_mem _ h1) h2
  .obtain⟨y,hy,rfl⟩:=h2;refine GV hg hx hy ha ?_;simpa using h1
 .rcases h.self hx0 with h1|h1
  .exact .inl (List.mem_append_left _ h1)
  .rcases List.mem_cons.1 h1 with e|h1
   .exact .inl (List.mem_append_right _ (List.mem_singleton.2 e))
   .exact .inr (List.mem_append_left _ h1)
 .rcases List.mem_append.1 hzo with h1|h1
  .rcases h.up z hz h1 y hy hp with h2|h2
   .exact .inl (List.mem_append_left _ h2)
   .rcases List.mem_cons.1 h2 with e|h2
    .exact .inl (List.mem_append_right _ (List.mem_singleton.2 e))
    .exact .inr (List.mem_append_left _ h2)
  .rw[List.mem_singleton] at h1;have e1:=nM hg.inc hz;have e2:=nM hg.inc hx;rw[h1,e2] at e1;cases e1;refine .inr (List.mem_append_right _ ?_);simpa using hp
 .have:=h.len;simp only[List.length_cons,List.length_append,List.length_nil] at this ⊢;omega
 .have:=PB (b:=l.map (·.i)) nd2 λa h1=>by
   obtain⟨y,hy,rfl⟩:=th2 a h1;exact List.mem_map.2 ⟨y,hy,rfl⟩
  simp only[List.length_append,List.length_cons,List.length_nil,List.length_map] at this;omega
theorem Bfs.done(hg:OkG l)(h:Bfs l id [] O):(O.mergeSort λx y=>decide (x<=y))=pW l id:=by
 have hm:∀a,a∈O↔a∈pW l id:=λa=>⟨h.anc a,λha=>pX (C:=λa=>a∈O) (λx hx e=>by
   rcases h.self ⟨x,hx,e⟩ with h1|h1
   .exact e▸h1
   .cases h1) (λx hx hc y hy hp=>by
   rcases h.up x hx hc y hy hp with h1|h1
   .exact h1
   .cases h1) a ha⟩
 refine VK ?_ (GU hg.inc id) λa=>by rw[List.mem_mergeSort];exact hm a
 have hs:(O.mergeSort λx y=>decide (x<=y)).Pairwise (λx y=>decide (x<=y)=true):=List.pairwise_mergeSort (λa b c h1 h2=>by simp only[decide_eq_true_eq] at *;omega) (λa b=>by simp only[Bool.or_eq_true,decide_eq_true_eq];omega) O
 have hd:(O.mergeSort λx y=>decide (x<=y)).Nodup:=(List.mergeSort_perm O _).nodup_iff.2 h.nd;exact(hs.and hd).imp λ{a b} h1=>by
  have h2:=h1.1;have h3:a≠b:=h1.2;simp only[decide_eq_true_eq] at h2;omega
end
end Go.Dm
end
