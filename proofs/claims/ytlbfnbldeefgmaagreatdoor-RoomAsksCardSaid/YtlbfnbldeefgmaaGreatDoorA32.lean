/- Part 33 of the proof of roomAsks_card, set without needless blanks. No condition. -/
import Derived.Test.YtlbfnbldeefgmaaGreatDoorA31
set_option linter.all false
section
namespace Go.Proofs.YtlbfnbldeefgmaaGreatDoor
open Go Go.Dm Go.Proofs
set_option maxRecDepth 100000
set_option maxHeartbeats 8000000
theorem zLU {q:List UInt8} {k m:Int} {tt:Nat} {d p:List UInt8}:aA Tryz.prog 348 [.agg [.p (.s q),.p (.i .i64 k),.p (.i .i64 m),.p (.f tt),.p (.sl 1 (bO d))],.c (.p (.s p))] [] fun r h=>r=.c (.p (.i .i64 (HL q p)))∧h=[]:=by
 refine ent aB aK Tryz.func348 rfl rfl fun X0 hX=>?_;simp only [Tryz.f348,go_sem]
 repeat' (first|exact ⟨⟩|refine sp ?_|refine uF (jX) ?_)
theorem XW {t:List It} {p:List UInt8} (ht:t.length≤1000000) (hs:Srt t):
  aA Tryz.prog 289 [.c (.p (.sl 5 (aU t))),.c (.p (.s p)),.c (.clo 348 [])] [] fun r h =>
   ∃ i:Nat,EA t p i∧r=lN t p i∧h=[]:=by
 have hmon:∀ (k k':Nat) (x x':It),t[k]? = some x→t[k']? = some x'→k<k'→bL x.p x'.p=true:=fun k k' x x' h1 h2 h3=>by
  obtain ⟨h4,rfl⟩:=List.getElem?_eq_some_iff.1 h1;obtain ⟨h5,rfl⟩:=List.getElem?_eq_some_iff.1 h2;exact List.pairwise_iff_getElem.1 hs _ _ h4 h5 h3
 refine ent aB aK Tryz.func289 rfl rfl fun X0 hX=>?_;simp only [Tryz.f289,go_sem]
 repeat' (first|exact ⟨⟩|refine sp ?_)
 refine aY aB aK (α:=Nat × Nat) (fun x=>⟨49,[(0,.c (.p (.sl 5 (aU t)))),(1,.c (.p (.s p))),(2,.c (.clo 348 [])),(8,.c (.p (.i .i64 t.length))),(9,.c (.p (.i .i64 x.1))),(10,.c (.p (.i .i64 x.2)))],[]⟩)
  (fun x=>x.1≤x.2∧x.2≤t.length∧∀ k y,t[k]? = some y→(k<x.1→bL y.p p=true)∧(x.2≤k→bL y.p p=false)) (fun x=>x.2-x.1) (0,t.length) ⟨Nat.zero_le _,Nat.le_refl _,fun k y hy=>⟨fun h=>by omega,fun h=>by rw [List.getElem?_eq_none h] at hy;cases hy⟩⟩ (.inl (aI (by rw [hX];rfl) rfl rfl (by simp [aH,aL,aD,aJ,aF,]))) ?_
 rintro ⟨i,j⟩ ⟨hij,hj,hl⟩;simp only at hij hj hl;by_cases hlt:i<j
 ·have h1:decide ((i:Int)<(j:Int))=true:=decide_eq_true (by omega);have w1:IntKind.i64.wrap ((i:Int)+j)=(i:Int)+j:=wrap_i64 (by omega) (by omega);have w2:IntKind.u64.wrap ((i:Int)+j)=(i:Int)+j:=wrap_u64 (by omega) (by omega);obtain ⟨m,hm,hmi,hmj⟩:∃ m:Nat,((i:Int)+j).fdiv (2 ^ min 1 64)=(m:Int)∧i≤m∧m<j :=
   ⟨(i+j) / 2,by rw [show (2:Int) ^ min 1 64=2 from rfl,Int.fdiv_eq_ediv_of_nonneg _ (by decide)];omega,by omega,by omega⟩
  have w3:IntKind.i64.wrap (m:Int)=m:=wrap_i64 (by omega) (by omega);have w4:IntKind.i64.wrap ((m:Int)+1)=m+1:=wrap_i64 (by omega) (by omega);have hml:m<t.length:=by omega
  have hx:t[m]? = some t[m]:=List.getElem?_eq_getElem hml;have hg:=cQ hx;generalize t[m]=x at hx hg
  repeat' (first|exact ⟨⟩|refine sp ?_|refine uF (zLU) ?_|with_reducible refine aO (fun _=>?_) (fun _=>?_)|((with_reducible refine And.intro ?_ ?_);omega))
  ·rename_i hb;have hb:bL x.p p=true:=by rw [← pF];exact hb
   exact fD (m+1,j) ⟨by simp only;omega,hj,fun k y hy=>⟨fun hk=>by
    rcases Nat.lt_or_ge k m with h|h
    ·exact cC (hmon _ _ _ _ hy hx h) hb
    ·have:k=m:=by simp only at hk;omega
     subst this;rw [hx] at hy;cases hy;exact hb,(hl k y hy).2⟩⟩ (by simp only;omega) (aI rfl rfl rfl (by simp [aH,aL,aD,aJ,aF,]))
  ·rename_i hb;have hb:bL x.p p=false:=by rw [← pF];exact hb
   exact fD (i,m) ⟨hmi,by simp only;omega,fun k y hy=>⟨(hl k y hy).1,fun hk=>by
    rcases Nat.lt_or_ge m k with h|h
    ·cases hc:bL y.p p
     ·rfl
     ·have:=cC (hmon _ _ _ _ hx hy h) hc;rw [hb] at this;cases this
    ·have:k=m:=by simp only at hk;omega
     subst this;rw [hx] at hy;cases hy;exact hb⟩⟩ (by simp only;omega) (aI rfl rfl rfl (by simp [aH,aL,aD,aJ,aF,]))
 ·have h1:decide ((i:Int)<(j:Int))=false:=decide_eq_false (by omega);have:i=j:=by omega
  subst this;by_cases hil:i<t.length
  ·have hx:t[i]? = some t[i]:=List.getElem?_eq_getElem hil;have hg:=cQ hx;have h2:decide ((i:Int)<(t.length:Int))=true:=decide_eq_true (by omega);generalize t[i]=x at hx hg
   repeat' (first|exact ⟨⟩|refine sp ?_|refine uF (zLU) ?_|((with_reducible refine And.intro ?_ ?_);omega))
   refine ⟨i,⟨hj,hl⟩,?_⟩;simp only [lN,fN,hx,PY]
  ·have h2:decide ((i:Int)<(t.length:Int))=false:=decide_eq_false (by omega)
   repeat' (first|exact ⟨⟩|refine sp ?_)
   refine ⟨i,⟨hj,hl⟩,?_⟩;simp only [lN,fN,List.getElem?_eq_none (Nat.le_of_not_lt hil)]
theorem XV {h:aC} {i n:Nat} {es:List (List PV)} {t:List It} {p:List UInt8} {K:DV→aC→Prop} (h0:h[i]? = some (.arr 5 es false)) (hes:es.take n=aU t) (ht:t.length≤1000000) (hs:Srt t) (hk:∀ j,EA t p j→K (lN t p j) h):
  aA Tryz.prog 289 [.c (.own i 0 n),.c (.p (.s p)),.c (.clo 348 [])] h K :=
 zMc (R:=fun d=>∃ j,EA t p j∧d=lN t p j) rfl rfl hes (aA.mono (XW ht hs) fun d h' ⟨j,a,b,c⟩=>⟨⟨j,a,b⟩,c⟩) h0 (fun d ⟨j,h1,h2⟩=>by subst h2;exact ⟨rfl,hk j h1⟩)
theorem WA {h:aC} {i n:Nat} {es:List (List PV)} {t:List It} {p:List UInt8} {K:DV→aC→Prop} (h0:h[i]? = some (.arr 5 es false)) (hes:es.take n=aU t) (ht:t.length≤1000000) (hs:Srt t) (hk:K (.c (.p (.b (aV t p)))) h):
  aA Tryz.prog 223 [.c (.own i 0 n),.c (.p (.s p))] h K :=
 zAO rfl hes (eN ht hs) h0 (fun d h1=>by subst h1;exact ⟨rfl,hk⟩)
theorem zHn {h:aC} {i n:Nat} {es:List (List PV)} {t:List It} {K:DV→aC→Prop} (h0:h[i]? = some (.arr 5 es false)) (hes:es.take n=aU t) (hl:t.length≤1000000) (hp:∀ x∈t,x.p.length≤1000000000) (ht:∀ x∈t,x.n.t<18446744073709551616) (hk:K (.c (.p (.b (jD t)))) h):
  aA Tryz.prog 158 [.c (.own i 0 n)] h K :=
 zNr hes (vF hl hp ht) h0 (fun d h1=>by subst h1;exact ⟨rfl,hk⟩)
theorem zJM (t:List It) (x:En):mN t x=t.filter fun y=>!goC x.p (mW t x) y:=rfl
theorem RH {t:List It} {l:List En} (ht:OkT t) (h:OkE l):
  aA Tryz.prog 232 [.c (.p (.sl 5 (aU t))),.c (.p (.sl 7 (fJ l)))] [] fun r h=>r=.tup [.c (.p (.sl 5 (aU (pV t l).1))),.c (.p (.b (pV t l).2))]∧h=[]:=by
 have hR:=LD h;have htl:=ht.len;have hll:=h.len;have hdl:∀ x∈t,x.n.d.length≤140737488355328:=fun x hx=>Nat.le_trans (ht.dlen x hx) (by decide);refine bK ?_;refine ent aB aK Tryz.func232 rfl rfl fun X0 hX=>?_;simp only [Tryz.f232,go_sem]
 repeat' (first|exact ⟨⟩|refine sq ?_|refine uF (hR) ?_|refine xB (by omega) hdl ?_)
 refine aY aB aK (α:=Nat × List (List PV)) (fun x=>⟨28,[(14,.c (.p (.sl 7 (fJ l)))),(15,.c (.p (.i .i64 l.length))),(16,.c (.p (.i .i64 x.1))),(6,.c (.own 0 0 (eX t (l.take x.1)).length))],[.arr 5 x.2 false]⟩)
  (fun x=>x.1≤l.length∧x.2.take (eX t (l.take x.1)).length=aU (eX t (l.take x.1))) (fun x=>l.length-x.1) (0,aU t) ⟨Nat.zero_le _,List.take_of_length_le (Nat.le_of_eq (cS t))⟩ (.inl (aI (by rw [hX];rfl) rfl rfl (by simp [aH,aL,aD,aJ,aF,eX]))) ?_
 rintro ⟨k,es⟩ ⟨hk,hes⟩;simp only at hk hes;have hus:Srt (eX t (l.take k)):=yW ht.srt;have hul:(eX t (l.take k)).length≤t.length+k:=LZ t l k;by_cases hlt:k<l.length
 ·have hx:l[k]? = some l[k]:=List.getElem?_eq_getElem hlt;have hg:=pJ hx;have h1:decide ((k:Int)<(l.length:Int))=true:=decide_eq_true (by omega);have w1:IntKind.i64.wrap ((k:Int)+1)=k+1:=wrap_i64 (by omega) (by omega);have hnx:eX t (l.take (k+1))=kJ (eX t (l.take k)) l[k]:=by
   unfold eX;rw [List.take_add_one,hx,List.foldl_append];rfl
  have p1:=h.plen _ (List.getElem_mem hlt);have p2:=h.dlen _ (List.getElem_mem hlt);have p3:l[k].n.d.length≤140737488355328:=by omega
  generalize l[k]=x at hx hg hnx p1 p2 p3;generalize eX t (l.take k)=u at hes hus hul hnx;have hsplit:es=aU u++es.drop u.length:=by rw [← hes,List.take_append_drop]
  generalize es.drop u.length=J at hsplit;subst hsplit;have hlu:=LY u x;have hll1:=LF u x;have hls:=yM hus x;have hno:=zGS (t:=u) (x:=x);have hsh:=SZ (p:=x.p) (k:=x.k) (o:=x.o) (nk:=x.n.k) (nm:=x.n.m) (nt:=x.n.t) (nd:=x.n.d);rw [show (⟨x.p,x.k,x.o,⟨x.n.k,x.n.m,x.n.t,x.n.d⟩⟩:En)=x from rfl] at hsh
  have hcv:mW u x=(x.o || (gZ x || !aV u x.p)):=rfl;have hlg:=zJM u x;have hcp:=xC (k:=x.n.k) (m:=x.n.m) (t:=x.n.t) (d:=x.n.d) p3;clear h hx hdl ht;have hes2:(aU u++J).take u.length=aU u:=List.take_left' (cS u);have hN:=PLift.up hnx;have hE:=PLift.up hes2;have hLG:=PLift.up hlg;have hNo:=PLift.up hno;clear hnx hes hes2 hlg hno;by_cases c4:(x.k == 2)=true
  ·have ho:kJ u x=mN u x:=by unfold kJ;rw [if_pos c4]
   cases c1:x.o <;> cases c2:gZ x <;> cases c3:aV u x.p
   all_goals rw [c1,c2,c3] at hcv
   all_goals rw [c1,c2] at hsh
   all_goals simp only [Bool.not_true,Bool.not_false,Bool.or_true,Bool.or_false,] at hcv
   all_goals have hdo:=fun (h:aC) (i:Nat) (K:DV→aC→Prop) (h0:h[i]? = some (.arr 5 (aU u++J) false)) (hk:K (.c (.p (.b (aV u x.p)))) h)=>WA (p:=x.p) h0 hE.down (by omega) hus hk
   all_goals rw [c3] at hdo
   all_goals rw [hcv] at hLG
   all_goals repeat' (first|exact ⟨⟩|refine sq ?_|((with_reducible refine VO aB aK Tryz.func285 rfl rfl fun _ _=>?_);simp only [Tryz.f285,go_sem])|refine uF (hsh) ?_|refine hdo _ 0 _ rfl ?_|refine CJ (by omega) (by omega) ?_|((with_reducible refine And.intro ?_ ?_);omega))
   all_goals intro es' hes'
   all_goals rw [← hLG.down] at hes' ⊢
   all_goals repeat' (first|exact ⟨⟩|refine sp ?_|with_reducible refine aO (fun _=>?_) (fun _=>?_)|with_reducible refine bF (fun _=>?_) (fun _=>?_)|((with_reducible apply aA.frz);exact rfl;exact rfl)|((with_reducible refine And.intro ?_ ?_);((first|omega|decide|assumption|(simp only [decide_eq_true_eq,decide_eq_false_iff_not] at *;omega)))))
   all_goals exact fD (k+1,es') ⟨by simp only;omega,by rw [hN.down,ho];exact hes'⟩ (by simp only;omega) (aI rfl rfl rfl (by simp [aH,aL,aD,aJ,aF,hN.down,ho]))
  ·have c4:(x.k == 2)=false:=by simpa using c4
   have ho:kJ u x=sP (mN u x) x.p x.n:=by unfold kJ;rw [if_neg (by rw [c4];decide)]
   cases c1:x.o <;> cases c2:gZ x <;> cases c3:aV u x.p
   all_goals rw [c1,c2,c3] at hcv
   all_goals rw [c1,c2] at hsh
   all_goals simp only [Bool.not_true,Bool.not_false,Bool.or_true,Bool.or_false,] at hcv
   all_goals have hdo:=fun (h:aC) (i:Nat) (K:DV→aC→Prop) (h0:h[i]? = some (.arr 5 (aU u++J) false)) (hk:K (.c (.p (.b (aV u x.p)))) h)=>WA (p:=x.p) h0 hE.down (by omega) hus hk
   all_goals rw [c3] at hdo
   all_goals rw [hcv] at hLG
   all_goals repeat' (first|exact ⟨⟩|refine sq ?_|((with_reducible refine VO aB aK Tryz.func285 rfl rfl fun _ _=>?_);simp only [Tryz.f285,go_sem])|refine uF (hsh) ?_|refine hdo _ 0 _ rfl ?_|refine CJ (by omega) (by omega) ?_|((with_reducible refine And.intro ?_ ?_);omega))
   all_goals intro es' hes'
   all_goals rw [← hLG.down] at hes' ⊢
   all_goals repeat' (first|exact ⟨⟩|refine sp ?_|refine XV (i:=0) (t:=mN u x) rfl hes' (by omega) hls ?_)
   all_goals intro j hj
   all_goals unfold lN
   all_goals have hj1:=hj.1
   all_goals have hat:At (mN u x) x.p j:=hj
   all_goals have hnew:=HB (n:=x.n) hls hat (fun y hy=>hNo.down y (List.mem_of_getElem? hy))
   all_goals have hle:(mN u x).length≤es'.length:=by have:=congrArg List.length hes';rw [List.length_take,cS] at this;omega
   all_goals have hjm:(j:Int)≤((mN u x).length:Int):=by omega
   all_goals clear hat hj
   all_goals repeat' (first|exact ⟨⟩|refine sp ?_|((refine aN (id:=6) aB aK [8,9] [2,3,4,5,6,7,8,0,1,9,10] (by decide +kernel) ?_);(repeat' (first|(refine aT ?_)|((refine cV ?_ ?_ rfl rfl rfl ?_ ?_);(rotate_left 2);(focus ((repeat' (first|exact ⟨⟩|refine sp ?_|refine insert_k (x:=[.s x.p,.i .i64 x.n.k,.i .i64 x.n.m,.f x.n.t,.sl 1 (bO x.n.d)]) rfl rfl (by decide) hle hj1 (by omega) ?_|((with_reducible refine And.intro ?_ ?_);decide)));((refine And.intro ?_ ?_ <;> exact rfl))));(simp only [aG]))|((refine cU ?_ rfl rfl rfl ?_ ?_);(rotate_left 1);(focus ((repeat' (first|exact bG|refine aZ ?_ ?_));(all_goals ((repeat' (first|exact ⟨⟩|refine sp ?_|refine uN (hcp) ?_));(try (exact rfl))))));(simp only [aG]))))))
   all_goals have hrow:aU (kJ u x)=fA j [.s x.p,.i .i64 x.n.k,.i .i64 x.n.m,.f x.n.t,.sl 1 (bO x.n.d)] (aU (mN u x)):=by rw [ho,hnew];exact (yD (mN u x) j x.p x.n.k x.n.m x.n.t x.n.d).symm
   all_goals have hln:(kJ u x).length=(mN u x).length+1:=by rw [ho,hnew,List.length_append,List.length_cons,List.length_take,List.length_drop];omega
   all_goals exact gV (k+1,aU (kJ u x)) 0 6 ⟨by simp only;omega,by rw [hN.down];exact List.take_of_length_le (Nat.le_of_eq (cS _))⟩ (by simp only;omega) rfl rfl (aI rfl (by rw [hrow];rfl) rfl (by simp [aH,aL,aD,aJ,aF,vB,tY,vA,hN.down,hln]))
 ·have h1:decide ((k:Int)<(l.length:Int))=false:=decide_eq_false (by omega);have hk2:k=l.length:=by omega
  subst hk2;rw [List.take_length] at hes hus hul;rw [List.take_length];have hmem:∀ y∈eX t l,y.p.length≤1000000000∧y.n.t<18446744073709551616:=fun y hy=>by
   rcases yV hy with hy|⟨x,hx,rfl⟩
   ·exact ⟨Nat.le_trans (ht.plen y hy) (by decide),ht.tlen y hy⟩
   ·exact ⟨Nat.le_trans (h.plen x hx) (by decide),h.tlen x hx⟩
  have hro:=fun (h:aC) (K:DV→aC→Prop) (h0:h[0]? = some (.arr 5 es false)) (hk:K (.c (.p (.b (jD (eX t l))))) h)=>zHn (t:=eX t l) (i:=0) h0 hes (by omega) (fun x hx=>(hmem x hx).1) (fun x hx=>(hmem x hx).2) hk;unfold pV;have hE:=PLift.up hes;clear hes hmem hdl ht h hlt;generalize eX t l=u at *;cases c1:jD u
  ·rw [c1] at hro
   repeat' (first|exact ⟨⟩|refine sq ?_|refine hro _ _ rfl ?_)
   all_goals exact .inr ⟨_,rfl⟩
  ·rw [c1] at hro
   repeat' (first|exact ⟨⟩|refine sq ?_|refine hro _ _ rfl ?_)
   all_goals rw [hE.down]
end Go.Proofs.YtlbfnbldeefgmaaGreatDoor
end
section
namespace Go.Proofs.YtlbfnbldeefgmaaGreatDoor
open Go Go.Dm Go.Proofs
set_option maxRecDepth 100000
set_option maxHeartbeats 8000000
theorem PU {ls:List (List En)} (hls:ls.length≤1000) (h:∀ l∈ls,OkE l):
  aA Tryz.prog 171 [.c (.p (.sl 1 (xQ ls)))] [] fun r h=>r=.tup [.c (.p (.sl 5 (aU (nD [] ls).1))),.c (.p (.b (nD [] ls).2))]∧h=[]:=by
 refine bK ?_;refine ent aB aK Tryz.func171 rfl rfl fun X0 hX=>?_;simp only [Tryz.f171,go_sem]
 repeat' (simp only [*,go_sem,Nat.reduceLT,Nat.reduceEqDiff,↓reduceIte,])
 refine zKC 4 5 rfl ?_;refine aY aB aK (α:=Nat × List It) (fun x=>⟨25,[(8,.c (.p (.sl 1 (xQ ls)))),(9,.c (.p (.i .i64 ls.length))),(10,.c (.p (.i .i64 x.1))),(4,.c (.p (.sl 5 (aU x.2))))],[]⟩)
  (fun x=>x.1≤ls.length∧OkT x.2∧nD x.2 (ls.drop x.1)=nD [] ls) (fun x=>ls.length-x.1) (0,[]) ⟨Nat.zero_le _,OkT.nil,rfl⟩ (.inl (aI (by rw [hX];rfl) rfl rfl (by simp [aH,aL,aD,aJ,aF,gA,]))) ?_
 rintro ⟨k,t⟩ ⟨hk,ht,hf⟩;simp only at hk ht hf;by_cases hlt:k<ls.length
 ·have hx:ls[k]? = some ls[k]:=List.getElem?_eq_getElem hlt;have hg:=zJk hx;have hd:=drop_at hx;have h1:decide ((k:Int)<(ls.length:Int))=true:=decide_eq_true (by omega);have w1:IntKind.i64.wrap ((k:Int)+1)=k+1:=wrap_i64 (by omega) (by omega);have hl:=h _ (List.getElem_mem hlt);generalize ls[k]=l at hx hg hd hl;rw [hd,nD] at hf;have hov:=RH ht hl;have hok:=fun h0=>zG9 ht hl h0;generalize (pV t l).1=u at hov hok hf;generalize (pV t l).2=b at hov hok hf;clear hd hx;cases b
  ·rw [if_neg (by decide)] at hf;rw [← hf];clear hf hok
   repeat' (first|simp only [*,go_sem,Nat.reduceLT,Nat.reduceEqDiff,↓reduceIte,Bool.not_false]|((with_reducible refine kM (hov) ?_ ?_ ?_);exact rfl;exact fun _=>rfl)|((with_reducible refine And.intro ?_ ?_);omega))
   all_goals exact .inr ⟨_,rfl⟩
  ·rw [if_pos rfl] at hf;have hu:=hok rfl;have hF:=PLift.up hf;clear hf hok
   repeat' (first|simp only [*,go_sem,Nat.reduceLT,Nat.reduceEqDiff,↓reduceIte,Bool.not_true]|((with_reducible refine kM (hov) ?_ ?_ ?_);exact rfl;exact fun _=>rfl)|((with_reducible refine And.intro ?_ ?_);omega))
   exact fD (k+1,u) ⟨by simp only;omega,hu,hF.down⟩ (by simp only;omega) (aI rfl rfl rfl (by simp [aH,aL,aD,aJ,aF,]))
 ·have h1:decide ((k:Int)<(ls.length:Int))=false:=decide_eq_false (by omega);rw [List.drop_of_length_le (by omega),nD] at hf;rw [← hf];have hdl:∀ x∈t,x.n.d.length≤140737488355328:=fun x hx=>Nat.le_trans (ht.dlen x hx) (by decide);have htl:=ht.len;clear hf
  repeat' (first|simp only [*,go_sem,Nat.reduceLT,Nat.reduceEqDiff,↓reduceIte,]|refine xB (by omega) hdl ?_)
end Go.Proofs.YtlbfnbldeefgmaaGreatDoor
end
section
namespace Go.Proofs.YtlbfnbldeefgmaaGreatDoor
open Go Go.Dm Go.Proofs
set_option maxRecDepth 100000
set_option maxHeartbeats 8000000
theorem zJr {h:aC} {i n:Nat} {l:List Ly} {a:Int} {K:DV→aC→Prop} (hl:l.length≤1000000) (hn:n=l.length) (h0:h[i]? = some (.arr 4 (cZ l) false)) (hk:K (.tup [.agg ((eF l a).getD ly0).cv,.c (.p (.b (eF l a).isSome))]) h):
  aA Tryz.prog 97 [.c (.own i 0 n),.c (.p (.i .i64 a))] h K :=
 zAO rfl (by rw [hn,← fZ,List.take_length]) (EY hl) h0 (fun d hd=>by subst hd;exact ⟨rfl,hk⟩)
theorem zO {r:Rm} {s:List UInt8} (hr:OkR r):aA Tryz.prog 42 [.c (.ptr 0 0),.c (.p (.s s))] (cB r) fun d h=>d=.tup [.agg (dJ r s).1.cv,.c (.p (.i .i64 (dJ r s).2))]∧h=cB r:=by
 have hf:=uA (r:=r) (s:=s) (Nat.le_trans hr.nl (by decide)) hr.srt;have hl:=hr.ll;rcases zDJ hr.srt (s:=s) with ⟨h1,h2⟩|⟨x,h1,h2,h3,h4⟩
 ·rw [h1] at hf;rw [show dJ r s=(ly0,6) by unfold dJ;rw [h2]]
  clear h1 h2;refine ent aB aK Tryz.func42 rfl rfl fun X0 hX=>?_;simp only [Tryz.f42,go_sem]
  repeat' (first|simp only [*,go_sem,Nat.reduceLT,Nat.reduceLeDiff,Nat.reduceEqDiff,↓reduceIte,Nat.reduceAdd,Bool.not_false]|((with_reducible refine bW [0,1,2,3] (hf) ?_ ?_ ?_ ?_);exact rfl;exact rfl;(focus ((simp only [go_sem];done)))))
  all_goals simp [ly0]
 ·rw [h1] at hf;rw [show dJ r s=((eF r.L x.l).getD ly0,0) by unfold dJ;rw [h2]]
  have hlt:=(List.getElem?_eq_some_iff.1 h3).1;have hg:=oM h3;have k2:(0:Int)≤(pU r.N s:Int):=by omega
  have k3:(pU r.N s:Int)<(r.N.length:Int):=by omega
  clear h1 h2 h3 h4;obtain ⟨y,hy⟩:∃ y,(eF r.L x.l).getD ly0=y:=⟨_,rfl⟩;have hk:∀ {h:aC} {i:Nat} {K:DV→aC→Prop},h[i]? = some (.arr 4 (cZ r.L) false)→K (.tup [.agg y.cv,.c (.p (.b (eF r.L x.l).isSome))]) h→aA Tryz.prog 97 [.c (.own i 0 r.L.length),.c (.p (.i .i64 x.l))] h K:=fun h0 hk=>zJr (by omega) rfl h0 (by rw [hy];exact hk);rw [hy];clear hy;refine ent aB aK Tryz.func42 rfl rfl fun X0 hX=>?_;simp only [Tryz.f42,go_sem]
  repeat' (first|simp only [*,go_sem,Nat.reduceLT,Nat.reduceLeDiff,Nat.reduceEqDiff,↓reduceIte,Nat.reduceAdd,Bool.not_true]|((with_reducible refine bW [0,1,2,3] (hf) ?_ ?_ ?_ ?_);exact rfl;exact rfl;(focus ((simp only [go_sem];done))))|((refine aN (id:=4) aB aK [16,17] [16,0,1,2,3,4,5,6,7,8,9,10,11,12,13,14,17,15,18] (by decide +kernel) ?_);(repeat' (first|(refine aT ?_)|((refine cV ?_ ?_ rfl rfl rfl ?_ ?_);(rotate_left 2);(focus ((repeat' (simp only [*,go_sem,Nat.reduceLT,Nat.reduceLeDiff,Nat.reduceEqDiff,↓reduceIte,Nat.reduceAdd,]));((refine And.intro ?_ ?_ <;> exact rfl))));(simp only [aG,bI]))|((refine cU ?_ rfl rfl rfl ?_ ?_);(rotate_left 1);(focus ((repeat' (first|exact bG|refine aZ ?_ ?_));(all_goals ((repeat' (first|simp only [*,go_sem,Nat.reduceLT,Nat.reduceEqDiff,↓reduceIte,]|refine hk rfl ?_));(try (exact rfl))))));(simp only [aG]))))))
theorem zIU {l:List Ly} {a:Int} (hl:l.length≤100000):aA Tryz.prog 116 [.c (.p (.sl 4 (cZ l))),.c (.p (.i .i64 a))] [] fun r h=>r=.c (.own 0 0 (cW (bQ l a)).length)∧h=[.arr 1 (cW (bQ l a)) false]:=by
 refine aA.rowR ?_;refine VO aB aK Tryz.func116 rfl rfl fun X0 hX=>?_;simp only [Tryz.f116,go_sem]
 repeat' (first|simp only [*,go_sem,Nat.reduceLT,Nat.reduceLeDiff,Nat.reduceEqDiff,↓reduceIte,Nat.reduceAdd,]|((with_reducible refine dM (EY (l:=l) (by omega)) ?_ ?_ ?_);exact rfl;exact rfl))
 refine dS aB aK (α:=List Int × Int) (fun x=>⟨38,[(0,.c (.p (.sl 4 (cZ l)))),(5,.c (.own 1 0 x.1.length)),(6,.c (.ptr 0 0)),(7,.c (.p (.b (eF l x.2).isSome)))],[.box ((eF l x.2).getD ly0).cv,.arr 1 (cW x.1) false]⟩)
  (fun x=>x.1.length≤l.length+1∧x.1++dY l (l.length+1-x.1.length) x.2=dY l (l.length+1) a) (fun x=>l.length+1-x.1.length) ([],a) ⟨Nat.zero_le _,rfl⟩ ((rK 5 1 rfl).trans (cJ (aI (by rw [hX];rfl) rfl rfl (by simp [aH,aL,aD,aJ,aF,])))) ?_
 rintro ⟨acc,id⟩ ⟨h1,h2⟩;simp only at h1 h2 ⊢;cases hf:eF l id with
 | none =>
  have e:dY l (l.length+1-acc.length) id=[]:=by cases (l.length+1-acc.length) <;> simp [dY,hf]
  rw [e,List.append_nil] at h2;have hr:bQ l a=acc.reverse:=by unfold bQ;rw [← h2]
  have hrv:=CW (l:=acc) (by omega);rw [hr];clear hr h2 e
  repeat' (first|simp only [*,go_sem,Nat.reduceLT,Nat.reduceEqDiff,↓reduceIte,Nat.reduceAdd,Option.isSome_none]|((with_reducible refine bW [1] (hrv) ?_ ?_ ?_ ?_);exact rfl;exact rfl;(focus ((simp only [go_sem];done)))))
  exact .inr ⟨1,by rw [List.length_reverse],rfl⟩
 | some y =>
  by_cases hlt:acc.length≤l.length
  ·have hfc:=EY (l:=l) (a:=y.p) (by omega);have hd:decide ((acc.length:Int)≤(l.length:Int))=true:=decide_eq_true (by omega);obtain ⟨z,hz⟩:∃ z,(eF l y.p).getD ly0=z:=⟨_,rfl⟩;rw [hz] at hfc;have hJ:(acc++[y.i]).length≤l.length+1∧(acc++[y.i])++dY l (l.length+1-(acc++[y.i]).length) y.p=dY l (l.length+1) a:=by
    refine ⟨by simp;omega,?_⟩
    rw [← h2,show l.length+1-acc.length=(l.length+1-(acc++[y.i]).length)+1 by simp;omega,dY,hf]
    simp
   have hm:l.length+1-(acc++[y.i]).length<l.length+1-acc.length:=by simp;omega
   have hJ:=PLift.up hJ;have hm:=PLift.up hm;have hz:=PLift.up hz;have hla:(acc++[y.i]).length=acc.length+1:=by simp
   have hla:=PLift.up hla;clear h1 h2
   repeat' (first|simp only [*,go_sem,Nat.reduceLT,Nat.reduceLeDiff,Nat.reduceEqDiff,↓reduceIte,Nat.reduceAdd,Nat.reduceBEq,Option.isSome_some,Option.getD_some]|((with_reducible refine dM (hfc) ?_ ?_ ?_);exact rfl;exact rfl)|((with_reducible refine And.intro ?_ ?_);((first|omega|decide))))
   exact qB (acc++[y.i],y.p) hJ.down hm.down (by rw [hz.down,hla.down];exact fP (jZ [4,3] rfl (by simp only [iD,kW,iC];(repeat' (first|exact rfl|exact True.intro|refine And.intro ?_ ?_))) rfl (by simp only [mD,sM];(repeat' (first|exact rfl|exact True.intro|refine And.intro ?_ ?_)))))
  ·have hal:acc.length=l.length+1:=by omega
   have hd:decide (((l.length+1:Nat):Int)≤(l.length:Int))=false:=decide_eq_false (by omega);have e:dY l (l.length+1-acc.length) id=[]:=by rw [hal,Nat.sub_self];rfl
   rw [e,List.append_nil] at h2;have hr:bQ l a=acc.reverse:=by unfold bQ;rw [← h2]
   have hrv:=CW (l:=acc) (by omega);rw [hr];rw [hal] at hrv;clear hr h2 e
   repeat' (first|simp only [*,go_sem,Nat.reduceLT,Nat.reduceEqDiff,↓reduceIte,Nat.reduceAdd,Option.isSome_some,Option.getD_some]|((with_reducible refine bW [1] (hrv) ?_ ?_ ?_ ?_);exact rfl;exact rfl;(focus ((simp only [go_sem];done)))))
   exact .inr ⟨1,by rw [List.length_reverse,hal],rfl⟩
end Go.Proofs.YtlbfnbldeefgmaaGreatDoor
end
section
namespace Go.Dm
open Go
theorem LW:∀ {a b:List Int},a.Nodup→(∀ x∈a,x∈b)→a.length≤b.length
 | [],_,_,_=>Nat.zero_le _
 | x::a,b,hn,hs=>by
  have h2:=List.nodup_cons.1 hn;have hx:=hs x List.mem_cons_self;have:=LW (b:=b.erase x) h2.2 fun y hy=>(List.mem_erase_of_ne (show y≠x by intro e;subst e;exact h2.1 hy)).2 (hs y (List.mem_cons_of_mem _ hy))
  have h3:=List.length_erase_of_mem hx;have h4:=List.length_pos_of_mem hx;simp only [List.length_cons];omega
structure Bfs (l:List Ly) (id:Int) (T O:List Int):Prop where
 nd:O.Nodup
 there:∀ a∈O,∃ x∈l,x.i=a
 anc:∀ a∈O,a∈sO l id
 todo:∀ t∈T,(∃ x∈l,x.i=t)→t∈sO l id
 self:(∃ x∈l,x.i=id)→id∈O∨id∈T
 up:∀ x∈l,x.i∈O→∀ y∈l,(y.i=x.p∨y.i=x.s)→y.i∈O∨y.i∈T
 len:T.length≤1+2*O.length
theorem Bfs.start {l:List Ly} {id:Int}:Bfs l id [id] []:=by
 refine ⟨List.nodup_nil,fun a h=>(by cases h),fun a h=>(by cases h),fun t ht h=>?_,fun _=>.inr (List.mem_singleton.2 rfl),fun x _ h=>(by cases h),Nat.le_refl _⟩;obtain ⟨x,hx,rfl⟩:=h;rw [List.mem_singleton] at ht;subst ht;exact qO hx
theorem Bfs.skip {l:List Ly} {id t:Int} {T O:List Int} (h:Bfs l id (t::T) O) (hs:eF l t=none∨t∈O):Bfs l id T O:=by
 have out:∀ a,(∃ x∈l,x.i=a)→a∈O∨a∈t::T→a∈O∨a∈T:=by
  rintro a ⟨x,hx,rfl⟩ (ha|ha)
  ·exact .inl ha
  ·rcases List.mem_cons.1 ha with e|ha
   ·rcases hs with hs|hs
    ·exact absurd e (zGt hs x hx)
    ·exact .inl (e▸hs)
   ·exact .inr ha
 exact ⟨h.nd,h.there,h.anc,fun a ha=>h.todo a (List.mem_cons_of_mem _ ha),fun hx=>out _ hx (h.self hx),fun x hx hxo y hy hp=>out _ ⟨y,hy,rfl⟩ (h.up x hx hxo y hy hp),by have:=h.len;simp only [List.length_cons] at this;omega⟩
theorem Bfs.more {l:List Ly} (hg:OkG l) {id t:Int} {T O:List Int} {x:Ly} (h:Bfs l id (t::T) O) (hf:eF l t=some x) (hn:t ∉ O):Bfs l id (T++[x.p,x.s]) (O++[x.i])∧x.i=t∧O.length<l.length:=by
 obtain ⟨hx,rfl⟩:=nB hf;have ha:x.i∈sO l id:=h.todo _ List.mem_cons_self ⟨x,hx,rfl⟩;have nd2:(O++[x.i]).Nodup:=by
  rw [List.nodup_append];refine ⟨h.nd,by simp,fun a h1 b h2 e=>?_⟩
  rw [List.mem_singleton] at h2;subst h2;subst e;exact hn h1
 have th2:∀ a∈O++[x.i],∃ y∈l,y.i=a:=fun a h1=>by
  rcases List.mem_append.1 h1 with h1|h1
  ·exact h.there a h1
  ·rw [List.mem_singleton] at h1;exact ⟨x,hx,h1.symm⟩
 refine ⟨⟨nd2,th2,fun a h1=>?_,fun a h1 h2=>?_,fun hx0=>?_,fun z hz hzo y hy hp=>?_,?_⟩,rfl,?_⟩
 ·rcases List.mem_append.1 h1 with h1|h1
  ·exact h.anc a h1
  ·rw [List.mem_singleton] at h1;exact h1▸ha
 ·rcases List.mem_append.1 h1 with h1|h1
  ·exact h.todo a (List.mem_cons_of_mem _ h1) h2
  ·obtain ⟨y,hy,rfl⟩:=h2;refine EF hg hx hy ha ?_;simpa using h1
 ·rcases h.self hx0 with h1|h1
  ·exact .inl (List.mem_append_left _ h1)
  ·rcases List.mem_cons.1 h1 with e|h1
   ·exact .inl (List.mem_append_right _ (List.mem_singleton.2 e))
   ·exact .inr (List.mem_append_left _ h1)
 ·rcases List.mem_append.1 hzo with h1|h1
  ·rcases h.up z hz h1 y hy hp with h2|h2
   ·exact .inl (List.mem_append_left _ h2)
   ·rcases List.mem_cons.1 h2 with e|h2
    ·exact .inl (List.mem_append_right _ (List.mem_singleton.2 e))
    ·exact .inr (List.mem_append_left _ h2)
  ·rw [List.mem_singleton] at h1;have e1:=lO hg.inc hz;have e2:=lO hg.inc hx;rw [h1,e2] at e1;cases e1;refine .inr (List.mem_append_right _ ?_);simpa using hp
 ·have:=h.len;simp only [List.length_cons,List.length_append,List.length_nil] at this ⊢;omega
 ·have:=LW (b:=l.map (·.i)) nd2 fun a h1=>by
   obtain ⟨y,hy,rfl⟩:=th2 a h1;exact List.mem_map.2 ⟨y,hy,rfl⟩
  simp only [List.length_append,List.length_cons,List.length_nil,List.length_map] at this;omega
theorem Bfs.done {l:List Ly} (hg:OkG l) {id:Int} {O:List Int} (h:Bfs l id [] O):(O.mergeSort fun x y=>decide (x≤y))=sO l id:=by
 have hm:∀ a,a∈O↔a∈sO l id:=fun a=>⟨h.anc a,fun ha=>sU (C:=fun a=>a∈O) (fun x hx e=>by
   rcases h.self ⟨x,hx,e⟩ with h1|h1
   ·exact e▸h1
   ·cases h1) (fun x hx hc y hy hp=>by
   rcases h.up x hx hc y hy hp with h1|h1
   ·exact h1
   ·cases h1) a ha⟩
 refine QZ ?_ (EE hg.inc id) fun a=>by rw [List.mem_mergeSort];exact hm a
 have hs:(O.mergeSort fun x y=>decide (x≤y)).Pairwise (fun x y=>decide (x≤y)=true):=List.pairwise_mergeSort (fun a b c h1 h2=>by simp only [decide_eq_true_eq] at *;omega) (fun a b=>by simp only [Bool.or_eq_true,decide_eq_true_eq];omega) O
 have hd:(O.mergeSort fun x y=>decide (x≤y)).Nodup:=(List.mergeSort_perm O _).nodup_iff.2 h.nd;exact (hs.and hd).imp fun {a b} h1=>by
  have h2:=h1.1;have h3:a≠b:=h1.2;simp only [decide_eq_true_eq] at h2;omega
end Go.Dm
end
