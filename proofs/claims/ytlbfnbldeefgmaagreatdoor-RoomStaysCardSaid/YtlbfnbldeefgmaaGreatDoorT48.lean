/- Part 49 of the proof of roomStays_card, set without needless blanks. No condition. -/
import Derived.Test.YtlbfnbldeefgmaaGreatDoorT45
import Derived.Test.YtlbfnbldeefgmaaGreatDoorT47
set_option linter.all false
set_option maxRecDepth 100000
set_option maxHeartbeats 16000000
section
namespace Go.Proofs.YtlbfnbldeefgmaaGreatDoor
open Go Go.Dm Go.Proofs Go.Proofs.Tryz
theorem zAi{h:aB}{i n:Nat}{l:List Nm}{K:DV->aB->Prop}(hl:l.length<=1000000)(hn:n=l.length)(hcl:h.all (bH h.length)=true)(h0:h[i]?=some (.arr 2 (aV l) false))(hk:K (.c (.p (.sl 2 (aV l)))) h):
  aA prog 51 [.c (.own i 0 n)] h K :=
 aA.mono (aA.dataRH (fF l) hcl (yX hl hn h0 ⟨rfl,rfl⟩)) (by rintro _ _ ⟨rfl,rfl⟩;exact hk)
theorem zCE{h:aB}{i n:Nat}{l:List Ly}{K:DV->aB->Prop}(hl:l.length<=1000000)(hn:n=l.length)(hcl:h.all (bH h.length)=true)(h0:h[i]?=some (.arr 4 (cM l) false))(hk:K (.c (.p (.sl 4 (cM l)))) h):
  aA prog 52 [.c (.own i 0 n)] h K :=
 aA.mono (aA.dataRH (eY l) hcl (zG9 hl hn h0 ⟨rfl,rfl⟩)) (by rintro _ _ ⟨rfl,rfl⟩;exact hk)
theorem zNM{l:List Nm}(hl:l.length<=1000000):aA prog 58 [.c (.p (.sl 2 (aV l))),.c (.p (.sl 2 (aV l)))] [] λr h=>r=.c (.p (.b true))/\h=[]:=by
 refine eT func58 λX0 hX=>?_;simp only[f58,go_sem]
 repeat' (first|exact⟨⟩|refine sp ?_)
 refine dE aD aL (α:=Nat) (λk=>⟨26,[(0,.c (.p (.sl 2 (aV l)))),(1,.c (.p (.sl 2 (aV l)))),(12,.c (.p (.i .i64 l.length))),(13,.c (.p (.i .i64 k)))],[]⟩)
  (λk=>k<=l.length) (λk=>l.length-k) 0 (Nat.zero_le _) (cJ (aF (by rw[hX];rfl) rfl rfl wkK)) ?_
 intro k hk;by_cases hlt:k<l.length
 .have hx:l[k]?=some l[k]:=List.getElem?_eq_getElem hlt;have hg:=jV hx;have h1:decide ((k:Int)<(l.length:Int))=true:=decide_eq_true (by omega);have h2:(k:Int)<(l.length:Int):=by omega
  have h3:(0:Int)<=k:=by omega
  have w1:IntKind.i64.wrap ((k:Int)+1)=k+1:=wrap_i64 (by omega) (by omega);generalize l[k]=x at hx hg;clear hx
  repeat' (first|exact⟨⟩|refine sp ?_|((refine aG (id:=6) aD aL [] [0,1,2,3,4,5,6,7,8] (by decide +kernel) ?_);(repeat' (first|(refine aO ?_)|((refine bK ?_ rfl rfl ?_ ?_);(rotate_left 1);(focus ((repeat' (first|exact⟨⟩|refine sp ?_|refine zOi ?_));exact rfl));(simp only[aC]))))))
  exact kT (k+1) (by omega) (by omega) (cJ (aF rfl rfl rfl wkK))
 .have h1:decide ((k:Int)<(l.length:Int))=false:=decide_eq_false (by omega)
  repeat' (first|exact⟨⟩|refine sp ?_)
theorem zPo{l:List Ly}(hl:l.length<=1000000):aA prog 59 [.c (.p (.sl 4 (cM l))),.c (.p (.sl 4 (cM l)))] [] λr h=>r=.c (.p (.b true))/\h=[]:=by
 refine eT func59 λX0 hX=>?_;simp only[f59,go_sem]
 repeat' (first|exact⟨⟩|refine sp ?_)
 refine dE aD aL (α:=Nat) (λk=>⟨26,[(0,.c (.p (.sl 4 (cM l)))),(1,.c (.p (.sl 4 (cM l)))),(12,.c (.p (.i .i64 l.length))),(13,.c (.p (.i .i64 k)))],[]⟩)
  (λk=>k<=l.length) (λk=>l.length-k) 0 (Nat.zero_le _) (cJ (aF (by rw[hX];rfl) rfl rfl wkK)) ?_
 intro k hk;by_cases hlt:k<l.length
 .have hx:l[k]?=some l[k]:=List.getElem?_eq_getElem hlt;have hg:=lZ hx;have h1:decide ((k:Int)<(l.length:Int))=true:=decide_eq_true (by omega);have h2:(k:Int)<(l.length:Int):=by omega
  have h3:(0:Int)<=k:=by omega
  have w1:IntKind.i64.wrap ((k:Int)+1)=k+1:=wrap_i64 (by omega) (by omega);generalize l[k]=x at hx hg;clear hx
  repeat' (first|exact⟨⟩|refine sp ?_|((refine aG (id:=6) aD aL [] [0,1,2,3,4,5,6,7,8] (by decide +kernel) ?_);(repeat' (first|(refine aO ?_)|((refine bK ?_ rfl rfl ?_ ?_);(rotate_left 1);(focus ((repeat' (first|exact⟨⟩|refine sp ?_|refine zN8 ?_));exact rfl));(simp only[aC]))))))
  exact kT (k+1) (by omega) (by omega) (cJ (aF rfl rfl rfl wkK))
 .have h1:decide ((k:Int)<(l.length:Int))=false:=decide_eq_false (by omega)
  repeat' (first|exact⟨⟩|refine sp ?_)
def zBG(r:Rm):aB:=[.box [.own 1 0 r.N.length,.own 2 0 r.L.length,.mp 3,.p (.i .i64 r.x)],.arr 2 (aV r.N) false,.arr 4 (cM r.L) false,.mp (jI r.E),.box [.p (.sl 2 (aV r.N)),.p (.sl 4 (cM r.L)),.mp 5,.p (.i .i64 r.x)],.mp (jI r.E)]
def DL(r:Rm):aB:=[.box [.own 1 0 r.N.length,.own 2 0 r.L.length,.mp 3,.p (.i .i64 r.x)],.arr 2 (aV r.N) false,.arr 4 (cM r.L) false,.mp (jI r.E),.box [.p (.sl 2 (aV r.N)),.p (.sl 4 (cM r.L)),.mp 5,.p (.i .i64 r.x)],.mp (jI r.E),.box [.ptr 0 0],.box [.ptr 4 0]]
theorem WV{r:Rm}{i p s:Int}{f:Bool}(hE:OkE (lH r.E i)):aA prog 61 [.agg [.p (.i .i64 i),.p (.i .i64 p),.p (.i .i64 s),.p (.b f)],.c (.ptr 6 0),.c (.ptr 7 0)] (DL r)
  λd h=>d=.c (.p (.b false))/\h=DL r:=by
 have hs:=VQ (a:=lH r.E i) (b:=lH r.E i) (Nat.le_trans hE.len (by decide)) (Nat.le_trans hE.len (by decide));rw[BV λx hx=>hE.tlen x hx] at hs;unfold DL;clear hE;refine eT func61 λX0 hX=>?_;simp only[f61,go_sem]
 repeat' (first|exact⟨⟩|refine sp ?_|((refine aG (id:=1) aD aL [] [0,1,2,3,4,5,6,7,8,9,10,11,12,13,14,15,16] (by decide +kernel) ?_);(repeat' (first|(refine aO ?_)|((refine bK ?_ rfl rfl ?_ ?_);(rotate_left 1);(focus ((repeat' (first|exact⟨⟩|refine sp ?_|refine uF (hs) ?_));exact rfl));(simp only[aC]))))))
theorem QK{r:Rm}(hr:OkR r):aA prog 118 [.c (.own 2 0 r.L.length),.c (.clo 61 [.ptr 6 0,.ptr 7 0])] (DL r)
  λd h=>d=.c (.p (.i .i64 (-1)))/\h=DL r:=by
 have hll:=hr.ll;have hc:=λ(x:Ly) (hx:x∈r.L)=>WV (p:=x.p) (s:=x.s) (f:=x.f) (hr.ent x hx);unfold DL at *;clear hr;refine eT func118 λX0 hX=>?_;simp only[f118,go_sem]
 repeat' (first|exact⟨⟩|refine sp ?_)
 refine dE aD aL (α:=Nat) (λk=>⟨19,[(0,.c (.own 2 0 r.L.length)),(1,.c (.clo 61 [.ptr 6 0,.ptr 7 0])),(7,.c (.p (.i .i64 r.L.length))),(8,.c (.p (.i .i64 k)))],[.box [.own 1 0 r.N.length,.own 2 0 r.L.length,.mp 3,.p (.i .i64 r.x)],.arr 2 (aV r.N) false,.arr 4 (cM r.L) false,.mp (jI r.E),.box [.p (.sl 2 (aV r.N)),.p (.sl 4 (cM r.L)),.mp 5,.p (.i .i64 r.x)],.mp (jI r.E),.box [.ptr 0 0],.box [.ptr 4 0]]⟩)
  (λk=>k<=r.L.length) (λk=>r.L.length-k) 0 (Nat.zero_le _) (cJ (aF (by rw[hX];rfl) rfl rfl wkK)) ?_
 intro k hk;by_cases hlt:k<r.L.length
 .have hx:r.L[k]?=some r.L[k]:=List.getElem?_eq_getElem hlt;have hg:=lZ hx;have hc:=hc _ (List.getElem_mem hlt);have h1:decide ((k:Int)<(r.L.length:Int))=true:=decide_eq_true (by omega);have h2:(k:Int)<(r.L.length:Int):=by omega
  have h3:(0:Int)<=k:=by omega
  have w1:IntKind.i64.wrap ((k:Int)+1)=k+1:=wrap_i64 (by omega) (by omega);generalize r.L[k]=x at hx hg hc;clear hx
  repeat' (first|exact⟨⟩|refine sp ?_|refine uS [0,1,2,3,4,5,6,7] (hc) ?_)
  exact kT (k+1) (by omega) (by omega) (cJ (aF rfl rfl rfl wkK))
 .have h1:decide ((k:Int)<(r.L.length:Int))=false:=decide_eq_false (by omega);clear hc
  repeat' (first|exact⟨⟩|refine sp ?_)
theorem QJ{r:Rm}(hr:OkR r):aA prog 60 [.c (.own 2 0 r.L.length),.c (.clo 61 [.ptr 6 0,.ptr 7 0])] (DL r)
  λd h=>d=.c (.p (.b false))/\h=DL r:=by
 have hc:=QK hr;unfold DL at *;clear hr;refine eT func60 λX0 hX=>?_;simp only[f60,go_sem]
 repeat' (first|exact⟨⟩|refine sp ?_|refine uS [0,1,2,3,4,5,6,7] (hc) ?_)
theorem zBO{r:Rm}(hr:OkR r):aA prog 15 [.c (.ptr 0 0),.c (.ptr 4 0)] (zBG r) λd h=>d=.c (.p (.b true))/\h=zBG r:=by
 have hnl:=hr.nl;have hll:=hr.ll;have hc:=QJ hr;have k1:∀{h:aB} {K:DV->aB->Prop},h[1]?=some (.arr 2 (aV r.N) false)->K (.c (.p (.b true))) h->aA prog 58 [.c (.own 1 0 r.N.length),.c (.p (.sl 2 (aV r.N)))] h K:=λh0 hk =>
  XF rfl (by rw[<- fF,List.take_length]) (zNM (by omega)) h0 (λd hd=>by subst hd;exact⟨rfl,hk⟩)
 have k2:∀{h:aB} {K:DV->aB->Prop},h[2]?=some (.arr 4 (cM r.L) false)->K (.c (.p (.b true))) h->aA prog 59 [.c (.own 2 0 r.L.length),.c (.p (.sl 4 (cM r.L)))] h K:=λh0 hk =>
  XF rfl (by rw[<- eY,List.take_length]) (zPo (by omega)) h0 (λd hd=>by subst hd;exact⟨rfl,hk⟩)
 unfold DL at hc;unfold zBG;clear hr;refine eT func15 λX0 hX=>?_;simp only[f15,go_sem]
 repeat' (first|exact⟨⟩|refine sp ?_|((refine aG (id:=1) aD aL [] [0,1,2,3,4,5,6,7,8,9,10,11,12,13,14,15,16,17,18,19,20,21,22,23,24,25,26,27,28,29,30,31,32,33,34,35,36,37,38,39,40] (by decide +kernel) ?_);(repeat' (first|(refine aO ?_)|((refine bK ?_ rfl rfl ?_ ?_);(rotate_left 1);(focus ((repeat' (first|exact⟨⟩|refine sp ?_|refine k1 rfl ?_|refine k2 rfl ?_));exact rfl));(simp only[aC])))))|refine uS [0,1,2,3,4,5,6,7] (hc) ?_)
theorem ZM:∀(l:List (Int × PV)) (n:Int) (x:PV),(∀e∈l,e.1≠n)->CX l n x=l++[(n,x)]
 | [],_,_,_=>rfl
 | e::es,n,x,h=>by
  simp only[CX];rw[if_neg (h e List.mem_cons_self),ZM es n x λe he=>h e (List.mem_cons_of_mem _ he)];rfl
theorem zK0{es:List (Int × PV)}{js:List Nat}{j:Nat}{y:Int × PV}(hn:(es.map (·.1)).Nodup)(hy:es[j]?=some y)(hj:j ∉ js):∀e∈xB es js,e.1≠y.1:=by
 intro e he h;unfold xB at he;obtain⟨k,hk,hke⟩:=List.mem_filterMap.1 he;have hp:=List.pairwise_iff_getElem.1 hn;obtain⟨k1,k2⟩:=List.getElem?_eq_some_iff.1 hke;obtain⟨j1,j2⟩:=List.getElem?_eq_some_iff.1 hy;rcases Nat.lt_trichotomy k j with h3|rfl|h3
 .exact hp k j (by simpa using k1) (by simpa using j1) h3 (by simp[k2,j2,h])
 .exact hj hk
 .exact hp j k (by simpa using j1) (by simpa using k1) h3 (by simp[k2,j2,h])
theorem zBH{r:Rm}(hr:OkR r):aA prog 13 [.c (.ptr 0 0)] (aS r) λd h=>d=.c (.ptr 4 0)/\h=zBG r:=by
 have hnl:=hr.nl;have hll:=hr.ll;have k1:∀{h:aB} {K:DV->aB->Prop},h[1]?=some (.arr 2 (aV r.N) false)->h.all (bH h.length)=true->K (.c (.p (.sl 2 (aV r.N)))) h->aA prog 51 [.c (.own 1 0 r.N.length)] h K:=λh0 hc hk=>zAi (by omega) rfl hc h0 hk;have k2:∀{h:aB} {K:DV->aB->Prop},h[2]?=some (.arr 4 (cM r.L) false)->h.all (bH h.length)=true->K (.c (.p (.sl 4 (cM r.L)))) h->aA prog 52 [.c (.own 2 0 r.L.length)] h K:=λh0 hc hk=>zCE (by omega) rfl hc h0 hk;clear hr;refine aA.perm [0,1,2,3,5,4] (d1:=.c (.ptr 5 0)) (h1:=[.box [.own 1 0 r.N.length,.own 2 0 r.L.length,.mp 3,.p (.i .i64 r.x)],.arr 2 (aV r.N) false,.arr 4 (cM r.L) false,.mp (jI r.E),.mp (jI r.E),.box [.p (.sl 2 (aV r.N)),.p (.sl 4 (cM r.L)),.mp 4,.p (.i .i64 r.x)]]) ?_ rfl rfl (by unfold zBG;exact hpK);refine zPm aD func13 rfl rfl λX0 hX=>?_;simp only[f13,go_sem];refine cC aD aL ?_
 repeat' (first|exact⟨⟩|refine sp ?_)
 refine cC aD aL ?_
 repeat' (first|exact⟨⟩|refine sp ?_|((refine aG (id:=1) aD aL [10,16] [10,0,1,2,3,4,5,6,7,8,9,11,12,13,14,15,16,17] (by decide +kernel) ?_);(repeat' (first|(refine aO ?_)|((refine cR ?_ ?_ rfl rfl rfl ?_ ?_);(rotate_left 2);(focus ((repeat' (first|exact⟨⟩|refine sp ?_));((refine And.intro ?_ ?_<;>exact rfl))));(simp only[aC]))|((refine cQ ?_ rfl rfl rfl ?_ ?_);(rotate_left 1);(focus ((repeat' (first|exact bB|refine aR ?_ ?_));(all_goals ((repeat' (first|exact⟨⟩|refine sp ?_|refine k1 rfl rfl ?_|refine k2 rfl rfl ?_));(try (exact rfl))))));(simp only[aC]))))))
 refine CH ?_;refine zGh aD 4 (i:=27) (mid:=3) [4,5] [.mp [],.box [.p (.sl 2 (aV r.N)),.p (.sl 4 (cM r.L)),.mp 0,.p (.i .i64 r.x)]] [(3,.c (.ptr 1 0))] (jI r.E) rfl rfl rfl rfl Tryz.underlying103 (by decide) ?_;intro K hK
 replace hK:=PLift.up hK
 repeat' (first|exact⟨⟩|refine sp ?_)
 refine hK.down _ _ _ (by decide) rfl rfl rfl (by simp only[go_sem]) wpK ?_;clear hK k1 k2;intro b m ms c es' Y0 hpm hnd hlen hb hY;have hbn:(ms.toList.map (·.born)).Nodup:=List.pairwise_map.2 (hb.1.imp λh=>Nat.ne_of_lt h)
 refine GJ ?_;refine zGi (α:=List Nat) (λjs=>⟨40,[(27,.c (.p (.o (.pointer (some ⟨b,0,none⟩))))),(3,.c (.ptr 1 0))],[.mp (xB es' js),.box [.p (.sl 2 (aV r.N)),.p (.sl 4 (cM r.L)),.mp 0,.p (.i .i64 r.x)]]⟩) (λjs=>(jH ms js,c))
  (λjs=>js.Nodup/\∀k∈js,k<ms.toList.length) (λjs=>ms.toList.length-js.length) [] ⟨List.nodup_nil,by simp⟩ rfl (aF (by rw[hY];rfl) rfl rfl wkK) ?_
 rintro js ⟨hn,hj⟩;refine KP ?_;refine zGj aD (i:=28) rfl rfl rfl (by decide) rfl hb.2 (Nat.le_refl _) ?_ ?_
 .intro hz K hK
  replace hK:=PLift.up hK
  have hall:=zCv hb hj hz;have hpm2:(xB es' js).Perm (jI r.E):=(zG4 hn (by rw[hlen];exact hj) (by rw[hlen];exact hall)).trans hpm;clear hall hz hlen
  repeat' (first|exact⟨⟩|refine sp ?_)
  refine hK.down _ ?_;simp only[zO7];refine XE aD aL λX1 hX1=>?_;clear hK
  repeat' (first|exact⟨⟩|refine sp ?_)
  refine zJE (s':=⟨40,[(3,.c (.ptr 5 0))],[.box [.own 1 0 r.N.length,.own 2 0 r.L.length,.mp 3,.p (.i .i64 r.x)],.arr 2 (aV r.N) false,.arr 4 (cM r.L) false,.mp (jI r.E),.mp (jI r.E),.box [.p (.sl 2 (aV r.N)),.p (.sl 4 (cM r.L)),.mp 4,.p (.i .i64 r.x)]]⟩) ((zLV (es2:=jI r.E) 4 rfl hpm2).trans (cJ (aF (by rw[hX];rfl) rfl rfl wkK))) ?_;refine jF aD aL ?_
  repeat' (first|exact⟨⟩|refine sp ?_)
 .intro j e y hje hyj hnc K hK
  replace hK:=PLift.up hK
  have hnew:j ∉ js:=λh=>by rw[zCw hje h] at hnc;cases hnc
  have hjl:j<ms.toList.length:=(List.getElem?_eq_some_iff.1 hje).1;have hset:=ZM (xB es' js) y.1 y.2 (zK0 hnd hyj hnew);have hsn:=zG5 (js:=js) hyj;have hbs:=zAc (js:=js) hje;have hyl:∃n l,y=(n,PV.sl 7 (gD l)):=by
   have:=hpm.mem_iff.1 (List.mem_of_getElem? hyj);obtain⟨z,_,rfl⟩:=List.mem_map.1 this;exact⟨_,_,rfl⟩
  obtain ⟨yn,yl,rfl⟩:=hyl;simp only at hset;rw[<- hsn] at hset;have hJ:PLift ((js++[j]).Nodup/\∀k∈js++[j],k<ms.toList.length):=⟨zA9 hn hnew,λk hk=>by
   rcases List.mem_append.1 hk with h|h
   .exact hj k h
   .rw[List.mem_singleton.1 h];exact hjl⟩
  have hmu:ms.toList.length-(js++[j]).length<ms.toList.length-js.length:=by
   have:=zA8 hJ.down.1 hJ.down.2;rw[List.length_append] at this;simp only[List.length_append,List.length_cons,List.length_nil] at this ⊢;omega
  clear hnc hnew hlen hsn
  repeat' (first|exact⟨⟩|refine sp ?_)
  refine hK.down _ ?_;simp only[zO7];clear hK;refine zB1 aD aL λX1 hX1=>?_
  repeat' (first|exact⟨⟩|refine sp ?_)
  refine GJ ?_;refine KP ?_;refine zB0 aD (i:=30) rfl rfl rfl (by decide) rfl rfl hje hyj hbn ?_;intro K2 hK2
  replace hK2:=PLift.up hK2
  repeat' (first|exact⟨⟩|refine sp ?_)
  refine hK2.down _ ?_;simp only[zO7];clear hK2;refine XE aD aL λX2 hX2=>?_
  repeat' (first|exact⟨⟩|refine sp ?_)
  exact zPH (js++[j]) hJ.down hmu (by rw[hbs]) (aF rfl rfl rfl wkK)
theorem QG:aA prog 8 [] [] λd h=>d=.c (.ptr 0 0)/\h=aS zNa:=by
 refine aA.perm [3,0,1,2] (d1:=.c (.ptr 3 0)) (h1:=[.arr 2 (aV zNa.N) false,.arr 4 (cM zNa.L) false,.mp [],.box [.own 0 0 1,.own 1 0 2,.mp 2,.p (.i .i64 3)]]) ?_ rfl rfl (by unfold aS;exact hpK);refine nJ aD aL func8 rfl rfl λX0 hX=>?_;simp only[Tryz.f8,go_sem]
 repeat' (first|exact⟨⟩|refine sp ?_|refine ai ?_)
 all_goals rfl
theorem zL4{p:List UInt8}:aA prog 41 [.c (.p (.s p))] [] λr h=>r=.agg (clc 1 p [] 493 0 0 0 [])/\h=[]:=by
 refine aI ?_;refine eT func41 λX0 hX=>?_;simp only[f41,go_sem]
 repeat' (first|exact⟨⟩|refine sp ?_)
 all_goals (repeat' (exact .inr ⟨_,rfl⟩))
theorem zQb{r r':Rm}{d:Dr}{s p:List UInt8}{a:An}(h:Sim r d)(hp:p.length<=1000)(he:KU r s (mkS p)=(r',a)):
  aA prog 10 [.c (.ptr 0 0),.c (.p (.s s)),.agg (clc 1 p [] 493 0 0 0 [])] (aS r) λd h=>d=.agg (anv a)/\h=aS r' :=
 zQa h (by decide) (by omega) (by decide) (by decide) (by decide) he
theorem zEy:aA prog 9 [] [] λr h=>r=.c (.p (.b true))/\h=[]:=by
 obtain⟨r1,r2,r3,d1,d2,d3,a,b,e1,s1,e2,a2,s2,e3,b3,s3,n3,x3⟩:=VO;have c1:=YH (s:=jK) (sn:=v1S) VZ (by decide) e1;have m:=zL4 (p:=[97]);have c2:=zQb (s:=v1S) s1 (by decide) e2;have c3:=zQb (s:=jK) s2 (by decide) e3;have c4:=BS s3.okR;have c5:=zBN (r:=r3);obtain⟨ae,⟨ak,am,at_,ad⟩,ab,al⟩:=a;obtain⟨be,⟨bk,bm,bt,bd⟩,bb,bl⟩:=b;simp only at a2 b3;subst a2 b3;rw[x3] at c5;have hn:((r3.N.length:Int)==2)=true:=by rw[n3];rfl
 clear n3 x3;clear e1 s1 e2 s2 e3 s3;refine eT func9 λX0 hX=>?_;simp only[f9,go_sem]
 repeat' (first|exact⟨⟩|refine sp ?_|refine uS [] (QG) ?_|refine uS [0,1,2,3] (c1) ?_|refine uN (m) ?_|refine uS [0,4,5,6] (c2) ?_|refine uS [0,4,5,6] (c3) ?_|refine uS [0,4,5,6] (c4) ?_|refine uS [0,4,5,6] (c5) ?_)
end Go.Proofs.YtlbfnbldeefgmaaGreatDoor
end
section
namespace Go.Dm
open Go
section
variable {l:List Ly}{b:Bool}{i:Nat}{x:Ly}{id:Int}{B:List Bool}{W:List Int}
def zM8(l:List Bool):List (List PV):=l.map λb=>[.b b]
theorem zH6(l:List Bool):(zM8 l).length=l.length:=by simp[zM8]
theorem zH7(l:List Bool):(∀x∈zM8 l,x.length=1)=True:=eq_true λx hx=>by
 obtain⟨y,_,rfl⟩:=List.mem_map.1 hx;rfl
theorem zH8(l:List Bool)(k:Nat)(b:Bool):(zM8 l).set k [.b b]=zM8 (l.set k b):=by simp[zM8,List.map_set]
attribute [go_sem] zH6 zH7 zH8
def zO6: List Ly->List Bool->List Int
 | x::l,b::B=>(if b then [x.i] else [])++zO6 l B
 | _,_=>[]
theorem PE: ∀{l:List Ly} {B:List Bool} {k:Nat} {x:Ly} {b:Bool},l[k]?=some x->B[k]?=some b->zO6 (l.drop k) (B.drop k)=(if b then [x.i] else [])++zO6 (l.drop (k+1)) (B.drop (k+1))
 | [],_,_,_,_,h,_=>by simp at h
 | _::_,[],_,_,_,_,h=>by simp at h
 | y::l,c::B,0,x,b,h1,h2=>by
  simp only[List.getElem?_cons_zero,Option.some.injEq] at h1 h2;subst h1 h2;rfl
 | y::l,c::B,k+1,x,b,h1,h2=>by
  simp only[List.getElem?_cons_succ] at h1 h2;simp only[List.drop_succ_cons];exact PE h1 h2
structure AncAt (l:List Ly) (id:Int) (m:Nat) (B:List Bool) (W:List Int):Prop where
 len:B.length=l.length
 le:m<=l.length
 lo:∀(k:Nat) (x:Ly),k<m->l[k]?=some x->B[k]?=some (W.contains x.i)
 out:GW (l.take m).reverse (id::W)++zO6 (l.drop m) (B.drop m)=pW l id
theorem zJJ(h:l[i]?=some x):(l.take (i+1)).reverse=x::(l.take i).reverse:=by
 rw[List.take_add_one,h];simp
theorem AncAt.no(h:AncAt l id (i+1) B W)(hx:l[i]?=some x)(hb:B[i]?=some false)(hi:(x.i==id)=false):AncAt l id i B W where
 len:=h.len
 le:=Nat.le_of_succ_le h.le
 lo:=λk y hk hy=>h.lo k y (by omega) hy
 out:=by
  have h1:=h.lo i x (by omega) hx;rw[hb] at h1;have h2:=h.out;rw[zJJ hx] at h2;simp only[GW] at h2;rw[if_neg (by simp only[List.contains_cons,hi,Bool.false_or];rw[<- Option.some.inj h1];decide)] at h2;rw[PE hx hb];simpa using h2
end
end Go.Dm
end
section
namespace Go.Proofs.YtlbfnbldeefgmaaGreatDoor
open Go Go.Dm Go.Proofs Go.Proofs.Tryz
theorem zLC{l:List Ly}{a:Int}(hl:l.length<=1000000):aA prog 79 [.c (.p (.sl 4 (cM l))),.c (.p (.i .i64 a))] [] λr h=>r=.tup [.agg ((dR l a).getD ly0).cv,.c (.p (.b (dR l a).isSome))]/\h=[]:=by
 refine eT func79 λX0 hX=>?_;simp only[f79,go_sem]
 repeat' (first|exact⟨⟩|refine sp ?_)
 refine dE aD aL (α:=Nat) (λk=>⟨25,[(0,.c (.p (.sl 4 (cM l)))),(1,.c (.p (.i .i64 a))),(4,.c (.ptr 0 0)),(6,.c (.p (.i .i64 k)))],[.box [.p (.i .i64 0),.p (.i .i64 0),.p (.i .i64 0),.p (.b false)]]⟩)
  (λk=>k<=l.length/\∀(j:Nat) (y:Ly),j<k->l[j]?=some y->(y.i==a)=false) (λk=>l.length-k) 0 ⟨Nat.zero_le _,λj y h=>by omega⟩ (cJ (aF (by rw[hX];rfl) rfl rfl wkK)) ?_
 rintro k ⟨hk,hs⟩;by_cases hlt:k<l.length
 .have hx:l[k]?=some l[k]:=List.getElem?_eq_getElem hlt;have hg:=lZ hx;have h1:decide ((k:Int)<(l.length:Int))=true:=decide_eq_true (by omega);have h2:(k:Int)<(l.length:Int):=by omega
  have h3:(0:Int)<=k:=by omega
  have w1:IntKind.i64.wrap ((k:Int)+1)=k+1:=wrap_i64 (by omega) (by omega);generalize l[k]=x at hx hg;cases hb:(x.i==a)
  .have hJ:PLift (k+1<=l.length/\∀(j:Nat) (y:Ly),j<k+1->l[j]?=some y->(y.i==a)=false):=⟨by omega,λj y hj hy=>by
    rcases Nat.lt_or_ge j k with h|h
    .exact hs j y h hy
    .have:j=k:=by omega
     subst this;rw[hx] at hy;cases hy;exact hb⟩
   clear hs hx
   repeat' (first|exact⟨⟩|refine sp ?_)
   exact kT (k+1) hJ.down (by omega) (cJ (aF rfl rfl rfl wkK))
  .have hJ:=PLift.up (VI hs hx hb).2;clear hs hx
   repeat' (first|exact⟨⟩|refine sp ?_)
   all_goals rw[hJ.down]
   all_goals rfl
 .have h1:decide ((k:Int)<(l.length:Int))=false:=decide_eq_false (by omega);have hJ:PLift (dR l a=none):=⟨List.find?_eq_none.2 λx hx=>by
   obtain⟨j,hj⟩:=List.mem_iff_getElem?.1 hx;have:=hs j x (by have:=(List.getElem?_eq_some_iff.1 hj).1;omega) hj;rw[this];decide⟩
  clear hs
  repeat' (first|exact⟨⟩|refine sp ?_)
  all_goals rw[hJ.down]
  all_goals rfl
end Go.Proofs.YtlbfnbldeefgmaaGreatDoor
end
section
namespace Go.Proofs.YtlbfnbldeefgmaaGreatDoor
open Go Go.Dm Go.Proofs.Tryz
theorem zMl{a:List It}(ha:a.length<=1000000):aA prog 16 [.c (.p (.sl 5 (aQ a))),.c (.p (.sl 5 (aQ a)))] [] λr h=>r=.c (.p (.b true))/\h=[]:=by
 refine eT func16 λX0 hX=>?_;simp only[f16,go_sem]
 repeat' (first|exact⟨⟩|refine sp ?_)
 refine aY aD aL (α:=Nat) (λk=>⟨42,[(0,.c (.p (.sl 5 (aQ a)))),(1,.c (.p (.sl 5 (aQ a)))),(5,.c (.p (.i .i64 k)))],[]⟩)
  (λk=>k<=a.length) (λk=>a.length-k) 0 (Nat.zero_le _) (.inl (aF (by rw[hX];rfl) rfl rfl wkS)) ?_
 intro k hk;by_cases hlt:k<a.length
 .have hx:a[k]?=some a[k]:=List.getElem?_eq_getElem hlt;have hg:=cZ hx;have h1:decide ((k:Int)<(a.length:Int))=true:=decide_eq_true (by omega);have hli:(k:Int)<(a.length:Int):=by omega
  have hk0:(0:Int)<=k:=by omega
  have w1:IntKind.i64.wrap ((k:Int)+1)=k+1:=wrap_i64 (by omega) (by omega);generalize a[k]=x at hx hg;have e1:=sE x.n;clear hx
  repeat' (first|exact⟨⟩|refine sp ?_|((refine aG (id:=6) aD aL [] [0,1,2,3,4,5,6,7,8,9,10,11,12,13,14,15,16,17,18,19,20,21,22,23,24] (by decide +kernel) ?_);(repeat' (first|(refine aO ?_)|((refine bK ?_ rfl rfl ?_ ?_);(rotate_left 1);(focus ((repeat' (first|exact⟨⟩|refine sq ?_|refine uF (zBQ) ?_));exact rfl));(simp only[aC]))))))
  exact gZ (k+1) (by omega) (by omega) (aF rfl rfl rfl wkS)
 .have h1:decide ((k:Int)<(a.length:Int))=false:=decide_eq_false (by omega)
  repeat' (first|exact⟨⟩|refine sp ?_)
end Go.Proofs.YtlbfnbldeefgmaaGreatDoor
end
section
namespace Go.Dm
open Go
section
variable {N:List Nm}{q s:List UInt8}{d:Dr}{r r':Rm}{p:Int}{t:List It}
theorem AZ(h:∀x∈N,x.n≠q):fV N q=none:=List.find?_eq_none.2 λx hx=>by
 have:=h x hx;simpa using this
theorem PA(h:wZ N)(s:List UInt8)(id:Int)(q:List UInt8):fV (bL N s id) q=if q=s then some ⟨s,id⟩ else fV N q:=by
 have hs:=jC h s id;split
 .rename_i e;subst e;exact JQ hs (x:=⟨q,id⟩) ((jB h).2 (.inl rfl))
 .rename_i hne;cases hn:fV N q with
  | some x =>
   obtain⟨h1,rfl⟩:=cN hn;exact JQ hs ((jB h).2 (.inr ⟨h1,hne⟩))
  | none =>
   refine AZ λx hx e=>?_;rcases (jB h).1 hx with rfl|⟨h1,_⟩
   .exact hne e.symm
   .have:=WC hn x h1;simp[e] at this
theorem zE9(h:wZ N)(s:List UInt8)(q:List UInt8):fV (lI N s) q=if q=s then none else fV N q:=by
 have hs:=tC h s;split
 .rename_i e;subst e;exact AZ λx hx=>(iA.1 hx).2
 .rename_i hne;cases hn:fV N q with
  | some x =>
   obtain⟨h1,rfl⟩:=cN hn;exact JQ hs (iA.2 ⟨h1,hne⟩)
  | none =>
   refine AZ λx hx e=>?_;have:=WC hn x (iA.1 hx).1;simp[e] at this
theorem dO(h:OkW d){n:Nm}(hn:fV d.N q=some n):aW d q=(bU d n.l,0):=by
 obtain⟨h1,h2⟩:=cN hn;obtain⟨y,_,h3,h4⟩:=h.named h1;have:=h.g.lo1 _ (oK h3);unfold aW bQ;rw[hn];show (if n.l==0 then _ else _)=_
 rw[if_neg (by simp;omega)]
theorem jG(hn:fV d.N q=none):aW d q=([],6):=by
 unfold aW bQ;rw[hn];rfl
theorem zIK(h:SimW r d):OkW (oY d):=by
 have hG:=zEx h.g.inc;have hcl:=rR h.g (mF d.N);have hpg:OkG (oY d).G:=by rw[hG,tK];exact JT h.g hcl
 have hm:∀y,y∈(oY d).L↔y∈d.L/\rQ d.G (mF d.N) y.1.i=true:=λy=>yA h.g.inc;have hnm:∀n∈d.N,rQ d.G (mF d.N) n.l=true:=λn hn=>by
  obtain⟨y,_,h1,h2⟩:=h.toOkW.named hn;exact VN hn (by rw[<- h2];exact mH (oK h1))
 exact { g:=hpg,t:=λy hy=>h.t y ((hm y).1 hy).1,srt:=h.srt,nm:=λn hn=>(by obtain⟨h1,y,h2,h3⟩:=h.nm n hn;exact⟨h1,y,(hm y).2 ⟨h2,by rw[h3];exact hnm n hn⟩,h3⟩),one:=λn hn m hmm e hfz=>h.one n hn m hmm e λy h2 h3=>hfz y ((hm y).2 ⟨h2,by rw[h3];exact hnm n hn⟩) h3,nx:=⟨λy hy=>h.nx.1 y ((hm y).1 hy).1,h.nx.2⟩,ln:=h.ln }
theorem AG(h:SimW r d)(q:List UInt8):aW (oY d) q=aW d q:=by
 cases hn:fV d.N q with
 | none=>rw[jG hn,jG (d:=oY d) hn]
 | some n =>
  rw[dO h.toOkW hn,dO (zIK h) (q:=q) (n:=n) hn];obtain⟨h1,_⟩:=cN hn;obtain⟨y,_,h3,h4⟩:=h.toOkW.named h1;rw[NL h.g (.inr (VN h1 (by rw[<- h4];exact mH (oK h3))))]
theorem VX(h:SimW r d){q:Int}(hw:SimW r' (gN d s p q t))(z:List UInt8):aW (gN d s p q t) z=if z=s then (t,0) else aW d z:=by
 have hnm:=PA h.srt s d.x z;split
 .rename_i e;rw[if_pos e] at hnm;rw[dO hw.toOkW (show fV (gN d s p q t).N z=some ⟨s,d.x⟩ from hnm)]
  have:(⟨d.x,p,q,false⟩,t)∈(gN d s p q t).L:=by
   show _∈d.L++[_];exact List.mem_append_right _ (List.mem_singleton.2 rfl)
  rw[iX hw.g.inc this]
 .rename_i hne;rw[if_neg hne] at hnm;cases hn:fV d.N z with
  | none =>
   rw[hn] at hnm;rw[jG hn,jG (d:=gN d s p q t) hnm]
  | some n =>
   rw[hn] at hnm;rw[dO h.toOkW hn,dO hw.toOkW (show fV (gN d s p q t).N z=some n from hnm)]
   obtain⟨h1,_⟩:=cN hn;obtain⟨y,_,h3,h4⟩:=h.toOkW.named h1;have:=h.nx.1 y h3;rw[AO h.toOkW hw.g.inc n.l (by omega)]
theorem VG(h:SimW r d){q:Int}(hw:SimW r' (gN d s p q t))(z:List UInt8):aW (DG d s p q t) z=if z=s then (t,0) else aW d z:=by
 rw[tJ,AG hw,VX h hw]
theorem TQ(h:Sim r d)(s z:List UInt8):aW (TN d s).1 z=if z=s then ([],6) else aW d z:=by
 unfold TN;rw[h.toOkW.name0];cases hs:(fV d.N s).isSome
 .simp only[Bool.not_false,if_true];split
  .rename_i e;subst e;exact jG (by cases hz:fV d.N z with
    | none=>rfl
    | some x=>rw[hz] at hs;cases hs)
  .rfl
 .simp only[Bool.not_true,Bool.false_eq_true,if_false];have hw:=mW h.toSimW (N:=lI d.N s) (tC h.srt s) (λn hn=>h.nm n (iA.1 hn).1) (λn hn m hm=>h.one n (iA.1 hn).1 m (iA.1 hm).1) (Nat.le_trans (zP _ _) h.ln);rw[AG hw];have hd:=zE9 h.srt s z;split
  .rename_i e;rw[if_pos e] at hd;exact jG (d:=⟨d.L,lI d.N s,d.x⟩) hd
  .rename_i hne;rw[if_neg hne] at hd;cases hz:fV d.N z with
   | none =>
    rw[hz] at hd;rw[jG hz,jG (d:=⟨d.L,lI d.N s,d.x⟩) hd]
   | some n =>
    rw[hz] at hd;rw[dO h.toOkW hz,dO hw.toOkW (d:=⟨d.L,lI d.N s,d.x⟩) hd];rfl
end
section
section
variable {r:Rm}{T:Nat->List It}{t:List It}{k:Nat}
theorem zAI{s sn:List UInt8}(h:(gK r s sn).2≠0):(gK r s sn).1=r:=by
 unfold gK at h ⊢
 repeat' split
 all_goals first
  | rfl
  | (exfalso;revert h;simp_all)
end
end
end Go.Dm
end
